/-
  THE WALKS of functions of this seat, by program (gen.py).
-/
import Derived.Test.YtmbhdelegdhieaaH
import Derived.Test.YtmbhdelegdhieaaWFnExactIsShow
set_option linter.unusedSimpArgs false
set_option linter.unusedVariables false
set_option maxRecDepth 100000
namespace Go.Proofs.Ytmbhdelegdhieaa
open Go Go.RowKit
theorem C_laws_szMeasureS (w0 : World) (x0 : (List (Int × Int))) (v0_0 : Value) (h0_0 : rdS ty_95 (· < w0.heap.size) w0 v0_0 x0) (x1 : Int) (r : Int) (hF : F_laws_szMeasureS x0 x1 = some r) :
    Calls Try.prog 22 [v0_0, (.int .i64 x1)].toArray w0 fun e w' => e = .returned (.int .i64 r) ∧ Below w0.heap.size w0 w' := by
  refine calls_mk' Try.func22 rfl Try.ntmps22 rfl rfl fun Q hQ hP => ?_
  have hB : Below w0.heap.size w0 w0 := Below.refl _ _
  have hS : Sep w0.heap.size w0 [] := Sep.nil _ _
  unfold F_laws_szMeasureS at hF
  refine W.seq fun K1 hK1 => ?_
  refine W.region ?_
  refine wl_assign rfl rfl ?_
  refine WL.nil ?_
  refine fun a ha => hK1 _ _ ?_ a ha
  refine W.seq fun K2 hK2 => ?_
  refine W.region ?_
  refine wl_move rfl rfl ?_
  refine wl_move rfl rfl ?_
  refine wl_lenr (e := ty_95) (l := x0) Try.underlying36 rfl rfl h0_0 ?_
  refine wl_sub rfl rfl rfl ?_
  refine wl_assign rfl rfl ?_
  refine WL.nil ?_
  refine fun a ha => hK2 _ _ ?_ a ha
  refine W.seq fun K3 hK3 => ?_
  refine W.seq fun K4 hK4 => ?_
  refine W.region ?_
  refine wl_move rfl rfl ?_
  refine wl_lss rfl rfl rfl ?_
  refine WL.nil ?_
  refine fun a ha => hK4 _ _ ?_ a ha
  refine W.cond rfl (fun h5 => ?_) (fun h5 => ?_)
  · replace hF := ifP h5 hF
    refine W.seq fun K6 hK6 => ?_
    refine W.region ?_
    refine wl_assign rfl rfl ?_
    refine WL.nil ?_
    refine fun a ha => hK6 _ _ ?_ a ha
    refine W.ret ?_
    have hr := Option.some.inj hF
    subst hr
    exact rets (vs := [(.int .i64 (-1))]) hQ rfl ⟨rv_tmp rfl, trivial⟩ ⟨rfl, hB⟩
  · replace hF := ifN h5 hF
    refine W.skip ?_
    refine fun a ha => hK3 _ _ ?_ a ha
    refine W.seq fun K7 hK7 => ?_
    refine W.region ?_
    refine wl_move rfl rfl ?_
    refine wl_assign rfl rfl ?_
    refine WL.nil ?_
    refine fun a ha => hK7 _ _ ?_ a ha
    refine W.ret ?_
    have hr := Option.some.inj hF
    subst hr
    exact rets (vs := [(.int .i64 (w64 (x1 - (List.length x0 : Int))))]) hQ rfl ⟨rv_tmp rfl, trivial⟩ ⟨rfl, hB⟩
theorem C_laws_szCue (w0 : World) (x0 : (Int × (List UInt8))) (x1 : Int) (r : Int) (hF : F_laws_szCue x0 x1 = some r) :
    Calls Try.prog 35 [(.agg #[(.int .i64 x0.1), (.string (mkS x0.2))]), (.int .i64 x1)].toArray w0 fun e w' => e = .returned (.int .i64 r) ∧ Below w0.heap.size w0 w' := by
  refine calls_mk' Try.func35 rfl Try.ntmps35 rfl rfl fun Q hQ hP => ?_
  have hB : Below w0.heap.size w0 w0 := Below.refl _ _
  have hS : Sep w0.heap.size w0 [] := Sep.nil _ _
  unfold F_laws_szCue at hF
  refine W.seq fun K1 hK1 => ?_
  refine W.region ?_
  refine wl_box (cs := [(.int .i64 x0.1), (.string (mkS x0.2))]) rfl rfl rfl hB hS ?_
  intro b2 w3 hb4 hB5 hS6
  refine wl_assign rfl rfl ?_
  refine WL.nil ?_
  refine fun a ha => hK1 _ _ ?_ a ha
  refine W.seq fun K7 hK7 => ?_
  refine W.region ?_
  refine wl_move rfl rfl ?_
  refine wl_field (o := 1) (off' := 1) ff_53_1 rfl rfl rfl ?_
  refine wl_load_blk (i := 0) (vs := [(.string (mkS x0.2))]) (v := (.string (mkS x0.2))) tf_9 rfl rfl hS6 rfl rfl rfl ?_
  refine wl_strlen Try.underlying9 rfl rfl ?_
  refine wl_sub rfl rfl rfl ?_
  refine wl_assign rfl rfl ?_
  refine WL.nil ?_
  refine fun a ha => hK7 _ _ ?_ a ha
  refine W.seq fun K8 hK8 => ?_
  refine W.seq fun K9 hK9 => ?_
  refine W.region ?_
  refine wl_move rfl rfl ?_
  refine wl_lss rfl rfl rfl ?_
  refine WL.nil ?_
  refine fun a ha => hK9 _ _ ?_ a ha
  refine W.cond rfl (fun h10 => ?_) (fun h10 => ?_)
  · replace hF := ifP h10 hF
    refine W.seq fun K11 hK11 => ?_
    refine W.region ?_
    refine wl_assign rfl rfl ?_
    refine WL.nil ?_
    refine fun a ha => hK11 _ _ ?_ a ha
    refine W.ret ?_
    have hr := Option.some.inj hF
    subst hr
    exact rets (vs := [(.int .i64 (-1))]) hQ rfl ⟨rv_tmp rfl, trivial⟩ ⟨rfl, hB5⟩
  · replace hF := ifN h10 hF
    refine W.skip ?_
    refine fun a ha => hK8 _ _ ?_ a ha
    refine W.seq fun K12 hK12 => ?_
    refine W.region ?_
    refine wl_move rfl rfl ?_
    refine wl_assign rfl rfl ?_
    refine WL.nil ?_
    refine fun a ha => hK12 _ _ ?_ a ha
    refine W.ret ?_
    have hr := Option.some.inj hF
    subst hr
    exact rets (vs := [(.int .i64 (w64 (x1 - (List.length x0.2 : Int))))]) hQ rfl ⟨rv_tmp rfl, trivial⟩ ⟨rfl, hB5⟩
theorem C_laws_szCueS (w0 : World) (x0 : (List (Int × (List UInt8)))) (v0_0 : Value) (h0_0 : rdS ty_53 (· < w0.heap.size) w0 v0_0 x0) (x1 : Int) (r : Int) (hF : F_laws_szCueS x0 x1 = some r) :
    Calls Try.prog 23 [v0_0, (.int .i64 x1)].toArray w0 fun e w' => e = .returned (.int .i64 r) ∧ Below w0.heap.size w0 w' := by
  refine calls_mk' Try.func23 rfl Try.ntmps23 rfl rfl fun Q hQ hP => ?_
  have hB : Below w0.heap.size w0 w0 := Below.refl _ _
  have hS : Sep w0.heap.size w0 [] := Sep.nil _ _
  unfold F_laws_szCueS at hF
  refine W.seq fun K1 hK1 => ?_
  refine W.region ?_
  refine wl_assign rfl rfl ?_
  refine WL.nil ?_
  refine fun a ha => hK1 _ _ ?_ a ha
  refine W.seq fun K2 hK2 => ?_
  refine W.region ?_
  refine wl_move rfl rfl ?_
  refine wl_move rfl rfl ?_
  refine wl_lenr (e := ty_53) (l := x0) Try.underlying37 rfl rfl h0_0 ?_
  refine wl_sub rfl rfl rfl ?_
  refine wl_assign rfl rfl ?_
  refine WL.nil ?_
  refine fun a ha => hK2 _ _ ?_ a ha
  refine W.seq fun K3 hK3 => ?_
  refine W.seq fun K4 hK4 => ?_
  refine W.region ?_
  refine wl_move rfl rfl ?_
  refine wl_lss rfl rfl rfl ?_
  refine WL.nil ?_
  refine fun a ha => hK4 _ _ ?_ a ha
  refine W.cond rfl (fun h5 => ?_) (fun h5 => ?_)
  · replace hF := ifP h5 hF
    refine W.seq fun K6 hK6 => ?_
    refine W.region ?_
    refine wl_assign rfl rfl ?_
    refine WL.nil ?_
    refine fun a ha => hK6 _ _ ?_ a ha
    refine W.ret ?_
    have hr := Option.some.inj hF
    subst hr
    exact rets (vs := [(.int .i64 (-1))]) hQ rfl ⟨rv_tmp rfl, trivial⟩ ⟨rfl, hB⟩
  · replace hF := ifN h5 hF
    refine W.skip ?_
    refine fun a ha => hK3 _ _ ?_ a ha
    refine W.seq fun K7 hK7 => ?_
    refine W.seq fun K8 hK8 => ?_
    refine W.region ?_
    refine wl_assign rfl rfl ?_
    refine WL.nil ?_
    refine fun a ha => hK8 _ _ ?_ a ha
    refine W.block ?_
    refine W.loopk (fun m a w9 => ∃ (y12 : Int) (y13 : Int), St 27 [(0, v0_0), (1, (.int .i64 y12)), (5, (.int .i64 y13))] a ∧ Below w0.heap.size w0 w9 ∧ Sep w0.heap.size w9 [] ∧ F_laws_szCueS_L1 x0 m y12 y13 = some r) FU ?_ ?_
    ·
      exact fun a ha => ⟨(w64 (x1 - (List.length x0 : Int))), 0, ha.sub ⟨rfl, rfl, rfl, trivial⟩, hB, (hS.sel [] rfl), hF⟩
    ·
      rintro m16 a w9 ⟨y12, y13, ha, hB10, hS11, hF⟩ KL15 hKL15
      refine W.at ?_ ha
      cases m16 with
      | zero => exact noneE hF
      | succ m16 =>
        obtain ⟨nx14, hnx14⟩ : ∃ k, k = F_laws_szCueS_L1 x0 m16 := ⟨_, rfl⟩
        rw [F_laws_szCueS_L1, ← hnx14] at hF
        refine W.seq fun K17 hK17 => ?_
        refine W.seq fun K18 hK18 => ?_
        refine W.region ?_
        refine wl_move rfl rfl ?_
        refine wl_move rfl rfl ?_
        refine wl_lenr (e := ty_53) (l := x0) Try.underlying37 rfl rfl h0_0 ?_
        refine wl_lss rfl rfl rfl ?_
        refine WL.nil ?_
        refine fun a ha => hK18 _ _ ?_ a ha
        refine W.cond rfl (fun h19 => ?_) (fun h19 => ?_)
        · replace hF := ifP h19 hF
          refine W.skip ?_
          refine fun a ha => hK17 _ _ ?_ a ha
          refine W.seq fun K20 hK20 => ?_
          refine W.block ?_
          refine W.seq fun K21 hK21 => ?_
          refine W.region ?_
          refine wl_move rfl rfl ?_
          refine wl_move rfl rfl ?_
          obtain ⟨u22, hu22, hF⟩ := bindE hF
          refine wl_index (e := ty_53) Try.underlying37 rfl rfl rfl h0_0 hu22 ?_
          rintro p23 _ rfl hp24
          refine wl_load_p (vs := [(.int .i64 u22.1), (.string (mkS u22.2))]) (v := (.agg #[(.int .i64 u22.1), (.string (mkS u22.2))])) tf_53 rfl rfl (hp24.ro hB10) rfl rfl ?_
          refine wl_move rfl rfl ?_
          obtain ⟨u25, hu25, hF⟩ := bindE hF
          refine wl_call rfl Try.call35 (C_laws_szCue w9 u22 y12 _ hu25) rfl ?_
          rintro _ w26 ⟨rfl, hb27⟩
          refine ⟨_, rfl, ?_⟩
          have hB28 := hB10.trans (hb27.mono hB10.size)
          have hS29 := hS11.below hb27
          refine wl_assign rfl rfl ?_
          refine WL.nil ?_
          refine fun a ha => hK21 _ _ ?_ a ha
          refine W.seq fun K31 hK31 => ?_
          refine W.region ?_
          refine wl_move rfl rfl ?_
          refine wl_lss rfl rfl rfl ?_
          refine WL.nil ?_
          refine fun a ha => hK31 _ _ ?_ a ha
          refine W.cond rfl (fun h32 => ?_) (fun h32 => ?_)
          · replace hF := ifP h32 hF
            refine W.seq fun K33 hK33 => ?_
            refine W.region ?_
            refine wl_assign rfl rfl ?_
            refine WL.nil ?_
            refine fun a ha => hK33 _ _ ?_ a ha
            refine W.ret ?_
            have hr := Option.some.inj hF
            subst hr
            exact rets (vs := [(.int .i64 (-1))]) hQ rfl ⟨rv_tmp rfl, trivial⟩ ⟨rfl, hB28⟩
          · replace hF := ifN h32 hF
            refine W.skip ?_
            refine fun a ha => hK20 _ _ ?_ a ha
            refine W.region ?_
            refine wl_move rfl rfl ?_
            refine wl_add rfl rfl rfl ?_
            refine wl_assign rfl rfl ?_
            refine WL.nil ?_
            rw [hnx14] at hF
            exact fun a ha => hKL15 a _ m16 (Nat.lt_succ_self m16) ⟨u25, (w64 (y13 + 1)), ha.sub ⟨rfl, rfl, rfl, trivial⟩, hB28, (hS29.sel [] rfl), hF⟩
        · replace hF := ifN h19 hF
          refine W.exit ?_
          refine fun a ha => hK7 _ _ ?_ a ha
          refine W.seq fun K34 hK34 => ?_
          refine W.region ?_
          refine wl_move rfl rfl ?_
          refine wl_assign rfl rfl ?_
          refine WL.nil ?_
          refine fun a ha => hK34 _ _ ?_ a ha
          refine W.ret ?_
          have hr := Option.some.inj hF
          subst hr
          exact rets (vs := [(.int .i64 y12)]) hQ rfl ⟨rv_tmp rfl, trivial⟩ ⟨rfl, hB10⟩
theorem C_laws_toMeasure (w0 : World) (x0 : (Int × Int)) (r : (Int × Int)) (hF : F_laws_toMeasure x0 = some r) :
    Calls Try.prog 74 [(.agg #[(.int .i64 x0.1), (.int .i64 x0.2)])].toArray w0 fun e w' => e = .returned (.agg #[(.int .i64 r.1), (.int .i64 r.2)]) ∧ Below w0.heap.size w0 w' := by
  refine calls_mk' Try.func74 rfl Try.ntmps74 rfl rfl fun Q hQ hP => ?_
  have hB : Below w0.heap.size w0 w0 := Below.refl _ _
  have hS : Sep w0.heap.size w0 [] := Sep.nil _ _
  unfold F_laws_toMeasure at hF
  refine W.seq fun K1 hK1 => ?_
  refine W.region ?_
  refine wl_box (cs := [(.int .i64 x0.1), (.int .i64 x0.2)]) rfl rfl rfl hB hS ?_
  intro b2 w3 hb4 hB5 hS6
  refine wl_alloc (cs := [(.int .i64 0), (.int .i64 0)]) tf_93 rfl rfl hB5 hS6 ?_
  intro b7 w8 hb9 hB10 hS11
  refine WL.nil ?_
  refine fun a ha => hK1 _ _ ?_ a ha
  refine W.seq fun K12 hK12 => ?_
  refine W.region ?_
  refine wl_alloc (cs := [(.int .i64 0), (.int .i64 0)]) tf_93 rfl rfl hB10 hS11 ?_
  intro b13 w14 hb15 hB16 hS17
  refine WL.nil ?_
  refine fun a ha => hK12 _ _ ?_ a ha
  refine W.seq fun K18 hK18 => ?_
  refine W.region ?_
  refine wl_field (o := 0) (off' := 0) ff_95_0 rfl rfl rfl ?_
  refine wl_load_blk (i := 2) (vs := [(.int .i64 x0.1)]) (v := (.int .i64 x0.1)) tf_3 rfl rfl hS17 rfl rfl rfl ?_
  refine wl_field (o := 0) (off' := 0) ff_93_0 rfl rfl rfl ?_
  refine wl_store_blk (i := 0) (vs := [(.int .i64 x0.1)]) (cs' := [(.int .i64 x0.1), (.int .i64 0)]) tf_3 rfl rfl rfl rfl hB16 hS17 rfl rfl ⟨rfl, trivial⟩ rfl ?_
  intro w19 hk22 hB20 hS21
  refine WL.nil ?_
  refine fun a ha => hK18 _ _ ?_ a ha
  refine W.seq fun K23 hK23 => ?_
  refine W.region ?_
  refine wl_field (o := 1) (off' := 1) ff_95_1 rfl rfl rfl ?_
  refine wl_load_blk (i := 2) (vs := [(.int .i64 x0.2)]) (v := (.int .i64 x0.2)) tf_3 rfl rfl hS21 rfl rfl rfl ?_
  refine wl_field (o := 1) (off' := 1) ff_93_1 rfl rfl rfl ?_
  refine wl_store_blk (i := 0) (vs := [(.int .i64 x0.2)]) (cs' := [(.int .i64 x0.1), (.int .i64 x0.2)]) tf_3 rfl rfl rfl rfl hB20 hS21 rfl rfl ⟨rfl, trivial⟩ rfl ?_
  intro w24 hk27 hB25 hS26
  refine WL.nil ?_
  refine fun a ha => hK23 _ _ ?_ a ha
  refine W.seq fun K28 hK28 => ?_
  refine W.region ?_
  refine wl_load_blk (i := 0) (vs := [(.int .i64 x0.1), (.int .i64 x0.2)]) (v := (.agg #[(.int .i64 x0.1), (.int .i64 x0.2)])) tf_93 rfl rfl hS26 rfl rfl rfl ?_
  refine wl_store_blk (i := 1) (vs := [(.int .i64 x0.1), (.int .i64 x0.2)]) (cs' := [(.int .i64 x0.1), (.int .i64 x0.2)]) tf_93 rfl rfl rfl rfl hB25 hS26 rfl rfl ⟨rfl, rfl, trivial⟩ rfl ?_
  intro w29 hk32 hB30 hS31
  refine WL.nil ?_
  refine fun a ha => hK28 _ _ ?_ a ha
  refine W.ret ?_
  have hr := Option.some.inj hF
  subst hr
  exact rets (vs := [(.agg #[(.int .i64 x0.1), (.int .i64 x0.2)])]) hQ rfl ⟨rv_cell (i := 1) tf_93 rfl hS31 rfl rfl rfl, trivial⟩ ⟨rfl, hB30⟩
theorem C_laws_toMeasureS (w0 : World) (x0 : (List (Int × Int))) (v0_0 : Value) (h0_0 : rdS ty_95 (· < w0.heap.size) w0 v0_0 x0) (r : (List (Int × Int))) (hF : F_laws_toMeasureS x0 = some r) :
    Calls Try.prog 25 [v0_0].toArray w0 fun e w' => ∃ (q0 : Value) (G0 : List Nat), e = .returned q0 ∧ Below w0.heap.size w0 w' ∧ Sep w0.heap.size w' [R.own ty_93 G0 q0 r] := by
  refine calls_mk' Try.func25 rfl Try.ntmps25 rfl rfl fun Q hQ hP => ?_
  have hB : Below w0.heap.size w0 w0 := Below.refl _ _
  have hS : Sep w0.heap.size w0 [] := Sep.nil _ _
  unfold F_laws_toMeasureS at hF
  refine W.seq fun K1 hK1 => ?_
  refine W.region ?_
  refine wl_assign rfl rfl ?_
  refine WL.nil ?_
  refine fun a ha => hK1 _ _ ?_ a ha
  refine W.seq fun K2 hK2 => ?_
  refine W.region ?_
  refine wl_move rfl rfl ?_
  refine wl_lenr (e := ty_95) (l := x0) Try.underlying36 rfl rfl h0_0 ?_
  obtain ⟨u3, hu3, hF⟩ := bindE hF
  refine wl_make (e := ty_93) Try.underlying41 rfl rfl hu3 hB hS ?_
  intro v4 F5 w6 hb7 hB8 hS9
  refine wl_assign rfl rfl ?_
  refine WL.nil ?_
  refine fun a ha => hK2 _ _ ?_ a ha
  refine W.seq fun K10 hK10 => ?_
  refine W.seq fun K11 hK11 => ?_
  refine W.region ?_
  refine wl_assign rfl rfl ?_
  refine WL.nil ?_
  refine fun a ha => hK11 _ _ ?_ a ha
  refine W.block ?_
  refine W.loopk (fun m a w12 => ∃ (l15 : (List (Int × Int))) (y18 : Int) (v16 : Value) (F17 : List Nat), St 23 [(0, v0_0), (3, v16), (4, (.int .i64 y18))] a ∧ Below w0.heap.size w0 w12 ∧ Sep w0.heap.size w12 [R.own ty_93 F17 v16 l15] ∧ F_laws_toMeasureS_L1 x0 m l15 y18 = some r) FU ?_ ?_
  ·
    exact fun a ha => ⟨u3, 0, v4, F5, ha.sub ⟨rfl, rfl, rfl, trivial⟩, hB8, (hS9.sel [0] rfl), hF⟩
  ·
    rintro m21 a w12 ⟨l15, y18, v16, F17, ha, hB13, hS14, hF⟩ KL20 hKL20
    refine W.at ?_ ha
    cases m21 with
    | zero => exact noneE hF
    | succ m21 =>
      obtain ⟨nx19, hnx19⟩ : ∃ k, k = F_laws_toMeasureS_L1 x0 m21 := ⟨_, rfl⟩
      rw [F_laws_toMeasureS_L1, ← hnx19] at hF
      refine W.seq fun K22 hK22 => ?_
      refine W.seq fun K23 hK23 => ?_
      refine W.region ?_
      refine wl_move rfl rfl ?_
      refine wl_move rfl rfl ?_
      refine wl_lenr (e := ty_95) (l := x0) Try.underlying36 rfl rfl h0_0 ?_
      refine wl_lss rfl rfl rfl ?_
      refine WL.nil ?_
      refine fun a ha => hK23 _ _ ?_ a ha
      refine W.cond rfl (fun h24 => ?_) (fun h24 => ?_)
      · replace hF := ifP h24 hF
        refine W.skip ?_
        refine fun a ha => hK22 _ _ ?_ a ha
        refine W.seq fun K25 hK25 => ?_
        refine W.block ?_
        refine W.region ?_
        refine wl_move rfl rfl ?_
        refine wl_move rfl rfl ?_
        refine wl_move rfl rfl ?_
        refine wl_move rfl rfl ?_
        obtain ⟨u26, hu26, hF⟩ := bindE hF
        refine wl_index (e := ty_95) Try.underlying36 rfl rfl rfl h0_0 hu26 ?_
        rintro p27 _ rfl hp28
        refine wl_load_p (vs := [(.int .i64 u26.1), (.int .i64 u26.2)]) (v := (.agg #[(.int .i64 u26.1), (.int .i64 u26.2)])) tf_95 rfl rfl (hp28.ro hB13) rfl rfl ?_
        obtain ⟨u29, hu29, hF⟩ := bindE hF
        refine wl_call rfl Try.call74 (C_laws_toMeasure w12 u26 _ hu29) rfl ?_
        rintro _ w30 ⟨rfl, hb31⟩
        refine ⟨_, rfl, ?_⟩
        have hB32 := hB13.trans (hb31.mono hB13.size)
        have hS33 := hS14.below hb31
        obtain ⟨u35, hu35, hF⟩ := bindE hF
        refine wl_indexo (e := ty_93) (i := 0) Try.underlying41 rfl rfl rfl hS33 rfl hu35 ?_
        rintro p36 _ rfl hp37 ho38
        refine wl_storeo (i := 0) (o := 0) (vs := [(.int .i64 u29.1), (.int .i64 u29.2)]) (u' := u29) fl_93 tf_93 rfl rfl rfl rfl ho38 hu35 hB32 hS33 rfl rfl ⟨rfl, rfl, trivial⟩ rfl ?_
        intro w39 hk42 hB40 hS41
        refine WL.nil ?_
        refine fun a ha => hK25 _ _ ?_ a ha
        refine W.region ?_
        refine wl_move rfl rfl ?_
        refine wl_add rfl rfl rfl ?_
        refine wl_assign rfl rfl ?_
        refine WL.nil ?_
        rw [hnx19] at hF
        exact fun a ha => hKL20 a _ m21 (Nat.lt_succ_self m21) ⟨(seti l15 y18 u29), (w64 (y18 + 1)), v16, F17, ha.sub ⟨rfl, rfl, rfl, trivial⟩, hB40, (hS41.sel [0] rfl), hF⟩
      · replace hF := ifN h24 hF
        refine W.exit ?_
        refine fun a ha => hK10 _ _ ?_ a ha
        refine W.seq fun K43 hK43 => ?_
        refine W.region ?_
        refine wl_move rfl rfl ?_
        refine wl_assign rfl rfl ?_
        refine WL.nil ?_
        refine fun a ha => hK43 _ _ ?_ a ha
        refine W.ret ?_
        have hr := Option.some.inj hF
        subst hr
        exact rets (vs := [v16]) hQ rfl ⟨rv_tmp rfl, trivial⟩ ⟨v16, F17, rfl, hB13, hS14.sel [0] rfl⟩
theorem C_laws_toCue (w0 : World) (x0 : (Int × (List UInt8))) (r : (Int × (List UInt8))) (hF : F_laws_toCue x0 = some r) :
    Calls Try.prog 37 [(.agg #[(.int .i64 x0.1), (.string (mkS x0.2))])].toArray w0 fun e w' => e = .returned (.agg #[(.int .i64 r.1), (.string (mkS r.2))]) ∧ Below w0.heap.size w0 w' := by
  refine calls_mk' Try.func37 rfl Try.ntmps37 rfl rfl fun Q hQ hP => ?_
  have hB : Below w0.heap.size w0 w0 := Below.refl _ _
  have hS : Sep w0.heap.size w0 [] := Sep.nil _ _
  unfold F_laws_toCue at hF
  refine W.seq fun K1 hK1 => ?_
  refine W.region ?_
  refine wl_box (cs := [(.int .i64 x0.1), (.string (mkS x0.2))]) rfl rfl rfl hB hS ?_
  intro b2 w3 hb4 hB5 hS6
  refine wl_alloc (cs := [(.int .i64 0), (.string (mkS []))]) tf_56 rfl rfl hB5 hS6 ?_
  intro b7 w8 hb9 hB10 hS11
  refine WL.nil ?_
  refine fun a ha => hK1 _ _ ?_ a ha
  refine W.seq fun K12 hK12 => ?_
  refine W.region ?_
  refine wl_alloc (cs := [(.int .i64 0), (.string (mkS []))]) tf_56 rfl rfl hB10 hS11 ?_
  intro b13 w14 hb15 hB16 hS17
  refine WL.nil ?_
  refine fun a ha => hK12 _ _ ?_ a ha
  refine W.seq fun K18 hK18 => ?_
  refine W.region ?_
  refine wl_field (o := 0) (off' := 0) ff_53_0 rfl rfl rfl ?_
  refine wl_load_blk (i := 2) (vs := [(.int .i64 x0.1)]) (v := (.int .i64 x0.1)) tf_3 rfl rfl hS17 rfl rfl rfl ?_
  refine wl_field (o := 0) (off' := 0) ff_56_0 rfl rfl rfl ?_
  refine wl_store_blk (i := 0) (vs := [(.int .i64 x0.1)]) (cs' := [(.int .i64 x0.1), (.string (mkS []))]) tf_3 rfl rfl rfl rfl hB16 hS17 rfl rfl ⟨rfl, trivial⟩ rfl ?_
  intro w19 hk22 hB20 hS21
  refine WL.nil ?_
  refine fun a ha => hK18 _ _ ?_ a ha
  refine W.seq fun K23 hK23 => ?_
  refine W.region ?_
  refine wl_field (o := 1) (off' := 1) ff_53_1 rfl rfl rfl ?_
  refine wl_load_blk (i := 2) (vs := [(.string (mkS x0.2))]) (v := (.string (mkS x0.2))) tf_9 rfl rfl hS21 rfl rfl rfl ?_
  refine wl_field (o := 1) (off' := 1) ff_56_1 rfl rfl rfl ?_
  refine wl_store_blk (i := 0) (vs := [(.string (mkS x0.2))]) (cs' := [(.int .i64 x0.1), (.string (mkS x0.2))]) tf_9 rfl rfl rfl rfl hB20 hS21 rfl rfl ⟨rfl, trivial⟩ rfl ?_
  intro w24 hk27 hB25 hS26
  refine WL.nil ?_
  refine fun a ha => hK23 _ _ ?_ a ha
  refine W.seq fun K28 hK28 => ?_
  refine W.region ?_
  refine wl_load_blk (i := 0) (vs := [(.int .i64 x0.1), (.string (mkS x0.2))]) (v := (.agg #[(.int .i64 x0.1), (.string (mkS x0.2))])) tf_56 rfl rfl hS26 rfl rfl rfl ?_
  refine wl_store_blk (i := 1) (vs := [(.int .i64 x0.1), (.string (mkS x0.2))]) (cs' := [(.int .i64 x0.1), (.string (mkS x0.2))]) tf_56 rfl rfl rfl rfl hB25 hS26 rfl rfl ⟨rfl, rfl, trivial⟩ rfl ?_
  intro w29 hk32 hB30 hS31
  refine WL.nil ?_
  refine fun a ha => hK28 _ _ ?_ a ha
  refine W.ret ?_
  have hr := Option.some.inj hF
  subst hr
  exact rets (vs := [(.agg #[(.int .i64 x0.1), (.string (mkS x0.2))])]) hQ rfl ⟨rv_cell (i := 1) tf_56 rfl hS31 rfl rfl rfl, trivial⟩ ⟨rfl, hB30⟩
theorem C_laws_toCueS (w0 : World) (x0 : (List (Int × (List UInt8)))) (v0_0 : Value) (h0_0 : rdS ty_53 (· < w0.heap.size) w0 v0_0 x0) (r : (List (Int × (List UInt8)))) (hF : F_laws_toCueS x0 = some r) :
    Calls Try.prog 26 [v0_0].toArray w0 fun e w' => ∃ (q0 : Value) (G0 : List Nat), e = .returned q0 ∧ Below w0.heap.size w0 w' ∧ Sep w0.heap.size w' [R.own ty_56 G0 q0 r] := by
  refine calls_mk' Try.func26 rfl Try.ntmps26 rfl rfl fun Q hQ hP => ?_
  have hB : Below w0.heap.size w0 w0 := Below.refl _ _
  have hS : Sep w0.heap.size w0 [] := Sep.nil _ _
  unfold F_laws_toCueS at hF
  refine W.seq fun K1 hK1 => ?_
  refine W.region ?_
  refine wl_assign rfl rfl ?_
  refine WL.nil ?_
  refine fun a ha => hK1 _ _ ?_ a ha
  refine W.seq fun K2 hK2 => ?_
  refine W.region ?_
  refine wl_move rfl rfl ?_
  refine wl_lenr (e := ty_53) (l := x0) Try.underlying37 rfl rfl h0_0 ?_
  obtain ⟨u3, hu3, hF⟩ := bindE hF
  refine wl_make (e := ty_56) Try.underlying43 rfl rfl hu3 hB hS ?_
  intro v4 F5 w6 hb7 hB8 hS9
  refine wl_assign rfl rfl ?_
  refine WL.nil ?_
  refine fun a ha => hK2 _ _ ?_ a ha
  refine W.seq fun K10 hK10 => ?_
  refine W.seq fun K11 hK11 => ?_
  refine W.region ?_
  refine wl_assign rfl rfl ?_
  refine WL.nil ?_
  refine fun a ha => hK11 _ _ ?_ a ha
  refine W.block ?_
  refine W.loopk (fun m a w12 => ∃ (l15 : (List (Int × (List UInt8)))) (y18 : Int) (v16 : Value) (F17 : List Nat), St 23 [(0, v0_0), (3, v16), (4, (.int .i64 y18))] a ∧ Below w0.heap.size w0 w12 ∧ Sep w0.heap.size w12 [R.own ty_56 F17 v16 l15] ∧ F_laws_toCueS_L1 x0 m l15 y18 = some r) FU ?_ ?_
  ·
    exact fun a ha => ⟨u3, 0, v4, F5, ha.sub ⟨rfl, rfl, rfl, trivial⟩, hB8, (hS9.sel [0] rfl), hF⟩
  ·
    rintro m21 a w12 ⟨l15, y18, v16, F17, ha, hB13, hS14, hF⟩ KL20 hKL20
    refine W.at ?_ ha
    cases m21 with
    | zero => exact noneE hF
    | succ m21 =>
      obtain ⟨nx19, hnx19⟩ : ∃ k, k = F_laws_toCueS_L1 x0 m21 := ⟨_, rfl⟩
      rw [F_laws_toCueS_L1, ← hnx19] at hF
      refine W.seq fun K22 hK22 => ?_
      refine W.seq fun K23 hK23 => ?_
      refine W.region ?_
      refine wl_move rfl rfl ?_
      refine wl_move rfl rfl ?_
      refine wl_lenr (e := ty_53) (l := x0) Try.underlying37 rfl rfl h0_0 ?_
      refine wl_lss rfl rfl rfl ?_
      refine WL.nil ?_
      refine fun a ha => hK23 _ _ ?_ a ha
      refine W.cond rfl (fun h24 => ?_) (fun h24 => ?_)
      · replace hF := ifP h24 hF
        refine W.skip ?_
        refine fun a ha => hK22 _ _ ?_ a ha
        refine W.seq fun K25 hK25 => ?_
        refine W.block ?_
        refine W.region ?_
        refine wl_move rfl rfl ?_
        refine wl_move rfl rfl ?_
        refine wl_move rfl rfl ?_
        refine wl_move rfl rfl ?_
        obtain ⟨u26, hu26, hF⟩ := bindE hF
        refine wl_index (e := ty_53) Try.underlying37 rfl rfl rfl h0_0 hu26 ?_
        rintro p27 _ rfl hp28
        refine wl_load_p (vs := [(.int .i64 u26.1), (.string (mkS u26.2))]) (v := (.agg #[(.int .i64 u26.1), (.string (mkS u26.2))])) tf_53 rfl rfl (hp28.ro hB13) rfl rfl ?_
        obtain ⟨u29, hu29, hF⟩ := bindE hF
        refine wl_call rfl Try.call37 (C_laws_toCue w12 u26 _ hu29) rfl ?_
        rintro _ w30 ⟨rfl, hb31⟩
        refine ⟨_, rfl, ?_⟩
        have hB32 := hB13.trans (hb31.mono hB13.size)
        have hS33 := hS14.below hb31
        obtain ⟨u35, hu35, hF⟩ := bindE hF
        refine wl_indexo (e := ty_56) (i := 0) Try.underlying43 rfl rfl rfl hS33 rfl hu35 ?_
        rintro p36 _ rfl hp37 ho38
        refine wl_storeo (i := 0) (o := 0) (vs := [(.int .i64 u29.1), (.string (mkS u29.2))]) (u' := u29) fl_56 tf_56 rfl rfl rfl rfl ho38 hu35 hB32 hS33 rfl rfl ⟨rfl, rfl, trivial⟩ rfl ?_
        intro w39 hk42 hB40 hS41
        refine WL.nil ?_
        refine fun a ha => hK25 _ _ ?_ a ha
        refine W.region ?_
        refine wl_move rfl rfl ?_
        refine wl_add rfl rfl rfl ?_
        refine wl_assign rfl rfl ?_
        refine WL.nil ?_
        rw [hnx19] at hF
        exact fun a ha => hKL20 a _ m21 (Nat.lt_succ_self m21) ⟨(seti l15 y18 u29), (w64 (y18 + 1)), v16, F17, ha.sub ⟨rfl, rfl, rfl, trivial⟩, hB40, (hS41.sel [0] rfl), hF⟩
      · replace hF := ifN h24 hF
        refine W.exit ?_
        refine fun a ha => hK10 _ _ ?_ a ha
        refine W.seq fun K43 hK43 => ?_
        refine W.region ?_
        refine wl_move rfl rfl ?_
        refine wl_assign rfl rfl ?_
        refine WL.nil ?_
        refine fun a ha => hK43 _ _ ?_ a ha
        refine W.ret ?_
        have hr := Option.some.inj hF
        subst hr
        exact rets (vs := [v16]) hQ rfl ⟨rv_tmp rfl, trivial⟩ ⟨v16, F17, rfl, hB13, hS14.sel [0] rfl⟩
theorem C_spec_muMeasure (w0 : World) (x0 : (Int × Int)) (r : Bool) (hF : F_spec_muMeasure x0 = some r) :
    Calls Try.prog 129 [(.agg #[(.int .i64 x0.1), (.int .i64 x0.2)])].toArray w0 fun e w' => e = .returned (.bool r) ∧ Below w0.heap.size w0 w' := by
  refine calls_mk' Try.func129 rfl Try.ntmps129 rfl rfl fun Q hQ hP => ?_
  have hB : Below w0.heap.size w0 w0 := Below.refl _ _
  have hS : Sep w0.heap.size w0 [] := Sep.nil _ _
  unfold F_spec_muMeasure at hF
  refine W.seq fun K1 hK1 => ?_
  refine W.region ?_
  refine wl_box (cs := [(.int .i64 x0.1), (.int .i64 x0.2)]) rfl rfl rfl hB hS ?_
  intro b2 w3 hb4 hB5 hS6
  refine wl_assign rfl rfl ?_
  refine WL.nil ?_
  refine fun a ha => hK1 _ _ ?_ a ha
  refine W.seq fun K7 hK7 => ?_
  obtain ⟨k12, hk12, hF⟩ := jE1 hF
  have hJ13 : ∀ (y11 : Bool) (w8 : World) (_ : k12 y11 = some r) (_ : Below w0.heap.size w0 w8) (_ : Sep w0.heap.size w8 []), ∀ a, St 11 [(2, (.bool y11))] a → K7 a w8 := by
    intro y11 w8 hF hB9 hS10
    subst hk12
    refine fun a ha => hK7 _ _ ?_ a ha
    refine W.ret ?_
    have hr := Option.some.inj hF
    subst hr
    exact rets (vs := [(.bool y11)]) hQ rfl ⟨rv_tmp rfl, trivial⟩ ⟨rfl, hB9⟩
  refine W.region ?_
  refine wl_field (o := 0) (off' := 0) ff_93_0 rfl rfl rfl ?_
  refine wl_load_blk (i := 0) (vs := [(.int .i64 x0.1)]) (v := (.int .i64 x0.1)) tf_3 rfl rfl hS6 rfl rfl rfl ?_
  obtain ⟨u14, hu14, hF⟩ := bindE hF
  refine wl_call rfl Try.call80 (C_spec_l1In w3 x0.1 1 12 _ hu14) rfl ?_
  rintro _ w15 ⟨rfl, hb16⟩
  refine ⟨_, rfl, ?_⟩
  have hB17 := hB5.trans (hb16.mono hB5.size)
  have hS18 := hS6.below hb16
  refine wl_move rfl rfl ?_
  rcases bE u14 with h20 | h20
  · replace hF := ifP h20 hF
    refine wl_on rfl rfl h20 ?_
    refine wl_field (o := 1) (off' := 1) ff_93_1 rfl rfl rfl ?_
    refine wl_on rfl rfl h20 ?_
    refine wl_load_blk (i := 0) (vs := [(.int .i64 x0.2)]) (v := (.int .i64 x0.2)) tf_3 rfl rfl hS18 rfl rfl rfl ?_
    refine wl_on rfl rfl h20 ?_
    obtain ⟨u21, hu21, hF⟩ := bindE hF
    refine wl_call rfl Try.call80 (C_spec_l1In w15 x0.2 40 220 _ hu21) rfl ?_
    rintro _ w22 ⟨rfl, hb23⟩
    refine ⟨_, rfl, ?_⟩
    have hB24 := hB17.trans (hb23.mono hB17.size)
    have hS25 := hS18.below hb23
    refine wl_pick_t rfl rfl h20 rfl ?_
    refine wl_assign rfl rfl ?_
    refine WL.nil ?_
    exact fun a ha => hJ13 (u21) _ hF hB24 (hS25.sel [] rfl) a (ha.sub ⟨rfl, trivial⟩)
  · replace hF := ifN h20 hF
    refine wl_off rfl rfl rfl h20 ?_
    refine wl_off rfl rfl rfl h20 ?_
    refine wl_off rfl rfl rfl h20 ?_
    refine wl_pick_f rfl rfl h20 rfl ?_
    refine wl_assign rfl rfl ?_
    refine WL.nil ?_
    exact fun a ha => hJ13 (false) _ hF hB17 (hS18.sel [] rfl) a (ha.sub ⟨rfl, trivial⟩)
theorem C_spec_muGood (w0 : World) (x0 : (List (Int × Int))) (v0_0 : Value) (h0_0 : rdS ty_93 (· < w0.heap.size) w0 v0_0 x0) (r : Bool) (hF : F_spec_muGood x0 = some r) :
    Calls Try.prog 110 [v0_0].toArray w0 fun e w' => e = .returned (.bool r) ∧ Below w0.heap.size w0 w' := by
  refine calls_mk' Try.func110 rfl Try.ntmps110 rfl rfl fun Q hQ hP => ?_
  have hB : Below w0.heap.size w0 w0 := Below.refl _ _
  have hS : Sep w0.heap.size w0 [] := Sep.nil _ _
  unfold F_spec_muGood at hF
  refine W.seq fun K1 hK1 => ?_
  refine W.region ?_
  refine wl_assign rfl rfl ?_
  refine WL.nil ?_
  refine fun a ha => hK1 _ _ ?_ a ha
  refine W.seq fun K2 hK2 => ?_
  refine W.seq fun K3 hK3 => ?_
  refine W.region ?_
  refine wl_move rfl rfl ?_
  refine wl_lenr (e := ty_93) (l := x0) Try.underlying41 rfl rfl h0_0 ?_
  refine wl_move rfl rfl ?_
  refine WL.nil ?_
  refine fun a ha => hK3 _ _ ?_ a ha
  refine W.block ?_
  refine W.loopk (fun m a w4 => ∃ (y7 : Int), St 18 [(0, v0_0), (5, v0_0), (6, (.int .i64 (List.length x0 : Int))), (7, (.int .i64 y7))] a ∧ Below w0.heap.size w0 w4 ∧ Sep w0.heap.size w4 [] ∧ F_spec_muGood_L1 x0 m y7 = some r) FU ?_ ?_
  ·
    exact fun a ha => ⟨0, ha.sub ⟨rfl, rfl, rfl, rfl, trivial⟩, hB, (hS.sel [] rfl), hF⟩
  ·
    rintro m10 a w4 ⟨y7, ha, hB5, hS6, hF⟩ KL9 hKL9
    refine W.at ?_ ha
    cases m10 with
    | zero => exact noneE hF
    | succ m10 =>
      obtain ⟨nx8, hnx8⟩ : ∃ k, k = F_spec_muGood_L1 x0 m10 := ⟨_, rfl⟩
      rw [F_spec_muGood_L1, ← hnx8] at hF
      refine W.seq fun K11 hK11 => ?_
      refine W.region ?_
      refine wl_lss rfl rfl rfl ?_
      refine WL.nil ?_
      refine fun a ha => hK11 _ _ ?_ a ha
      refine W.seq fun K12 hK12 => ?_
      refine W.cond rfl (fun h13 => ?_) (fun h13 => ?_)
      · replace hF := ifP h13 hF
        refine W.skip ?_
        refine fun a ha => hK12 _ _ ?_ a ha
        refine W.seq fun K14 hK14 => ?_
        refine W.block ?_
        refine W.seq fun K15 hK15 => ?_
        refine W.region ?_
        obtain ⟨u16, hu16, hF⟩ := bindE hF
        refine wl_index (e := ty_93) Try.underlying41 rfl rfl rfl h0_0 hu16 ?_
        rintro p17 _ rfl hp18
        refine wl_load_p (vs := [(.int .i64 u16.1), (.int .i64 u16.2)]) (v := (.agg #[(.int .i64 u16.1), (.int .i64 u16.2)])) tf_93 rfl rfl (hp18.ro hB5) rfl rfl ?_
        refine wl_alloc (cs := [(.int .i64 0), (.int .i64 0)]) tf_93 rfl rfl hB5 hS6 ?_
        intro b19 w20 hb21 hB22 hS23
        refine wl_store_blk (i := 0) (vs := [(.int .i64 u16.1), (.int .i64 u16.2)]) (cs' := [(.int .i64 u16.1), (.int .i64 u16.2)]) tf_93 rfl rfl rfl rfl hB22 hS23 rfl rfl ⟨rfl, rfl, trivial⟩ rfl ?_
        intro w24 hk27 hB25 hS26
        refine WL.nil ?_
        refine fun a ha => hK15 _ _ ?_ a ha
        refine W.seq fun K28 hK28 => ?_
        refine W.region ?_
        refine wl_load_blk (i := 0) (vs := [(.int .i64 u16.1), (.int .i64 u16.2)]) (v := (.agg #[(.int .i64 u16.1), (.int .i64 u16.2)])) tf_93 rfl rfl hS26 rfl rfl rfl ?_
        obtain ⟨u29, hu29, hF⟩ := bindE hF
        refine wl_call rfl Try.call129 (C_spec_muMeasure w24 u16 _ hu29) rfl ?_
        rintro _ w30 ⟨rfl, hb31⟩
        refine ⟨_, rfl, ?_⟩
        have hB32 := hB25.trans (hb31.mono hB25.size)
        have hS33 := hS26.below hb31
        refine wl_not rfl rfl ?_
        refine WL.nil ?_
        refine fun a ha => hK28 _ _ ?_ a ha
        refine W.cond rfl (fun h35 => ?_) (fun h35 => ?_)
        · replace hF := ifP h35 hF
          refine W.seq fun K36 hK36 => ?_
          refine W.region ?_
          refine wl_assign rfl rfl ?_
          refine WL.nil ?_
          refine fun a ha => hK36 _ _ ?_ a ha
          refine W.ret ?_
          have hr := Option.some.inj hF
          subst hr
          exact rets (vs := [(.bool false)]) hQ rfl ⟨rv_tmp rfl, trivial⟩ ⟨rfl, hB32⟩
        · replace hF := ifN h35 hF
          refine W.skip ?_
          refine fun a ha => hK14 _ _ ?_ a ha
          refine W.region ?_
          refine wl_add rfl rfl rfl ?_
          refine wl_move rfl rfl ?_
          refine WL.nil ?_
          rw [hnx8] at hF
          exact fun a ha => hKL9 a _ m10 (Nat.lt_succ_self m10) ⟨(w64 (y7 + 1)), ha.sub ⟨rfl, rfl, rfl, rfl, trivial⟩, hB32, (hS33.sel [] rfl), hF⟩
      · replace hF := ifN h13 hF
        refine W.exit ?_
        refine fun a ha => hK2 _ _ ?_ a ha
        refine W.seq fun K37 hK37 => ?_
        refine W.region ?_
        refine wl_move rfl rfl ?_
        refine wl_lenr (e := ty_93) (l := x0) Try.underlying41 rfl rfl h0_0 ?_
        obtain ⟨u38, hu38, hF⟩ := bindE hF
        refine wl_call rfl Try.call80 (C_spec_l1In w4 (List.length x0 : Int) 1 40 _ hu38) rfl ?_
        rintro _ w39 ⟨rfl, hb40⟩
        refine ⟨_, rfl, ?_⟩
        have hB41 := hB5.trans (hb40.mono hB5.size)
        have hS42 := hS6.below hb40
        refine wl_assign rfl rfl ?_
        refine WL.nil ?_
        refine fun a ha => hK37 _ _ ?_ a ha
        refine W.ret ?_
        have hr := Option.some.inj hF
        subst hr
        exact rets (vs := [(.bool u38)]) hQ rfl ⟨rv_tmp rfl, trivial⟩ ⟨rfl, hB41⟩
theorem C_spec_muCounts (w0 : World) (x0 : (List (Int × Int))) (v0_0 : Value) (h0_0 : rdS ty_93 (· < w0.heap.size) w0 v0_0 x0) (r : Int) (hF : F_spec_muCounts x0 = some r) :
    Calls Try.prog 99 [v0_0].toArray w0 fun e w' => e = .returned (.int .i64 r) ∧ Below w0.heap.size w0 w' := by
  refine calls_mk' Try.func99 rfl Try.ntmps99 rfl rfl fun Q hQ hP => ?_
  have hB : Below w0.heap.size w0 w0 := Below.refl _ _
  have hS : Sep w0.heap.size w0 [] := Sep.nil _ _
  unfold F_spec_muCounts at hF
  refine W.seq fun K1 hK1 => ?_
  refine W.region ?_
  refine wl_assign rfl rfl ?_
  refine WL.nil ?_
  refine fun a ha => hK1 _ _ ?_ a ha
  refine W.seq fun K2 hK2 => ?_
  refine W.region ?_
  refine wl_assign rfl rfl ?_
  refine WL.nil ?_
  refine fun a ha => hK2 _ _ ?_ a ha
  refine W.seq fun K3 hK3 => ?_
  refine W.seq fun K4 hK4 => ?_
  refine W.region ?_
  refine wl_move rfl rfl ?_
  refine wl_lenr (e := ty_93) (l := x0) Try.underlying41 rfl rfl h0_0 ?_
  refine wl_move rfl rfl ?_
  refine WL.nil ?_
  refine fun a ha => hK4 _ _ ?_ a ha
  refine W.block ?_
  refine W.loopk (fun m a w5 => ∃ (y8 : Int) (y9 : Int), St 18 [(3, (.int .i64 y8)), (6, v0_0), (7, (.int .i64 (List.length x0 : Int))), (8, (.int .i64 y9))] a ∧ Below w0.heap.size w0 w5 ∧ Sep w0.heap.size w5 [] ∧ F_spec_muCounts_L1 x0 m y8 y9 = some r) FU ?_ ?_
  ·
    exact fun a ha => ⟨0, 0, ha.sub ⟨rfl, rfl, rfl, rfl, trivial⟩, hB, (hS.sel [] rfl), hF⟩
  ·
    rintro m12 a w5 ⟨y8, y9, ha, hB6, hS7, hF⟩ KL11 hKL11
    refine W.at ?_ ha
    cases m12 with
    | zero => exact noneE hF
    | succ m12 =>
      obtain ⟨nx10, hnx10⟩ : ∃ k, k = F_spec_muCounts_L1 x0 m12 := ⟨_, rfl⟩
      rw [F_spec_muCounts_L1, ← hnx10] at hF
      refine W.seq fun K13 hK13 => ?_
      refine W.region ?_
      refine wl_lss rfl rfl rfl ?_
      refine WL.nil ?_
      refine fun a ha => hK13 _ _ ?_ a ha
      refine W.seq fun K14 hK14 => ?_
      refine W.cond rfl (fun h15 => ?_) (fun h15 => ?_)
      · replace hF := ifP h15 hF
        refine W.skip ?_
        refine fun a ha => hK14 _ _ ?_ a ha
        refine W.seq fun K16 hK16 => ?_
        refine W.block ?_
        refine W.seq fun K17 hK17 => ?_
        refine W.region ?_
        obtain ⟨u18, hu18, hF⟩ := bindE hF
        refine wl_index (e := ty_93) Try.underlying41 rfl rfl rfl h0_0 hu18 ?_
        rintro p19 _ rfl hp20
        refine wl_load_p (vs := [(.int .i64 u18.1), (.int .i64 u18.2)]) (v := (.agg #[(.int .i64 u18.1), (.int .i64 u18.2)])) tf_93 rfl rfl (hp20.ro hB6) rfl rfl ?_
        refine wl_alloc (cs := [(.int .i64 0), (.int .i64 0)]) tf_93 rfl rfl hB6 hS7 ?_
        intro b21 w22 hb23 hB24 hS25
        refine wl_store_blk (i := 0) (vs := [(.int .i64 u18.1), (.int .i64 u18.2)]) (cs' := [(.int .i64 u18.1), (.int .i64 u18.2)]) tf_93 rfl rfl rfl rfl hB24 hS25 rfl rfl ⟨rfl, rfl, trivial⟩ rfl ?_
        intro w26 hk29 hB27 hS28
        refine WL.nil ?_
        refine fun a ha => hK17 _ _ ?_ a ha
        refine W.region ?_
        refine wl_move rfl rfl ?_
        refine wl_field (o := 0) (off' := 0) ff_93_0 rfl rfl rfl ?_
        refine wl_load_blk (i := 0) (vs := [(.int .i64 u18.1)]) (v := (.int .i64 u18.1)) tf_3 rfl rfl hS28 rfl rfl rfl ?_
        refine wl_add rfl rfl rfl ?_
        refine wl_assign rfl rfl ?_
        refine WL.nil ?_
        refine fun a ha => hK16 _ _ ?_ a ha
        refine W.region ?_
        refine wl_add rfl rfl rfl ?_
        refine wl_move rfl rfl ?_
        refine WL.nil ?_
        rw [hnx10] at hF
        exact fun a ha => hKL11 a _ m12 (Nat.lt_succ_self m12) ⟨(w64 (y8 + u18.1)), (w64 (y9 + 1)), ha.sub ⟨rfl, rfl, rfl, rfl, trivial⟩, hB27, (hS28.sel [] rfl), hF⟩
      · replace hF := ifN h15 hF
        refine W.exit ?_
        refine fun a ha => hK3 _ _ ?_ a ha
        refine W.seq fun K30 hK30 => ?_
        refine W.region ?_
        refine wl_move rfl rfl ?_
        refine wl_assign rfl rfl ?_
        refine WL.nil ?_
        refine fun a ha => hK30 _ _ ?_ a ha
        refine W.ret ?_
        have hr := Option.some.inj hF
        subst hr
        exact rets (vs := [(.int .i64 y8)]) hQ rfl ⟨rv_tmp rfl, trivial⟩ ⟨rfl, hB6⟩
theorem C_spec_tiName (w0 : World) (x0 : (List UInt8)) (r : Bool) (hF : F_spec_tiName x0 = some r) :
    Calls Try.prog 130 [(.string (mkS x0))].toArray w0 fun e w' => e = .returned (.bool r) ∧ Below w0.heap.size w0 w' := by
  refine calls_mk' Try.func130 rfl Try.ntmps130 rfl rfl fun Q hQ hP => ?_
  have hB : Below w0.heap.size w0 w0 := Below.refl _ _
  have hS : Sep w0.heap.size w0 [] := Sep.nil _ _
  unfold F_spec_tiName at hF
  refine W.seq fun K1 hK1 => ?_
  refine W.region ?_
  refine wl_assign rfl rfl ?_
  refine WL.nil ?_
  refine fun a ha => hK1 _ _ ?_ a ha
  refine W.seq fun K2 hK2 => ?_
  refine W.seq fun K3 hK3 => ?_
  refine W.region ?_
  refine wl_assign rfl rfl ?_
  refine WL.nil ?_
  refine fun a ha => hK3 _ _ ?_ a ha
  refine W.block ?_
  refine W.loopk (fun m a w4 => ∃ (y7 : Int), St 23 [(0, (.string (mkS x0))), (3, (.int .i64 y7))] a ∧ Below w0.heap.size w0 w4 ∧ Sep w0.heap.size w4 [] ∧ F_spec_tiName_L1 x0 m y7 = some r) FU ?_ ?_
  ·
    exact fun a ha => ⟨0, ha.sub ⟨rfl, rfl, trivial⟩, hB, (hS.sel [] rfl), hF⟩
  ·
    rintro m10 a w4 ⟨y7, ha, hB5, hS6, hF⟩ KL9 hKL9
    refine W.at ?_ ha
    cases m10 with
    | zero => exact noneE hF
    | succ m10 =>
      obtain ⟨nx8, hnx8⟩ : ∃ k, k = F_spec_tiName_L1 x0 m10 := ⟨_, rfl⟩
      rw [F_spec_tiName_L1, ← hnx8] at hF
      refine W.seq fun K11 hK11 => ?_
      refine W.seq fun K12 hK12 => ?_
      refine W.region ?_
      refine wl_move rfl rfl ?_
      refine wl_move rfl rfl ?_
      refine wl_strlen Try.underlying9 rfl rfl ?_
      refine wl_lss rfl rfl rfl ?_
      refine WL.nil ?_
      refine fun a ha => hK12 _ _ ?_ a ha
      refine W.cond rfl (fun h13 => ?_) (fun h13 => ?_)
      · replace hF := ifP h13 hF
        refine W.skip ?_
        refine fun a ha => hK11 _ _ ?_ a ha
        refine W.seq fun K14 hK14 => ?_
        refine W.block ?_
        refine W.seq fun K15 hK15 => ?_
        obtain ⟨k20, hk20, hF⟩ := jE1 hF
        have hJ21 : ∀ (y19 : Bool) (w16 : World) (_ : k20 y19 = some r) (_ : Below w0.heap.size w0 w16) (_ : Sep w0.heap.size w16 []), ∀ a, St 23 [(0, (.string (mkS x0))), (3, (.int .i64 y7)), (19, (.bool y19))] a → K15 a w16 := by
          intro y19 w16 hF hB17 hS18
          subst hk20
          refine fun a ha => hK15 _ _ ?_ a ha
          refine W.cond rfl (fun h22 => ?_) (fun h22 => ?_)
          · replace hF := ifP h22 hF
            refine W.seq fun K23 hK23 => ?_
            refine W.region ?_
            refine wl_assign rfl rfl ?_
            refine WL.nil ?_
            refine fun a ha => hK23 _ _ ?_ a ha
            refine W.ret ?_
            have hr := Option.some.inj hF
            subst hr
            exact rets (vs := [(.bool false)]) hQ rfl ⟨rv_tmp rfl, trivial⟩ ⟨rfl, hB17⟩
          · replace hF := ifN h22 hF
            refine W.skip ?_
            refine fun a ha => hK14 _ _ ?_ a ha
            refine W.region ?_
            refine wl_move rfl rfl ?_
            refine wl_add rfl rfl rfl ?_
            refine wl_assign rfl rfl ?_
            refine WL.nil ?_
            rw [hnx8] at hF
            exact fun a ha => hKL9 a _ m10 (Nat.lt_succ_self m10) ⟨(w64 (y7 + 1)), ha.sub ⟨rfl, rfl, trivial⟩, hB17, (hS18.sel [] rfl), hF⟩
        refine W.region ?_
        refine wl_move rfl rfl ?_
        refine wl_move rfl rfl ?_
        obtain ⟨u24, hu24, hF⟩ := bindE hF
        refine wl_strindex Try.underlying9 rfl rfl rfl hu24 ?_
        refine wl_lss rfl rfl rfl ?_
        refine wl_move rfl rfl ?_
        rcases bE (decide ((UInt8.toNat u24 : Int) < 97)) with h25 | h25
        · replace hF := ifP h25 hF
          refine wl_off rfl rfl rfl h25 ?_
          refine wl_off rfl rfl rfl h25 ?_
          refine wl_off rfl rfl rfl h25 ?_
          refine wl_off rfl rfl rfl h25 ?_
          refine wl_pick_t rfl rfl h25 rfl ?_
          refine WL.nil ?_
          exact fun a ha => hJ21 (true) _ hF hB5 (hS6.sel [] rfl) a (ha.sub ⟨rfl, rfl, rfl, trivial⟩)
        · replace hF := ifN h25 hF
          refine wl_on rfl rfl h25 ?_
          refine wl_move rfl rfl ?_
          refine wl_on rfl rfl h25 ?_
          refine wl_move rfl rfl ?_
          refine wl_on rfl rfl h25 ?_
          obtain ⟨u26, hu26, hF⟩ := bindE hF
          refine wl_strindex Try.underlying9 rfl rfl rfl hu26 ?_
          refine wl_on rfl rfl h25 ?_
          refine wl_gtr rfl rfl rfl ?_
          refine wl_pick_f rfl rfl h25 rfl ?_
          refine WL.nil ?_
          exact fun a ha => hJ21 ((decide (122 < (UInt8.toNat u26 : Int)))) _ hF hB5 (hS6.sel [] rfl) a (ha.sub ⟨rfl, rfl, rfl, trivial⟩)
      · replace hF := ifN h13 hF
        refine W.exit ?_
        refine fun a ha => hK2 _ _ ?_ a ha
        refine W.seq fun K27 hK27 => ?_
        refine W.region ?_
        refine wl_move rfl rfl ?_
        refine wl_strlen Try.underlying9 rfl rfl ?_
        obtain ⟨u28, hu28, hF⟩ := bindE hF
        refine wl_call rfl Try.call80 (C_spec_l1In w4 (List.length x0 : Int) 1 8 _ hu28) rfl ?_
        rintro _ w29 ⟨rfl, hb30⟩
        refine ⟨_, rfl, ?_⟩
        have hB31 := hB5.trans (hb30.mono hB5.size)
        have hS32 := hS6.below hb30
        refine wl_assign rfl rfl ?_
        refine WL.nil ?_
        refine fun a ha => hK27 _ _ ?_ a ha
        refine W.ret ?_
        have hr := Option.some.inj hF
        subst hr
        exact rets (vs := [(.bool u28)]) hQ rfl ⟨rv_tmp rfl, trivial⟩ ⟨rfl, hB31⟩
theorem C_spec_tiCues (w0 : World) (x0 : (List (Int × Int))) (v0_0 : Value) (h0_0 : rdS ty_93 (· < w0.heap.size) w0 v0_0 x0) (x1 : (List (Int × (List UInt8)))) (v1_0 : Value) (h1_0 : rdS ty_56 (· < w0.heap.size) w0 v1_0 x1) (r : Bool) (hF : F_spec_tiCues x0 x1 = some r) :
    Calls Try.prog 111 [v0_0, v1_0].toArray w0 fun e w' => e = .returned (.bool r) ∧ Below w0.heap.size w0 w' := by
  refine calls_mk' Try.func111 rfl Try.ntmps111 rfl rfl fun Q hQ hP => ?_
  have hB : Below w0.heap.size w0 w0 := Below.refl _ _
  have hS : Sep w0.heap.size w0 [] := Sep.nil _ _
  unfold F_spec_tiCues at hF
  refine W.seq fun K1 hK1 => ?_
  refine W.region ?_
  refine wl_assign rfl rfl ?_
  refine WL.nil ?_
  refine fun a ha => hK1 _ _ ?_ a ha
  refine W.seq fun K2 hK2 => ?_
  refine W.seq fun K3 hK3 => ?_
  refine W.region ?_
  refine wl_move rfl rfl ?_
  refine wl_lenr (e := ty_56) (l := x1) Try.underlying43 rfl rfl h1_0 ?_
  refine wl_move rfl rfl ?_
  refine WL.nil ?_
  refine fun a ha => hK3 _ _ ?_ a ha
  refine W.block ?_
  refine W.loopk (fun m a w4 => ∃ (y7 : Int), St 62 [(0, v0_0), (1, v1_0), (9, v1_0), (10, (.int .i64 (List.length x1 : Int))), (11, (.int .i64 y7))] a ∧ Below w0.heap.size w0 w4 ∧ Sep w0.heap.size w4 [] ∧ F_spec_tiCues_L1 x1 x0 m y7 = some r) FU ?_ ?_
  ·
    exact fun a ha => ⟨0, ha.sub ⟨rfl, rfl, rfl, rfl, rfl, trivial⟩, hB, (hS.sel [] rfl), hF⟩
  ·
    rintro m10 a w4 ⟨y7, ha, hB5, hS6, hF⟩ KL9 hKL9
    refine W.at ?_ ha
    cases m10 with
    | zero => exact noneE hF
    | succ m10 =>
      obtain ⟨nx8, hnx8⟩ : ∃ k, k = F_spec_tiCues_L1 x1 x0 m10 := ⟨_, rfl⟩
      rw [F_spec_tiCues_L1, ← hnx8] at hF
      refine W.seq fun K11 hK11 => ?_
      refine W.region ?_
      refine wl_lss rfl rfl rfl ?_
      refine WL.nil ?_
      refine fun a ha => hK11 _ _ ?_ a ha
      refine W.seq fun K12 hK12 => ?_
      refine W.cond rfl (fun h13 => ?_) (fun h13 => ?_)
      · replace hF := ifP h13 hF
        refine W.skip ?_
        refine fun a ha => hK12 _ _ ?_ a ha
        refine W.seq fun K14 hK14 => ?_
        refine W.block ?_
        refine W.seq fun K15 hK15 => ?_
        refine W.region ?_
        refine wl_move rfl rfl ?_
        obtain ⟨u16, hu16, hF⟩ := bindE hF
        refine wl_index (e := ty_56) Try.underlying43 rfl rfl rfl h1_0 hu16 ?_
        rintro p17 _ rfl hp18
        refine wl_load_p (vs := [(.int .i64 u16.1), (.string (mkS u16.2))]) (v := (.agg #[(.int .i64 u16.1), (.string (mkS u16.2))])) tf_56 rfl rfl (hp18.ro hB5) rfl rfl ?_
        refine wl_alloc (cs := [(.int .i64 0), (.string (mkS []))]) tf_56 rfl rfl hB5 hS6 ?_
        intro b19 w20 hb21 hB22 hS23
        refine wl_assign rfl rfl ?_
        refine wl_store_blk (i := 0) (vs := [(.int .i64 u16.1), (.string (mkS u16.2))]) (cs' := [(.int .i64 u16.1), (.string (mkS u16.2))]) tf_56 rfl rfl rfl rfl hB22 hS23 rfl rfl ⟨rfl, rfl, trivial⟩ rfl ?_
        intro w24 hk27 hB25 hS26
        refine WL.nil ?_
        refine fun a ha => hK15 _ _ ?_ a ha
        refine W.seq fun K28 hK28 => ?_
        refine W.seq fun K29 hK29 => ?_
        obtain ⟨k34, hk34, hF⟩ := jE1 hF
        have hJ35 : ∀ (y33 : Bool) (w30 : World) (_ : k34 y33 = some r) (_ : Below w0.heap.size w0 w30) (_ : Sep w0.heap.size w30 [R.blk b19 56 [(.int .i64 u16.1), (.string (mkS u16.2))]]), ∀ a, St 62 [(0, v0_0), (1, v1_0), (5, (.int .i64 y7)), (6, (.pointer (some ⟨b19, 0, none⟩))), (9, v1_0), (10, (.int .i64 (List.length x1 : Int))), (11, (.int .i64 y7)), (43, (.bool y33))] a → K29 a w30 := by
          intro y33 w30 hF hB31 hS32
          subst hk34
          refine fun a ha => hK29 _ _ ?_ a ha
          refine W.cond rfl (fun h36 => ?_) (fun h36 => ?_)
          · replace hF := ifP h36 hF
            refine W.seq fun K37 hK37 => ?_
            refine W.region ?_
            refine wl_assign rfl rfl ?_
            refine WL.nil ?_
            refine fun a ha => hK37 _ _ ?_ a ha
            refine W.ret ?_
            have hr := Option.some.inj hF
            subst hr
            exact rets (vs := [(.bool false)]) hQ rfl ⟨rv_tmp rfl, trivial⟩ ⟨rfl, hB31⟩
          · replace hF := ifN h36 hF
            refine W.skip ?_
            refine fun a ha => hK28 _ _ ?_ a ha
            refine W.seq fun K38 hK38 => ?_
            refine W.region ?_
            refine wl_move rfl rfl ?_
            refine wl_move rfl rfl ?_
            obtain ⟨u39, hu39, hF⟩ := bindE hF
            refine wl_slice (e := ty_56) Try.underlying43 rfl rfl h1_0 hu39 (.inl ⟨rfl, rfl⟩) (.inr ⟨_, _, rfl, rfl⟩) ?_
            intro v40 hv41
            refine wl_lenr (e := ty_56) (l := u39) Try.underlying43 rfl rfl hv41 ?_
            refine wl_move rfl rfl ?_
            refine WL.nil ?_
            refine fun a ha => hK38 _ _ ?_ a ha
            refine W.block ?_
            refine W.loopk (fun m a w42 => ∃ (y45 : Int), St 62 [(0, v0_0), (1, v1_0), (6, (.pointer (some ⟨b19, 0, none⟩))), (9, v1_0), (10, (.int .i64 (List.length x1 : Int))), (11, (.int .i64 y7)), (46, v40), (47, (.int .i64 (List.length u39 : Int))), (48, (.int .i64 y45))] a ∧ Below w0.heap.size w0 w42 ∧ Sep w0.heap.size w42 [R.blk b19 56 [(.int .i64 u16.1), (.string (mkS u16.2))]] ∧ F_spec_tiCues_L2 u39 u16 nx8 y7 m y45 = some r) FU ?_ ?_
            ·
              exact fun a ha => ⟨0, ha.sub ⟨rfl, rfl, rfl, rfl, rfl, rfl, rfl, rfl, rfl, trivial⟩, hB31, (hS32.sel [0] rfl), hF⟩
            ·
              rintro m48 a w42 ⟨y45, ha, hB43, hS44, hF⟩ KL47 hKL47
              refine W.at ?_ ha
              cases m48 with
              | zero => exact noneE hF
              | succ m48 =>
                obtain ⟨nx46, hnx46⟩ : ∃ k, k = F_spec_tiCues_L2 u39 u16 nx8 y7 m48 := ⟨_, rfl⟩
                rw [F_spec_tiCues_L2, ← hnx46] at hF
                refine W.seq fun K49 hK49 => ?_
                refine W.region ?_
                refine wl_lss rfl rfl rfl ?_
                refine WL.nil ?_
                refine fun a ha => hK49 _ _ ?_ a ha
                refine W.seq fun K50 hK50 => ?_
                refine W.cond rfl (fun h51 => ?_) (fun h51 => ?_)
                · replace hF := ifP h51 hF
                  refine W.skip ?_
                  refine fun a ha => hK50 _ _ ?_ a ha
                  refine W.seq fun K52 hK52 => ?_
                  refine W.block ?_
                  refine W.seq fun K53 hK53 => ?_
                  refine W.region ?_
                  obtain ⟨u54, hu54, hF⟩ := bindE hF
                  refine wl_index (e := ty_56) Try.underlying43 rfl rfl rfl hv41 hu54 ?_
                  rintro p55 _ rfl hp56
                  refine wl_load_p (vs := [(.int .i64 u54.1), (.string (mkS u54.2))]) (v := (.agg #[(.int .i64 u54.1), (.string (mkS u54.2))])) tf_56 rfl rfl (hp56.ro hB43) rfl rfl ?_
                  refine wl_alloc (cs := [(.int .i64 0), (.string (mkS []))]) tf_56 rfl rfl hB43 hS44 ?_
                  intro b57 w58 hb59 hB60 hS61
                  refine wl_store_blk (i := 0) (vs := [(.int .i64 u54.1), (.string (mkS u54.2))]) (cs' := [(.int .i64 u54.1), (.string (mkS u54.2))]) tf_56 rfl rfl rfl rfl hB60 hS61 rfl rfl ⟨rfl, rfl, trivial⟩ rfl ?_
                  intro w62 hk65 hB63 hS64
                  refine WL.nil ?_
                  refine fun a ha => hK53 _ _ ?_ a ha
                  refine W.seq fun K66 hK66 => ?_
                  refine W.region ?_
                  refine wl_field (o := 1) (off' := 1) ff_56_1 rfl rfl rfl ?_
                  refine wl_load_blk (i := 0) (vs := [(.string (mkS u54.2))]) (v := (.string (mkS u54.2))) tf_9 rfl rfl hS64 rfl rfl rfl ?_
                  refine wl_field (o := 1) (off' := 1) ff_56_1 rfl rfl rfl ?_
                  refine wl_load_blk (i := 1) (vs := [(.string (mkS u16.2))]) (v := (.string (mkS u16.2))) tf_9 rfl rfl hS64 rfl rfl rfl ?_
                  refine wl_streql rfl rfl rfl ?_
                  refine WL.nil ?_
                  refine fun a ha => hK66 _ _ ?_ a ha
                  refine W.cond rfl (fun h67 => ?_) (fun h67 => ?_)
                  · replace hF := ifP h67 hF
                    refine W.seq fun K68 hK68 => ?_
                    refine W.region ?_
                    refine wl_assign rfl rfl ?_
                    refine WL.nil ?_
                    refine fun a ha => hK68 _ _ ?_ a ha
                    refine W.ret ?_
                    have hr := Option.some.inj hF
                    subst hr
                    exact rets (vs := [(.bool false)]) hQ rfl ⟨rv_tmp rfl, trivial⟩ ⟨rfl, hB63⟩
                  · replace hF := ifN h67 hF
                    refine W.skip ?_
                    refine fun a ha => hK52 _ _ ?_ a ha
                    refine W.region ?_
                    refine wl_add rfl rfl rfl ?_
                    refine wl_move rfl rfl ?_
                    refine WL.nil ?_
                    rw [hnx46] at hF
                    exact fun a ha => hKL47 a _ m48 (Nat.lt_succ_self m48) ⟨(w64 (y45 + 1)), ha.sub ⟨rfl, rfl, rfl, rfl, rfl, rfl, rfl, rfl, rfl, trivial⟩, hB63, (hS64.sel [1] rfl), hF⟩
                · replace hF := ifN h51 hF
                  refine W.exit ?_
                  refine fun a ha => hK14 _ _ ?_ a ha
                  refine W.region ?_
                  refine wl_add rfl rfl rfl ?_
                  refine wl_move rfl rfl ?_
                  refine WL.nil ?_
                  rw [hnx8] at hF
                  exact fun a ha => hKL9 a _ m10 (Nat.lt_succ_self m10) ⟨(w64 (y7 + 1)), ha.sub ⟨rfl, rfl, rfl, rfl, rfl, trivial⟩, hB43, (hS44.sel [] rfl), hF⟩
        refine W.regionH mixed_ [] hB25 hS26 ?_
        intro w69 hb70 hB71 hS72
        have hSW73 := KeepX.refl w69 []
        refine WH.takex (i := 0) rfl (by kernel_rfl) (by kernel_rfl) (by kernel_rfl) hP hSW73 ?_
        refine pr_field (o := 0) (off' := 0) ff_56_0 rfl rfl rfl ?_
        refine WH.takex (i := 1) rfl (by kernel_rfl) (by kernel_rfl) (by kernel_rfl) hP hSW73 ?_
        refine pr_load_blk (i := 0) (vs := [(.int .i64 u16.1)]) (v := (.int .i64 u16.1)) tf_3 rfl rfl hS72 rfl rfl rfl (by simp) ?_
        refine WH.takex (i := 2) rfl (by kernel_rfl) (by kernel_rfl) (by kernel_rfl) hP hSW73 ?_
        refine pr_move rfl rfl ?_
        refine WH.one (i := 3) (by kernel_rfl) rfl ?_
        obtain ⟨u74, hu74, hF⟩ := bindE hF
        refine wl_call rfl Try.call99 (C_spec_muCounts w69 x0 v0_0 (h0_0.ro hB71) _ hu74) rfl ?_
        rintro _ w75 ⟨rfl, hb76⟩
        refine ⟨_, rfl, ?_⟩
        have hB77 := hB71.trans (hb76.mono hB71.size)
        have hS78 := hS72.below hb76
        have hSW80 := hSW73.ext hb76
        refine WL.nil (WH.ret hSW80 ?_)
        refine WH.takex (i := 4) rfl (by kernel_rfl) (by kernel_rfl) (by kernel_rfl) hP hSW80 ?_
        refine pr_sub rfl rfl rfl ?_
        refine WH.one (i := 5) (by kernel_rfl) rfl ?_
        obtain ⟨u81, hu81, hF⟩ := bindE hF
        refine wl_call rfl Try.call80 (C_spec_l1In w75 u16.1 0 (w64 (u74 - 1)) _ hu81) rfl ?_
        rintro _ w82 ⟨rfl, hb83⟩
        refine ⟨_, rfl, ?_⟩
        have hB84 := hB77.trans (hb83.mono hB77.size)
        have hS85 := hS78.below hb83
        have hSW87 := hSW80.ext hb83
        refine WL.nil (WH.ret hSW87 ?_)
        refine WH.takex (i := 6) rfl (by kernel_rfl) (by kernel_rfl) (by kernel_rfl) hP hSW87 ?_
        refine pr_not rfl rfl ?_
        refine WH.takex (i := 7) rfl (by kernel_rfl) (by kernel_rfl) (by kernel_rfl) hP hSW87 ?_
        refine pr_move rfl rfl ?_
        rcases bE (!u81) with h88 | h88
        · replace hF := ifP h88 hF
          refine WH.off (i := 8) rfl (by kernel_rfl) (by kernel_rfl) (by kernel_rfl) hP rfl rfl h88 rfl hSW87 ?_
          refine WH.off (i := 9) rfl (by kernel_rfl) (by kernel_rfl) (by kernel_rfl) hP rfl rfl h88 rfl hSW87 ?_
          refine WH.off (i := 10) rfl (by kernel_rfl) (by kernel_rfl) (by kernel_rfl) hP rfl rfl h88 rfl hSW87 ?_
          refine WH.off (i := 11) rfl (by kernel_rfl) (by kernel_rfl) (by kernel_rfl) hP rfl rfl h88 rfl hSW87 ?_
          refine WH.takex (i := 12) rfl (by kernel_rfl) (by kernel_rfl) (by kernel_rfl) hP hSW87 ?_
          refine pr_pick_t rfl rfl h88 rfl ?_
          refine WH.takex (i := 13) rfl (by kernel_rfl) (by kernel_rfl) (by kernel_rfl) hP hSW87 ?_
          refine pr_move rfl rfl ?_
          refine WH.off (i := 14) rfl (by kernel_rfl) (by kernel_rfl) (by kernel_rfl) hP rfl rfl rfl rfl hSW87 ?_
          refine WH.off (i := 15) rfl (by kernel_rfl) (by kernel_rfl) (by kernel_rfl) hP rfl rfl rfl rfl hSW87 ?_
          refine WH.off (i := 16) rfl (by kernel_rfl) (by kernel_rfl) (by kernel_rfl) hP rfl rfl rfl rfl hSW87 ?_
          refine WH.offu (i := 17) rfl (by kernel_rfl) (by kernel_rfl) (by kernel_rfl) hP rfl rfl rfl hSW87 ?_
          refine WH.offu (i := 18) rfl (by kernel_rfl) (by kernel_rfl) (by kernel_rfl) hP rfl rfl rfl hSW87 ?_
          refine WH.offu (i := 19) rfl (by kernel_rfl) (by kernel_rfl) (by kernel_rfl) hP rfl rfl rfl hSW87 ?_
          refine WH.offu (i := 20) rfl (by kernel_rfl) (by kernel_rfl) (by kernel_rfl) hP rfl rfl rfl hSW87 ?_
          refine WH.offu (i := 21) rfl (by kernel_rfl) (by kernel_rfl) (by kernel_rfl) hP rfl rfl rfl hSW87 ?_
          refine WH.offu (i := 22) rfl (by kernel_rfl) (by kernel_rfl) (by kernel_rfl) hP rfl rfl rfl hSW87 ?_
          refine WH.offu (i := 23) rfl (by kernel_rfl) (by kernel_rfl) (by kernel_rfl) hP rfl rfl rfl hSW87 ?_
          refine WH.offu (i := 24) rfl (by kernel_rfl) (by kernel_rfl) (by kernel_rfl) hP rfl rfl rfl hSW87 ?_
          refine WH.offu (i := 25) rfl (by kernel_rfl) (by kernel_rfl) (by kernel_rfl) hP rfl rfl rfl hSW87 ?_
          refine WH.off (i := 26) rfl (by kernel_rfl) (by kernel_rfl) (by kernel_rfl) hP rfl rfl rfl rfl hSW87 ?_
          refine WH.takex (i := 27) rfl (by kernel_rfl) (by kernel_rfl) (by kernel_rfl) hP hSW87 ?_
          refine pr_pick_t rfl rfl rfl rfl ?_
          refine WH.done (by kernel_rfl) ?_
          exact fun a ha => hJ35 (true) _ hF hB84 (hS85.sel [0] rfl) a (ha.sub ⟨rfl, rfl, rfl, rfl, rfl, rfl, rfl, rfl, trivial⟩)
        · replace hF := ifN h88 hF
          refine WH.takexg (i := 8) rfl (by kernel_rfl) (by kernel_rfl) (by kernel_rfl) hP rfl rfl h88 hSW87 ?_
          refine pr_field (o := 1) (off' := 1) ff_56_1 rfl rfl rfl ?_
          refine WH.takexg (i := 9) rfl (by kernel_rfl) (by kernel_rfl) (by kernel_rfl) hP rfl rfl h88 hSW87 ?_
          refine pr_load_blk (i := 0) (vs := [(.string (mkS u16.2))]) (v := (.string (mkS u16.2))) tf_9 rfl rfl hS72 rfl rfl rfl (by simp) ?_
          refine WH.one (i := 10) (by kernel_rfl) rfl ?_
          refine wl_on rfl rfl h88 ?_
          obtain ⟨u89, hu89, hF⟩ := bindE hF
          refine wl_call rfl Try.call130 (C_spec_tiName w82 u16.2 _ hu89) rfl ?_
          rintro _ w90 ⟨rfl, hb91⟩
          refine ⟨_, rfl, ?_⟩
          have hB92 := hB84.trans (hb91.mono hB84.size)
          have hS93 := hS85.below hb91
          have hSW95 := hSW87.ext hb91
          refine WL.nil (WH.ret hSW95 ?_)
          refine WH.takexg (i := 11) rfl (by kernel_rfl) (by kernel_rfl) (by kernel_rfl) hP rfl rfl h88 hSW95 ?_
          refine pr_not rfl rfl ?_
          refine WH.takex (i := 12) rfl (by kernel_rfl) (by kernel_rfl) (by kernel_rfl) hP hSW95 ?_
          refine pr_pick_f rfl rfl h88 rfl ?_
          refine WH.takex (i := 13) rfl (by kernel_rfl) (by kernel_rfl) (by kernel_rfl) hP hSW95 ?_
          refine pr_move rfl rfl ?_
          rcases bE (!u89) with h96 | h96
          · replace hF := ifP h96 hF
            refine WH.off (i := 14) rfl (by kernel_rfl) (by kernel_rfl) (by kernel_rfl) hP rfl rfl h96 rfl hSW95 ?_
            refine WH.off (i := 15) rfl (by kernel_rfl) (by kernel_rfl) (by kernel_rfl) hP rfl rfl h96 rfl hSW95 ?_
            refine WH.off (i := 16) rfl (by kernel_rfl) (by kernel_rfl) (by kernel_rfl) hP rfl rfl h96 rfl hSW95 ?_
            refine WH.offu (i := 17) rfl (by kernel_rfl) (by kernel_rfl) (by kernel_rfl) hP rfl rfl rfl hSW95 ?_
            refine WH.offu (i := 18) rfl (by kernel_rfl) (by kernel_rfl) (by kernel_rfl) hP rfl rfl rfl hSW95 ?_
            refine WH.offu (i := 19) rfl (by kernel_rfl) (by kernel_rfl) (by kernel_rfl) hP rfl rfl rfl hSW95 ?_
            refine WH.offu (i := 20) rfl (by kernel_rfl) (by kernel_rfl) (by kernel_rfl) hP rfl rfl rfl hSW95 ?_
            refine WH.offu (i := 21) rfl (by kernel_rfl) (by kernel_rfl) (by kernel_rfl) hP rfl rfl rfl hSW95 ?_
            refine WH.offu (i := 22) rfl (by kernel_rfl) (by kernel_rfl) (by kernel_rfl) hP rfl rfl rfl hSW95 ?_
            refine WH.offu (i := 23) rfl (by kernel_rfl) (by kernel_rfl) (by kernel_rfl) hP rfl rfl rfl hSW95 ?_
            refine WH.offu (i := 24) rfl (by kernel_rfl) (by kernel_rfl) (by kernel_rfl) hP rfl rfl rfl hSW95 ?_
            refine WH.offu (i := 25) rfl (by kernel_rfl) (by kernel_rfl) (by kernel_rfl) hP rfl rfl rfl hSW95 ?_
            refine WH.off (i := 26) rfl (by kernel_rfl) (by kernel_rfl) (by kernel_rfl) hP rfl rfl h96 rfl hSW95 ?_
            refine WH.takex (i := 27) rfl (by kernel_rfl) (by kernel_rfl) (by kernel_rfl) hP hSW95 ?_
            refine pr_pick_t rfl rfl h96 rfl ?_
            refine WH.done (by kernel_rfl) ?_
            exact fun a ha => hJ35 (true) _ hF hB92 (hS93.sel [0] rfl) a (ha.sub ⟨rfl, rfl, rfl, rfl, rfl, rfl, rfl, rfl, trivial⟩)
          · replace hF := ifN h96 hF
            refine WH.takexg (i := 14) rfl (by kernel_rfl) (by kernel_rfl) (by kernel_rfl) hP rfl rfl h96 hSW95 ?_
            refine pr_move rfl rfl ?_
            refine WH.takexg (i := 15) rfl (by kernel_rfl) (by kernel_rfl) (by kernel_rfl) hP rfl rfl h96 hSW95 ?_
            refine pr_gtr rfl rfl rfl ?_
            refine WH.takexg (i := 16) rfl (by kernel_rfl) (by kernel_rfl) (by kernel_rfl) hP rfl rfl h96 hSW95 ?_
            refine pr_move rfl rfl ?_
            rcases bE (decide (0 < y7)) with h97 | h97
            · replace hF := ifP h97 hF
              refine WH.takexg (i := 17) rfl (by kernel_rfl) (by kernel_rfl) (by kernel_rfl) hP rfl rfl h97 hSW95 ?_
              refine pr_move rfl rfl ?_
              refine WH.takexg (i := 18) rfl (by kernel_rfl) (by kernel_rfl) (by kernel_rfl) hP rfl rfl h97 hSW95 ?_
              refine pr_move rfl rfl ?_
              refine WH.takexg (i := 19) rfl (by kernel_rfl) (by kernel_rfl) (by kernel_rfl) hP rfl rfl h97 hSW95 ?_
              refine pr_sub rfl rfl rfl ?_
              obtain ⟨u98, hu98, hF⟩ := bindE hF
              refine WH.takexg (i := 20) rfl (by kernel_rfl) (by kernel_rfl) (by kernel_rfl) hP rfl rfl h97 hSW95 ?_
              refine pr_index (e := ty_56) Try.underlying43 rfl rfl rfl h1_0 hu98 ?_
              rintro p99 _ rfl hp100
              refine WH.takexg (i := 21) rfl (by kernel_rfl) (by kernel_rfl) (by kernel_rfl) hP rfl rfl h97 hSW95 ?_
              refine pr_fieldp (o := 0) ff_56_0 rfl rfl ?_
              refine WH.takexg (i := 22) rfl (by kernel_rfl) (by kernel_rfl) (by kernel_rfl) hP rfl rfl h97 hSW95 ?_
              refine pr_load_p (vs := [(.int .i64 u98.1)]) (v := (.int .i64 u98.1)) tf_3 rfl rfl (EAt.addk (hp100.kx hB71 (by simp)) 0) rfl rfl ?_
              refine WH.takexg (i := 23) rfl (by kernel_rfl) (by kernel_rfl) (by kernel_rfl) hP rfl rfl h97 hSW95 ?_
              refine pr_field (o := 0) (off' := 0) ff_56_0 rfl rfl rfl ?_
              refine WH.takexg (i := 24) rfl (by kernel_rfl) (by kernel_rfl) (by kernel_rfl) hP rfl rfl h97 hSW95 ?_
              refine pr_load_blk (i := 0) (vs := [(.int .i64 u16.1)]) (v := (.int .i64 u16.1)) tf_3 rfl rfl hS72 rfl rfl rfl (by simp) ?_
              refine WH.takexg (i := 25) rfl (by kernel_rfl) (by kernel_rfl) (by kernel_rfl) hP rfl rfl h97 hSW95 ?_
              refine pr_geq rfl rfl rfl ?_
              refine WH.takexg (i := 26) rfl (by kernel_rfl) (by kernel_rfl) (by kernel_rfl) hP rfl rfl h96 hSW95 ?_
              refine pr_pick_t rfl rfl h97 rfl ?_
              refine WH.takex (i := 27) rfl (by kernel_rfl) (by kernel_rfl) (by kernel_rfl) hP hSW95 ?_
              refine pr_pick_f rfl rfl h96 rfl ?_
              refine WH.done (by kernel_rfl) ?_
              exact fun a ha => hJ35 ((decide (u16.1 ≤ u98.1))) _ hF hB92 (hS93.sel [0] rfl) a (ha.sub ⟨rfl, rfl, rfl, rfl, rfl, rfl, rfl, rfl, trivial⟩)
            · replace hF := ifN h97 hF
              refine WH.off (i := 17) rfl (by kernel_rfl) (by kernel_rfl) (by kernel_rfl) hP rfl rfl h97 rfl hSW95 ?_
              refine WH.off (i := 18) rfl (by kernel_rfl) (by kernel_rfl) (by kernel_rfl) hP rfl rfl h97 rfl hSW95 ?_
              refine WH.off (i := 19) rfl (by kernel_rfl) (by kernel_rfl) (by kernel_rfl) hP rfl rfl h97 rfl hSW95 ?_
              refine WH.off (i := 20) rfl (by kernel_rfl) (by kernel_rfl) (by kernel_rfl) hP rfl rfl h97 rfl hSW95 ?_
              refine WH.off (i := 21) rfl (by kernel_rfl) (by kernel_rfl) (by kernel_rfl) hP rfl rfl h97 rfl hSW95 ?_
              refine WH.off (i := 22) rfl (by kernel_rfl) (by kernel_rfl) (by kernel_rfl) hP rfl rfl h97 rfl hSW95 ?_
              refine WH.off (i := 23) rfl (by kernel_rfl) (by kernel_rfl) (by kernel_rfl) hP rfl rfl h97 rfl hSW95 ?_
              refine WH.off (i := 24) rfl (by kernel_rfl) (by kernel_rfl) (by kernel_rfl) hP rfl rfl h97 rfl hSW95 ?_
              refine WH.off (i := 25) rfl (by kernel_rfl) (by kernel_rfl) (by kernel_rfl) hP rfl rfl h97 rfl hSW95 ?_
              refine WH.takexg (i := 26) rfl (by kernel_rfl) (by kernel_rfl) (by kernel_rfl) hP rfl rfl h96 hSW95 ?_
              refine pr_pick_f rfl rfl h97 rfl ?_
              refine WH.takex (i := 27) rfl (by kernel_rfl) (by kernel_rfl) (by kernel_rfl) hP hSW95 ?_
              refine pr_pick_f rfl rfl h96 rfl ?_
              refine WH.done (by kernel_rfl) ?_
              exact fun a ha => hJ35 (false) _ hF hB92 (hS93.sel [0] rfl) a (ha.sub ⟨rfl, rfl, rfl, rfl, rfl, rfl, rfl, rfl, trivial⟩)
      · replace hF := ifN h13 hF
        refine W.exit ?_
        refine fun a ha => hK2 _ _ ?_ a ha
        refine W.seq fun K101 hK101 => ?_
        refine W.region ?_
        refine wl_move rfl rfl ?_
        refine wl_lenr (e := ty_56) (l := x1) Try.underlying43 rfl rfl h1_0 ?_
        refine wl_leq rfl rfl rfl ?_
        refine wl_assign rfl rfl ?_
        refine WL.nil ?_
        refine fun a ha => hK101 _ _ ?_ a ha
        refine W.ret ?_
        have hr := Option.some.inj hF
        subst hr
        exact rets (vs := [(.bool (decide ((List.length x1 : Int) ≤ 30)))]) hQ rfl ⟨rv_tmp rfl, trivial⟩ ⟨rfl, hB5⟩
theorem C_spec_tiGood (w0 : World) (x0 : (List (Int × Int))) (v0_0 : Value) (h0_0 : rdS ty_93 (· < w0.heap.size) w0 v0_0 x0) (x1 : (List (Int × (List UInt8)))) (v1_0 : Value) (h1_0 : rdS ty_56 (· < w0.heap.size) w0 v1_0 x1) (r : Bool) (hF : F_spec_tiGood x0 x1 = some r) :
    Calls Try.prog 71 [v0_0, v1_0].toArray w0 fun e w' => e = .returned (.bool r) ∧ Below w0.heap.size w0 w' := by
  refine calls_mk' Try.func71 rfl Try.ntmps71 rfl rfl fun Q hQ hP => ?_
  have hB : Below w0.heap.size w0 w0 := Below.refl _ _
  have hS : Sep w0.heap.size w0 [] := Sep.nil _ _
  unfold F_spec_tiGood at hF
  refine W.seq fun K1 hK1 => ?_
  refine W.region ?_
  refine wl_assign rfl rfl ?_
  refine WL.nil ?_
  refine fun a ha => hK1 _ _ ?_ a ha
  refine W.seq fun K2 hK2 => ?_
  obtain ⟨k7, hk7, hF⟩ := jE1 hF
  have hJ8 : ∀ (y6 : Bool) (w3 : World) (_ : k7 y6 = some r) (_ : Below w0.heap.size w0 w3) (_ : Sep w0.heap.size w3 []), ∀ a, St 12 [(4, (.bool y6))] a → K2 a w3 := by
    intro y6 w3 hF hB4 hS5
    subst hk7
    refine fun a ha => hK2 _ _ ?_ a ha
    refine W.ret ?_
    have hr := Option.some.inj hF
    subst hr
    exact rets (vs := [(.bool y6)]) hQ rfl ⟨rv_tmp rfl, trivial⟩ ⟨rfl, hB4⟩
  refine W.region ?_
  refine wl_move rfl rfl ?_
  obtain ⟨u9, hu9, hF⟩ := bindE hF
  refine wl_call rfl Try.call110 (C_spec_muGood w0 x0 v0_0 (h0_0.ro hB) _ hu9) rfl ?_
  rintro _ w10 ⟨rfl, hb11⟩
  refine ⟨_, rfl, ?_⟩
  have hB12 := hB.trans (hb11.mono hB.size)
  have hS13 := hS.below hb11
  refine wl_move rfl rfl ?_
  rcases bE u9 with h15 | h15
  · replace hF := ifP h15 hF
    refine wl_on rfl rfl h15 ?_
    refine wl_move rfl rfl ?_
    refine wl_on rfl rfl h15 ?_
    refine wl_move rfl rfl ?_
    refine wl_on rfl rfl h15 ?_
    obtain ⟨u16, hu16, hF⟩ := bindE hF
    refine wl_call rfl Try.call111 (C_spec_tiCues w10 x0 v0_0 (h0_0.ro hB12) x1 v1_0 (h1_0.ro hB12) _ hu16) rfl ?_
    rintro _ w17 ⟨rfl, hb18⟩
    refine ⟨_, rfl, ?_⟩
    have hB19 := hB12.trans (hb18.mono hB12.size)
    have hS20 := hS13.below hb18
    refine wl_pick_t rfl rfl h15 rfl ?_
    refine wl_assign rfl rfl ?_
    refine WL.nil ?_
    exact fun a ha => hJ8 (u16) _ hF hB19 (hS20.sel [] rfl) a (ha.sub ⟨rfl, trivial⟩)
  · replace hF := ifN h15 hF
    refine wl_off rfl rfl rfl h15 ?_
    refine wl_off rfl rfl rfl h15 ?_
    refine wl_off rfl rfl rfl h15 ?_
    refine wl_pick_f rfl rfl h15 rfl ?_
    refine wl_assign rfl rfl ?_
    refine WL.nil ?_
    exact fun a ha => hJ8 (false) _ hF hB12 (hS13.sel [] rfl) a (ha.sub ⟨rfl, trivial⟩)
theorem C_impl_IsMusic (w0 : World) (x0 : (List (Int × Int))) (v0_0 : Value) (h0_0 : rdS ty_93 (· < w0.heap.size) w0 v0_0 x0) (r : Bool) (hF : F_impl_IsMusic x0 = some r) :
    Calls Try.prog 113 [v0_0].toArray w0 fun e w' => e = .returned (.bool r) ∧ Below w0.heap.size w0 w' := by
  refine calls_mk' Try.func113 rfl Try.ntmps113 rfl rfl fun Q hQ hP => ?_
  have hB : Below w0.heap.size w0 w0 := Below.refl _ _
  have hS : Sep w0.heap.size w0 [] := Sep.nil _ _
  unfold F_impl_IsMusic at hF
  refine W.seq fun K1 hK1 => ?_
  refine W.region ?_
  refine wl_assign rfl rfl ?_
  refine WL.nil ?_
  refine fun a ha => hK1 _ _ ?_ a ha
  refine W.seq fun K2 hK2 => ?_
  refine W.seq fun K3 hK3 => ?_
  refine W.region ?_
  refine wl_move rfl rfl ?_
  refine wl_lenr (e := ty_93) (l := x0) Try.underlying41 rfl rfl h0_0 ?_
  refine wl_move rfl rfl ?_
  refine WL.nil ?_
  refine fun a ha => hK3 _ _ ?_ a ha
  refine W.block ?_
  refine W.loopk (fun m a w4 => ∃ (y7 : Int), St 25 [(0, v0_0), (5, v0_0), (6, (.int .i64 (List.length x0 : Int))), (7, (.int .i64 y7))] a ∧ Below w0.heap.size w0 w4 ∧ Sep w0.heap.size w4 [] ∧ F_impl_IsMusic_L1 x0 m y7 = some r) FU ?_ ?_
  ·
    exact fun a ha => ⟨0, ha.sub ⟨rfl, rfl, rfl, rfl, trivial⟩, hB, (hS.sel [] rfl), hF⟩
  ·
    rintro m10 a w4 ⟨y7, ha, hB5, hS6, hF⟩ KL9 hKL9
    refine W.at ?_ ha
    cases m10 with
    | zero => exact noneE hF
    | succ m10 =>
      obtain ⟨nx8, hnx8⟩ : ∃ k, k = F_impl_IsMusic_L1 x0 m10 := ⟨_, rfl⟩
      rw [F_impl_IsMusic_L1, ← hnx8] at hF
      refine W.seq fun K11 hK11 => ?_
      refine W.region ?_
      refine wl_lss rfl rfl rfl ?_
      refine WL.nil ?_
      refine fun a ha => hK11 _ _ ?_ a ha
      refine W.seq fun K12 hK12 => ?_
      refine W.cond rfl (fun h13 => ?_) (fun h13 => ?_)
      · replace hF := ifP h13 hF
        refine W.skip ?_
        refine fun a ha => hK12 _ _ ?_ a ha
        refine W.seq fun K14 hK14 => ?_
        refine W.block ?_
        refine W.seq fun K15 hK15 => ?_
        refine W.region ?_
        obtain ⟨u16, hu16, hF⟩ := bindE hF
        refine wl_index (e := ty_93) Try.underlying41 rfl rfl rfl h0_0 hu16 ?_
        rintro p17 _ rfl hp18
        refine wl_load_p (vs := [(.int .i64 u16.1), (.int .i64 u16.2)]) (v := (.agg #[(.int .i64 u16.1), (.int .i64 u16.2)])) tf_93 rfl rfl (hp18.ro hB5) rfl rfl ?_
        refine wl_alloc (cs := [(.int .i64 0), (.int .i64 0)]) tf_93 rfl rfl hB5 hS6 ?_
        intro b19 w20 hb21 hB22 hS23
        refine wl_store_blk (i := 0) (vs := [(.int .i64 u16.1), (.int .i64 u16.2)]) (cs' := [(.int .i64 u16.1), (.int .i64 u16.2)]) tf_93 rfl rfl rfl rfl hB22 hS23 rfl rfl ⟨rfl, rfl, trivial⟩ rfl ?_
        intro w24 hk27 hB25 hS26
        refine WL.nil ?_
        refine fun a ha => hK15 _ _ ?_ a ha
        refine W.seq fun K28 hK28 => ?_
        obtain ⟨k33, hk33, hF⟩ := jE1 hF
        have hJ34 : ∀ (y32 : Bool) (w29 : World) (_ : k33 y32 = some r) (_ : Below w0.heap.size w0 w29) (_ : Sep w0.heap.size w29 []), ∀ a, St 25 [(0, v0_0), (5, v0_0), (6, (.int .i64 (List.length x0 : Int))), (7, (.int .i64 y7)), (20, (.bool y32))] a → K28 a w29 := by
          intro y32 w29 hF hB30 hS31
          subst hk33
          refine fun a ha => hK28 _ _ ?_ a ha
          refine W.cond rfl (fun h35 => ?_) (fun h35 => ?_)
          · replace hF := ifP h35 hF
            refine W.seq fun K36 hK36 => ?_
            refine W.region ?_
            refine wl_assign rfl rfl ?_
            refine WL.nil ?_
            refine fun a ha => hK36 _ _ ?_ a ha
            refine W.ret ?_
            have hr := Option.some.inj hF
            subst hr
            exact rets (vs := [(.bool false)]) hQ rfl ⟨rv_tmp rfl, trivial⟩ ⟨rfl, hB30⟩
          · replace hF := ifN h35 hF
            refine W.skip ?_
            refine fun a ha => hK14 _ _ ?_ a ha
            refine W.region ?_
            refine wl_add rfl rfl rfl ?_
            refine wl_move rfl rfl ?_
            refine WL.nil ?_
            rw [hnx8] at hF
            exact fun a ha => hKL9 a _ m10 (Nat.lt_succ_self m10) ⟨(w64 (y7 + 1)), ha.sub ⟨rfl, rfl, rfl, rfl, trivial⟩, hB30, (hS31.sel [] rfl), hF⟩
        refine W.region ?_
        refine wl_field (o := 0) (off' := 0) ff_93_0 rfl rfl rfl ?_
        refine wl_load_blk (i := 0) (vs := [(.int .i64 u16.1)]) (v := (.int .i64 u16.1)) tf_3 rfl rfl hS26 rfl rfl rfl ?_
        obtain ⟨u37, hu37, hF⟩ := bindE hF
        refine wl_call rfl Try.call65 (C_impl_within w24 u16.1 1 12 _ hu37) rfl ?_
        rintro _ w38 ⟨rfl, hb39⟩
        refine ⟨_, rfl, ?_⟩
        have hB40 := hB25.trans (hb39.mono hB25.size)
        have hS41 := hS26.below hb39
        refine wl_not rfl rfl ?_
        refine wl_move rfl rfl ?_
        rcases bE (!u37) with h43 | h43
        · replace hF := ifP h43 hF
          refine wl_off rfl rfl rfl h43 ?_
          refine wl_off rfl rfl rfl h43 ?_
          refine wl_off rfl rfl rfl h43 ?_
          refine wl_off rfl rfl rfl h43 ?_
          refine wl_pick_t rfl rfl h43 rfl ?_
          refine WL.nil ?_
          exact fun a ha => hJ34 (true) _ hF hB40 (hS41.sel [] rfl) a (ha.sub ⟨rfl, rfl, rfl, rfl, rfl, trivial⟩)
        · replace hF := ifN h43 hF
          refine wl_on rfl rfl h43 ?_
          refine wl_field (o := 1) (off' := 1) ff_93_1 rfl rfl rfl ?_
          refine wl_on rfl rfl h43 ?_
          refine wl_load_blk (i := 0) (vs := [(.int .i64 u16.2)]) (v := (.int .i64 u16.2)) tf_3 rfl rfl hS41 rfl rfl rfl ?_
          refine wl_on rfl rfl h43 ?_
          obtain ⟨u44, hu44, hF⟩ := bindE hF
          refine wl_call rfl Try.call65 (C_impl_within w38 u16.2 40 220 _ hu44) rfl ?_
          rintro _ w45 ⟨rfl, hb46⟩
          refine ⟨_, rfl, ?_⟩
          have hB47 := hB40.trans (hb46.mono hB40.size)
          have hS48 := hS41.below hb46
          refine wl_on rfl rfl h43 ?_
          refine wl_not rfl rfl ?_
          refine wl_pick_f rfl rfl h43 rfl ?_
          refine WL.nil ?_
          exact fun a ha => hJ34 ((!u44)) _ hF hB47 (hS48.sel [] rfl) a (ha.sub ⟨rfl, rfl, rfl, rfl, rfl, trivial⟩)
      · replace hF := ifN h13 hF
        refine W.exit ?_
        refine fun a ha => hK2 _ _ ?_ a ha
        refine W.seq fun K50 hK50 => ?_
        refine W.region ?_
        refine wl_move rfl rfl ?_
        refine wl_lenr (e := ty_93) (l := x0) Try.underlying41 rfl rfl h0_0 ?_
        obtain ⟨u51, hu51, hF⟩ := bindE hF
        refine wl_call rfl Try.call65 (C_impl_within w4 (List.length x0 : Int) 1 40 _ hu51) rfl ?_
        rintro _ w52 ⟨rfl, hb53⟩
        refine ⟨_, rfl, ?_⟩
        have hB54 := hB5.trans (hb53.mono hB5.size)
        have hS55 := hS6.below hb53
        refine wl_assign rfl rfl ?_
        refine WL.nil ?_
        refine fun a ha => hK50 _ _ ?_ a ha
        refine W.ret ?_
        have hr := Option.some.inj hF
        subst hr
        exact rets (vs := [(.bool u51)]) hQ rfl ⟨rv_tmp rfl, trivial⟩ ⟨rfl, hB54⟩
theorem C_impl_countsOf (w0 : World) (x0 : (List (Int × Int))) (v0_0 : Value) (h0_0 : rdS ty_93 (· < w0.heap.size) w0 v0_0 x0) (r : Int) (hF : F_impl_countsOf x0 = some r) :
    Calls Try.prog 101 [v0_0].toArray w0 fun e w' => e = .returned (.int .i64 r) ∧ Below w0.heap.size w0 w' := by
  refine calls_mk' Try.func101 rfl Try.ntmps101 rfl rfl fun Q hQ hP => ?_
  have hB : Below w0.heap.size w0 w0 := Below.refl _ _
  have hS : Sep w0.heap.size w0 [] := Sep.nil _ _
  unfold F_impl_countsOf at hF
  refine W.seq fun K1 hK1 => ?_
  refine W.region ?_
  refine wl_assign rfl rfl ?_
  refine WL.nil ?_
  refine fun a ha => hK1 _ _ ?_ a ha
  refine W.seq fun K2 hK2 => ?_
  refine W.region ?_
  refine wl_assign rfl rfl ?_
  refine WL.nil ?_
  refine fun a ha => hK2 _ _ ?_ a ha
  refine W.seq fun K3 hK3 => ?_
  refine W.seq fun K4 hK4 => ?_
  refine W.region ?_
  refine wl_move rfl rfl ?_
  refine wl_lenr (e := ty_93) (l := x0) Try.underlying41 rfl rfl h0_0 ?_
  refine wl_move rfl rfl ?_
  refine WL.nil ?_
  refine fun a ha => hK4 _ _ ?_ a ha
  refine W.block ?_
  refine W.loopk (fun m a w5 => ∃ (y8 : Int) (y9 : Int), St 18 [(3, (.int .i64 y8)), (6, v0_0), (7, (.int .i64 (List.length x0 : Int))), (8, (.int .i64 y9))] a ∧ Below w0.heap.size w0 w5 ∧ Sep w0.heap.size w5 [] ∧ F_impl_countsOf_L1 x0 m y8 y9 = some r) FU ?_ ?_
  ·
    exact fun a ha => ⟨0, 0, ha.sub ⟨rfl, rfl, rfl, rfl, trivial⟩, hB, (hS.sel [] rfl), hF⟩
  ·
    rintro m12 a w5 ⟨y8, y9, ha, hB6, hS7, hF⟩ KL11 hKL11
    refine W.at ?_ ha
    cases m12 with
    | zero => exact noneE hF
    | succ m12 =>
      obtain ⟨nx10, hnx10⟩ : ∃ k, k = F_impl_countsOf_L1 x0 m12 := ⟨_, rfl⟩
      rw [F_impl_countsOf_L1, ← hnx10] at hF
      refine W.seq fun K13 hK13 => ?_
      refine W.region ?_
      refine wl_lss rfl rfl rfl ?_
      refine WL.nil ?_
      refine fun a ha => hK13 _ _ ?_ a ha
      refine W.seq fun K14 hK14 => ?_
      refine W.cond rfl (fun h15 => ?_) (fun h15 => ?_)
      · replace hF := ifP h15 hF
        refine W.skip ?_
        refine fun a ha => hK14 _ _ ?_ a ha
        refine W.seq fun K16 hK16 => ?_
        refine W.block ?_
        refine W.seq fun K17 hK17 => ?_
        refine W.region ?_
        obtain ⟨u18, hu18, hF⟩ := bindE hF
        refine wl_index (e := ty_93) Try.underlying41 rfl rfl rfl h0_0 hu18 ?_
        rintro p19 _ rfl hp20
        refine wl_load_p (vs := [(.int .i64 u18.1), (.int .i64 u18.2)]) (v := (.agg #[(.int .i64 u18.1), (.int .i64 u18.2)])) tf_93 rfl rfl (hp20.ro hB6) rfl rfl ?_
        refine wl_alloc (cs := [(.int .i64 0), (.int .i64 0)]) tf_93 rfl rfl hB6 hS7 ?_
        intro b21 w22 hb23 hB24 hS25
        refine wl_store_blk (i := 0) (vs := [(.int .i64 u18.1), (.int .i64 u18.2)]) (cs' := [(.int .i64 u18.1), (.int .i64 u18.2)]) tf_93 rfl rfl rfl rfl hB24 hS25 rfl rfl ⟨rfl, rfl, trivial⟩ rfl ?_
        intro w26 hk29 hB27 hS28
        refine WL.nil ?_
        refine fun a ha => hK17 _ _ ?_ a ha
        refine W.region ?_
        refine wl_move rfl rfl ?_
        refine wl_field (o := 0) (off' := 0) ff_93_0 rfl rfl rfl ?_
        refine wl_load_blk (i := 0) (vs := [(.int .i64 u18.1)]) (v := (.int .i64 u18.1)) tf_3 rfl rfl hS28 rfl rfl rfl ?_
        refine wl_add rfl rfl rfl ?_
        refine wl_assign rfl rfl ?_
        refine WL.nil ?_
        refine fun a ha => hK16 _ _ ?_ a ha
        refine W.region ?_
        refine wl_add rfl rfl rfl ?_
        refine wl_move rfl rfl ?_
        refine WL.nil ?_
        rw [hnx10] at hF
        exact fun a ha => hKL11 a _ m12 (Nat.lt_succ_self m12) ⟨(w64 (y8 + u18.1)), (w64 (y9 + 1)), ha.sub ⟨rfl, rfl, rfl, rfl, trivial⟩, hB27, (hS28.sel [] rfl), hF⟩
      · replace hF := ifN h15 hF
        refine W.exit ?_
        refine fun a ha => hK3 _ _ ?_ a ha
        refine W.seq fun K30 hK30 => ?_
        refine W.region ?_
        refine wl_move rfl rfl ?_
        refine wl_assign rfl rfl ?_
        refine WL.nil ?_
        refine fun a ha => hK30 _ _ ?_ a ha
        refine W.ret ?_
        have hr := Option.some.inj hF
        subst hr
        exact rets (vs := [(.int .i64 y8)]) hQ rfl ⟨rv_tmp rfl, trivial⟩ ⟨rfl, hB6⟩
theorem C_impl_isName (w0 : World) (x0 : (List UInt8)) (r : Bool) (hF : F_impl_isName x0 = some r) :
    Calls Try.prog 115 [(.string (mkS x0))].toArray w0 fun e w' => e = .returned (.bool r) ∧ Below w0.heap.size w0 w' := by
  refine calls_mk' Try.func115 rfl Try.ntmps115 rfl rfl fun Q hQ hP => ?_
  have hB : Below w0.heap.size w0 w0 := Below.refl _ _
  have hS : Sep w0.heap.size w0 [] := Sep.nil _ _
  unfold F_impl_isName at hF
  refine W.seq fun K1 hK1 => ?_
  refine W.region ?_
  refine wl_assign rfl rfl ?_
  refine WL.nil ?_
  refine fun a ha => hK1 _ _ ?_ a ha
  refine W.seq fun K2 hK2 => ?_
  refine W.seq fun K3 hK3 => ?_
  refine W.region ?_
  refine wl_assign rfl rfl ?_
  refine WL.nil ?_
  refine fun a ha => hK3 _ _ ?_ a ha
  refine W.block ?_
  refine W.loopk (fun m a w4 => ∃ (y7 : Int), St 23 [(0, (.string (mkS x0))), (3, (.int .i64 y7))] a ∧ Below w0.heap.size w0 w4 ∧ Sep w0.heap.size w4 [] ∧ F_impl_isName_L1 x0 m y7 = some r) FU ?_ ?_
  ·
    exact fun a ha => ⟨0, ha.sub ⟨rfl, rfl, trivial⟩, hB, (hS.sel [] rfl), hF⟩
  ·
    rintro m10 a w4 ⟨y7, ha, hB5, hS6, hF⟩ KL9 hKL9
    refine W.at ?_ ha
    cases m10 with
    | zero => exact noneE hF
    | succ m10 =>
      obtain ⟨nx8, hnx8⟩ : ∃ k, k = F_impl_isName_L1 x0 m10 := ⟨_, rfl⟩
      rw [F_impl_isName_L1, ← hnx8] at hF
      refine W.seq fun K11 hK11 => ?_
      refine W.seq fun K12 hK12 => ?_
      refine W.region ?_
      refine wl_move rfl rfl ?_
      refine wl_move rfl rfl ?_
      refine wl_strlen Try.underlying9 rfl rfl ?_
      refine wl_lss rfl rfl rfl ?_
      refine WL.nil ?_
      refine fun a ha => hK12 _ _ ?_ a ha
      refine W.cond rfl (fun h13 => ?_) (fun h13 => ?_)
      · replace hF := ifP h13 hF
        refine W.skip ?_
        refine fun a ha => hK11 _ _ ?_ a ha
        refine W.seq fun K14 hK14 => ?_
        refine W.block ?_
        refine W.seq fun K15 hK15 => ?_
        obtain ⟨k20, hk20, hF⟩ := jE1 hF
        have hJ21 : ∀ (y19 : Bool) (w16 : World) (_ : k20 y19 = some r) (_ : Below w0.heap.size w0 w16) (_ : Sep w0.heap.size w16 []), ∀ a, St 23 [(0, (.string (mkS x0))), (3, (.int .i64 y7)), (19, (.bool y19))] a → K15 a w16 := by
          intro y19 w16 hF hB17 hS18
          subst hk20
          refine fun a ha => hK15 _ _ ?_ a ha
          refine W.cond rfl (fun h22 => ?_) (fun h22 => ?_)
          · replace hF := ifP h22 hF
            refine W.seq fun K23 hK23 => ?_
            refine W.region ?_
            refine wl_assign rfl rfl ?_
            refine WL.nil ?_
            refine fun a ha => hK23 _ _ ?_ a ha
            refine W.ret ?_
            have hr := Option.some.inj hF
            subst hr
            exact rets (vs := [(.bool false)]) hQ rfl ⟨rv_tmp rfl, trivial⟩ ⟨rfl, hB17⟩
          · replace hF := ifN h22 hF
            refine W.skip ?_
            refine fun a ha => hK14 _ _ ?_ a ha
            refine W.region ?_
            refine wl_move rfl rfl ?_
            refine wl_add rfl rfl rfl ?_
            refine wl_assign rfl rfl ?_
            refine WL.nil ?_
            rw [hnx8] at hF
            exact fun a ha => hKL9 a _ m10 (Nat.lt_succ_self m10) ⟨(w64 (y7 + 1)), ha.sub ⟨rfl, rfl, trivial⟩, hB17, (hS18.sel [] rfl), hF⟩
        refine W.region ?_
        refine wl_move rfl rfl ?_
        refine wl_move rfl rfl ?_
        obtain ⟨u24, hu24, hF⟩ := bindE hF
        refine wl_strindex Try.underlying9 rfl rfl rfl hu24 ?_
        refine wl_lss rfl rfl rfl ?_
        refine wl_move rfl rfl ?_
        rcases bE (decide ((UInt8.toNat u24 : Int) < 97)) with h25 | h25
        · replace hF := ifP h25 hF
          refine wl_off rfl rfl rfl h25 ?_
          refine wl_off rfl rfl rfl h25 ?_
          refine wl_off rfl rfl rfl h25 ?_
          refine wl_off rfl rfl rfl h25 ?_
          refine wl_pick_t rfl rfl h25 rfl ?_
          refine WL.nil ?_
          exact fun a ha => hJ21 (true) _ hF hB5 (hS6.sel [] rfl) a (ha.sub ⟨rfl, rfl, rfl, trivial⟩)
        · replace hF := ifN h25 hF
          refine wl_on rfl rfl h25 ?_
          refine wl_move rfl rfl ?_
          refine wl_on rfl rfl h25 ?_
          refine wl_move rfl rfl ?_
          refine wl_on rfl rfl h25 ?_
          obtain ⟨u26, hu26, hF⟩ := bindE hF
          refine wl_strindex Try.underlying9 rfl rfl rfl hu26 ?_
          refine wl_on rfl rfl h25 ?_
          refine wl_gtr rfl rfl rfl ?_
          refine wl_pick_f rfl rfl h25 rfl ?_
          refine WL.nil ?_
          exact fun a ha => hJ21 ((decide (122 < (UInt8.toNat u26 : Int)))) _ hF hB5 (hS6.sel [] rfl) a (ha.sub ⟨rfl, rfl, rfl, trivial⟩)
      · replace hF := ifN h13 hF
        refine W.exit ?_
        refine fun a ha => hK2 _ _ ?_ a ha
        refine W.seq fun K27 hK27 => ?_
        refine W.region ?_
        refine wl_move rfl rfl ?_
        refine wl_strlen Try.underlying9 rfl rfl ?_
        obtain ⟨u28, hu28, hF⟩ := bindE hF
        refine wl_call rfl Try.call65 (C_impl_within w4 (List.length x0 : Int) 1 12 _ hu28) rfl ?_
        rintro _ w29 ⟨rfl, hb30⟩
        refine ⟨_, rfl, ?_⟩
        have hB31 := hB5.trans (hb30.mono hB5.size)
        have hS32 := hS6.below hb30
        refine wl_assign rfl rfl ?_
        refine WL.nil ?_
        refine fun a ha => hK27 _ _ ?_ a ha
        refine W.ret ?_
        have hr := Option.some.inj hF
        subst hr
        exact rets (vs := [(.bool u28)]) hQ rfl ⟨rv_tmp rfl, trivial⟩ ⟨rfl, hB31⟩
theorem C_impl_areCues_1 (w0 : World) (x0 : (Int × (List UInt8))) (y1 : (Int × (List UInt8))) (p1 : Addr) (hp1 : EAt (· < w0.heap.size) w0 p1 [(.int .i64 y1.1), (.string (mkS y1.2))]) (r : Bool) (hF : F_impl_areCues_1 x0 y1 = some r) :
    Calls Try.prog 117 [(.agg #[(.int .i64 x0.1), (.string (mkS x0.2))]), (.pointer (some p1))].toArray w0 fun e w' => e = .returned (.bool r) ∧ Below w0.heap.size w0 w' := by
  refine calls_mk' Try.func117 rfl Try.ntmps117 rfl rfl fun Q hQ hP => ?_
  have hB : Below w0.heap.size w0 w0 := Below.refl _ _
  have hS : Sep w0.heap.size w0 [] := Sep.nil _ _
  unfold F_impl_areCues_1 at hF
  refine W.seq fun K1 hK1 => ?_
  refine W.region ?_
  refine wl_box (cs := [(.int .i64 x0.1), (.string (mkS x0.2))]) rfl rfl rfl hB hS ?_
  intro b2 w3 hb4 hB5 hS6
  refine wl_assign rfl rfl ?_
  refine WL.nil ?_
  refine fun a ha => hK1 _ _ ?_ a ha
  refine W.seq fun K7 hK7 => ?_
  refine W.region ?_
  refine wl_field (o := 1) (off' := 1) ff_56_1 rfl rfl rfl ?_
  refine wl_load_blk (i := 0) (vs := [(.string (mkS x0.2))]) (v := (.string (mkS x0.2))) tf_9 rfl rfl hS6 rfl rfl rfl ?_
  refine wl_fieldp (o := 1) ff_56_1 rfl rfl ?_
  refine wl_load_p (vs := [(.string (mkS y1.2))]) (v := (.string (mkS y1.2))) tf_9 rfl rfl ((hp1.ro hB5).add 1) rfl rfl ?_
  refine wl_streql rfl rfl rfl ?_
  refine wl_assign rfl rfl ?_
  refine WL.nil ?_
  refine fun a ha => hK7 _ _ ?_ a ha
  refine W.ret ?_
  have hr := Option.some.inj hF
  subst hr
  exact rets (vs := [(.bool (x0.2 == y1.2))]) hQ rfl ⟨rv_tmp rfl, trivial⟩ ⟨rfl, hB5⟩
theorem C_slices_IndexFunc_impl_Cue_impl_Cue__impl_areCues_1 (w0 : World) (x0 : (List (Int × (List UInt8)))) (v0_0 : Value) (h0_0 : rdS ty_56 (· < w0.heap.size) w0 v0_0 x0) (y1_0 : (Int × (List UInt8))) (p1_0 : Addr) (hp1_0 : EAt (· < w0.heap.size) w0 p1_0 [(.int .i64 y1_0.1), (.string (mkS y1_0.2))]) (r : Int) (hF : F_slices_IndexFunc_impl_Cue_impl_Cue__impl_areCues_1 x0 y1_0 = some r) :
    Calls Try.prog 132 [v0_0, (.func (.func 117) #[] #[(.pointer (some p1_0))])].toArray w0 fun e w' => e = .returned (.int .i64 r) ∧ Below w0.heap.size w0 w' := by
  refine calls_mk' Try.func132 rfl Try.ntmps132 rfl rfl fun Q hQ hP => ?_
  have hB : Below w0.heap.size w0 w0 := Below.refl _ _
  have hS : Sep w0.heap.size w0 [] := Sep.nil _ _
  unfold F_slices_IndexFunc_impl_Cue_impl_Cue__impl_areCues_1 at hF
  refine W.seq fun K1 hK1 => ?_
  refine W.region ?_
  refine wl_assign rfl rfl ?_
  refine WL.nil ?_
  refine fun a ha => hK1 _ _ ?_ a ha
  refine W.seq fun K2 hK2 => ?_
  refine W.seq fun K3 hK3 => ?_
  refine W.region ?_
  refine wl_move rfl rfl ?_
  refine wl_lenr (e := ty_56) (l := x0) Try.underlying43 rfl rfl h0_0 ?_
  refine wl_move rfl rfl ?_
  refine WL.nil ?_
  refine fun a ha => hK3 _ _ ?_ a ha
  refine W.block ?_
  refine W.loopk (fun m a w4 => ∃ (y7 : Int), St 19 [(0, v0_0), (1, (.func (.func 117) #[] #[(.pointer (some p1_0))])), (7, (.int .i64 (List.length x0 : Int))), (8, (.int .i64 y7))] a ∧ Below w0.heap.size w0 w4 ∧ Sep w0.heap.size w4 [] ∧ F_slices_IndexFunc_impl_Cue_impl_Cue__impl_areCues_1_L1 x0 y1_0 m y7 = some r) FU ?_ ?_
  ·
    exact fun a ha => ⟨0, ha.sub ⟨rfl, rfl, rfl, rfl, trivial⟩, hB, (hS.sel [] rfl), hF⟩
  ·
    rintro m10 a w4 ⟨y7, ha, hB5, hS6, hF⟩ KL9 hKL9
    refine W.at ?_ ha
    cases m10 with
    | zero => exact noneE hF
    | succ m10 =>
      obtain ⟨nx8, hnx8⟩ : ∃ k, k = F_slices_IndexFunc_impl_Cue_impl_Cue__impl_areCues_1_L1 x0 y1_0 m10 := ⟨_, rfl⟩
      rw [F_slices_IndexFunc_impl_Cue_impl_Cue__impl_areCues_1_L1, ← hnx8] at hF
      refine W.seq fun K11 hK11 => ?_
      refine W.region ?_
      refine wl_lss rfl rfl rfl ?_
      refine WL.nil ?_
      refine fun a ha => hK11 _ _ ?_ a ha
      refine W.seq fun K12 hK12 => ?_
      refine W.cond rfl (fun h13 => ?_) (fun h13 => ?_)
      · replace hF := ifP h13 hF
        refine W.skip ?_
        refine fun a ha => hK12 _ _ ?_ a ha
        refine W.seq fun K14 hK14 => ?_
        refine W.block ?_
        refine W.seq fun K15 hK15 => ?_
        refine W.region ?_
        refine wl_move rfl rfl ?_
        refine wl_assign rfl rfl ?_
        refine WL.nil ?_
        refine fun a ha => hK15 _ _ ?_ a ha
        refine W.seq fun K16 hK16 => ?_
        refine W.region ?_
        refine wl_move rfl rfl ?_
        refine wl_move rfl rfl ?_
        refine wl_move rfl rfl ?_
        obtain ⟨u17, hu17, hF⟩ := bindE hF
        refine wl_index (e := ty_56) Try.underlying43 rfl rfl rfl h0_0 hu17 ?_
        rintro p18 _ rfl hp19
        refine wl_load_p (vs := [(.int .i64 u17.1), (.string (mkS u17.2))]) (v := (.agg #[(.int .i64 u17.1), (.string (mkS u17.2))])) tf_56 rfl rfl (hp19.ro hB5) rfl rfl ?_
        obtain ⟨u20, hu20, hF⟩ := bindE hF
        refine wl_callv (caps := [(.pointer (some p1_0))]) (vs := [(.agg #[(.int .i64 u17.1), (.string (mkS u17.2))])]) rfl rfl Try.call117 (C_impl_areCues_1 w4 u17 y1_0 p1_0 (hp1_0.ro hB5) _ hu20) rfl ?_
        rintro _ w21 ⟨rfl, hb22⟩
        refine ⟨_, rfl, ?_⟩
        have hB23 := hB5.trans (hb22.mono hB5.size)
        have hS24 := hS6.below hb22
        refine WL.nil ?_
        refine fun a ha => hK16 _ _ ?_ a ha
        refine W.cond rfl (fun h26 => ?_) (fun h26 => ?_)
        · replace hF := ifP h26 hF
          refine W.seq fun K27 hK27 => ?_
          refine W.region ?_
          refine wl_move rfl rfl ?_
          refine wl_assign rfl rfl ?_
          refine WL.nil ?_
          refine fun a ha => hK27 _ _ ?_ a ha
          refine W.ret ?_
          have hr := Option.some.inj hF
          subst hr
          exact rets (vs := [(.int .i64 y7)]) hQ rfl ⟨rv_tmp rfl, trivial⟩ ⟨rfl, hB23⟩
        · replace hF := ifN h26 hF
          refine W.skip ?_
          refine fun a ha => hK14 _ _ ?_ a ha
          refine W.region ?_
          refine wl_add rfl rfl rfl ?_
          refine wl_move rfl rfl ?_
          refine WL.nil ?_
          rw [hnx8] at hF
          exact fun a ha => hKL9 a _ m10 (Nat.lt_succ_self m10) ⟨(w64 (y7 + 1)), ha.sub ⟨rfl, rfl, rfl, rfl, trivial⟩, hB23, (hS24.sel [] rfl), hF⟩
      · replace hF := ifN h13 hF
        refine W.exit ?_
        refine fun a ha => hK2 _ _ ?_ a ha
        refine W.seq fun K28 hK28 => ?_
        refine W.region ?_
        refine wl_assign rfl rfl ?_
        refine WL.nil ?_
        refine fun a ha => hK28 _ _ ?_ a ha
        refine W.ret ?_
        have hr := Option.some.inj hF
        subst hr
        exact rets (vs := [(.int .i64 (-1))]) hQ rfl ⟨rv_tmp rfl, trivial⟩ ⟨rfl, hB5⟩
theorem C_slices_ContainsFunc_impl_Cue_impl_Cue__impl_areCues_1 (w0 : World) (x0 : (List (Int × (List UInt8)))) (v0_0 : Value) (h0_0 : rdS ty_56 (· < w0.heap.size) w0 v0_0 x0) (y1_0 : (Int × (List UInt8))) (p1_0 : Addr) (hp1_0 : EAt (· < w0.heap.size) w0 p1_0 [(.int .i64 y1_0.1), (.string (mkS y1_0.2))]) (r : Bool) (hF : F_slices_ContainsFunc_impl_Cue_impl_Cue__impl_areCues_1 x0 y1_0 = some r) :
    Calls Try.prog 116 [v0_0, (.func (.func 117) #[] #[(.pointer (some p1_0))])].toArray w0 fun e w' => e = .returned (.bool r) ∧ Below w0.heap.size w0 w' := by
  refine calls_mk' Try.func116 rfl Try.ntmps116 rfl rfl fun Q hQ hP => ?_
  have hB : Below w0.heap.size w0 w0 := Below.refl _ _
  have hS : Sep w0.heap.size w0 [] := Sep.nil _ _
  unfold F_slices_ContainsFunc_impl_Cue_impl_Cue__impl_areCues_1 at hF
  refine W.seq fun K1 hK1 => ?_
  refine W.region ?_
  refine wl_assign rfl rfl ?_
  refine WL.nil ?_
  refine fun a ha => hK1 _ _ ?_ a ha
  refine W.seq fun K2 hK2 => ?_
  refine W.region ?_
  refine wl_move rfl rfl ?_
  refine wl_move rfl rfl ?_
  obtain ⟨u3, hu3, hF⟩ := bindE hF
  refine wl_call rfl Try.call132 (C_slices_IndexFunc_impl_Cue_impl_Cue__impl_areCues_1 w0 x0 v0_0 (h0_0.ro hB) y1_0 p1_0 (hp1_0.ro hB) _ hu3) rfl ?_
  rintro _ w4 ⟨rfl, hb5⟩
  refine ⟨_, rfl, ?_⟩
  have hB6 := hB.trans (hb5.mono hB.size)
  have hS7 := hS.below hb5
  refine wl_geq rfl rfl rfl ?_
  refine wl_assign rfl rfl ?_
  refine WL.nil ?_
  refine fun a ha => hK2 _ _ ?_ a ha
  refine W.ret ?_
  have hr := Option.some.inj hF
  subst hr
  exact rets (vs := [(.bool (decide (0 ≤ u3)))]) hQ rfl ⟨rv_tmp rfl, trivial⟩ ⟨rfl, hB6⟩
theorem C_impl_areCues (w0 : World) (x0 : (List (Int × Int))) (v0_0 : Value) (h0_0 : rdS ty_93 (· < w0.heap.size) w0 v0_0 x0) (x1 : (List (Int × (List UInt8)))) (v1_0 : Value) (h1_0 : rdS ty_56 (· < w0.heap.size) w0 v1_0 x1) (r : Bool) (hF : F_impl_areCues x0 x1 = some r) :
    Calls Try.prog 82 [v0_0, v1_0].toArray w0 fun e w' => e = .returned (.bool r) ∧ Below w0.heap.size w0 w' := by
  refine calls_mk' Try.func82 rfl Try.ntmps82 rfl rfl fun Q hQ hP => ?_
  have hB : Below w0.heap.size w0 w0 := Below.refl _ _
  have hS : Sep w0.heap.size w0 [] := Sep.nil _ _
  unfold F_impl_areCues at hF
  refine W.seq fun K1 hK1 => ?_
  refine W.region ?_
  refine wl_assign rfl rfl ?_
  refine WL.nil ?_
  refine fun a ha => hK1 _ _ ?_ a ha
  refine W.seq fun K2 hK2 => ?_
  refine W.seq fun K3 hK3 => ?_
  refine W.region ?_
  refine wl_move rfl rfl ?_
  refine wl_lenr (e := ty_56) (l := x1) Try.underlying43 rfl rfl h1_0 ?_
  refine wl_gtr rfl rfl rfl ?_
  refine WL.nil ?_
  refine fun a ha => hK3 _ _ ?_ a ha
  refine W.cond rfl (fun h4 => ?_) (fun h4 => ?_)
  · replace hF := ifP h4 hF
    refine W.seq fun K5 hK5 => ?_
    refine W.region ?_
    refine wl_assign rfl rfl ?_
    refine WL.nil ?_
    refine fun a ha => hK5 _ _ ?_ a ha
    refine W.ret ?_
    have hr := Option.some.inj hF
    subst hr
    exact rets (vs := [(.bool false)]) hQ rfl ⟨rv_tmp rfl, trivial⟩ ⟨rfl, hB⟩
  · replace hF := ifN h4 hF
    refine W.skip ?_
    refine fun a ha => hK2 _ _ ?_ a ha
    refine W.seq fun K6 hK6 => ?_
    refine W.region ?_
    refine wl_move rfl rfl ?_
    obtain ⟨u7, hu7, hF⟩ := bindE hF
    refine wl_call rfl Try.call101 (C_impl_countsOf w0 x0 v0_0 (h0_0.ro hB) _ hu7) rfl ?_
    rintro _ w8 ⟨rfl, hb9⟩
    refine ⟨_, rfl, ?_⟩
    have hB10 := hB.trans (hb9.mono hB.size)
    have hS11 := hS.below hb9
    refine wl_assign rfl rfl ?_
    refine WL.nil ?_
    refine fun a ha => hK6 _ _ ?_ a ha
    refine W.seq fun K13 hK13 => ?_
    refine W.seq fun K14 hK14 => ?_
    refine W.region ?_
    refine wl_move rfl rfl ?_
    refine wl_lenr (e := ty_56) (l := x1) Try.underlying43 rfl rfl h1_0 ?_
    refine wl_move rfl rfl ?_
    refine WL.nil ?_
    refine fun a ha => hK14 _ _ ?_ a ha
    refine W.block ?_
    refine W.loopk (fun m a w15 => ∃ (y18 : Int), St 59 [(1, v1_0), (5, (.int .i64 u7)), (13, v1_0), (14, (.int .i64 (List.length x1 : Int))), (15, (.int .i64 y18))] a ∧ Below w0.heap.size w0 w15 ∧ Sep w0.heap.size w15 [] ∧ F_impl_areCues_L1 x1 u7 m y18 = some r) FU ?_ ?_
    ·
      exact fun a ha => ⟨0, ha.sub ⟨rfl, rfl, rfl, rfl, rfl, trivial⟩, hB10, (hS11.sel [] rfl), hF⟩
    ·
      rintro m21 a w15 ⟨y18, ha, hB16, hS17, hF⟩ KL20 hKL20
      refine W.at ?_ ha
      cases m21 with
      | zero => exact noneE hF
      | succ m21 =>
        obtain ⟨nx19, hnx19⟩ : ∃ k, k = F_impl_areCues_L1 x1 u7 m21 := ⟨_, rfl⟩
        rw [F_impl_areCues_L1, ← hnx19] at hF
        refine W.seq fun K22 hK22 => ?_
        refine W.region ?_
        refine wl_lss rfl rfl rfl ?_
        refine WL.nil ?_
        refine fun a ha => hK22 _ _ ?_ a ha
        refine W.seq fun K23 hK23 => ?_
        refine W.cond rfl (fun h24 => ?_) (fun h24 => ?_)
        · replace hF := ifP h24 hF
          refine W.skip ?_
          refine fun a ha => hK23 _ _ ?_ a ha
          refine W.seq fun K25 hK25 => ?_
          refine W.block ?_
          refine W.seq fun K26 hK26 => ?_
          refine W.region ?_
          refine wl_move rfl rfl ?_
          obtain ⟨u27, hu27, hF⟩ := bindE hF
          refine wl_index (e := ty_56) Try.underlying43 rfl rfl rfl h1_0 hu27 ?_
          rintro p28 _ rfl hp29
          refine wl_load_p (vs := [(.int .i64 u27.1), (.string (mkS u27.2))]) (v := (.agg #[(.int .i64 u27.1), (.string (mkS u27.2))])) tf_56 rfl rfl (hp29.ro hB16) rfl rfl ?_
          refine wl_alloc (cs := [(.int .i64 0), (.string (mkS []))]) tf_56 rfl rfl hB16 hS17 ?_
          intro b30 w31 hb32 hB33 hS34
          refine wl_assign rfl rfl ?_
          refine wl_store_blk (i := 0) (vs := [(.int .i64 u27.1), (.string (mkS u27.2))]) (cs' := [(.int .i64 u27.1), (.string (mkS u27.2))]) tf_56 rfl rfl rfl rfl hB33 hS34 rfl rfl ⟨rfl, rfl, trivial⟩ rfl ?_
          intro w35 hk38 hB36 hS37
          refine WL.nil ?_
          refine fun a ha => hK26 _ _ ?_ a ha
          refine W.seq fun K39 hK39 => ?_
          refine W.seq fun K40 hK40 => ?_
          obtain ⟨k45, hk45, hF⟩ := jE1 hF
          have hJ46 : ∀ (y44 : Bool) (w41 : World) (_ : k45 y44 = some r) (_ : Below w0.heap.size w0 w41) (_ : Sep w0.heap.size w41 [R.blk b30 56 [(.int .i64 u27.1), (.string (mkS u27.2))]]), ∀ a, St 59 [(1, v1_0), (5, (.int .i64 u7)), (6, (.int .i64 y18)), (7, (.pointer (some ⟨b30, 0, none⟩))), (13, v1_0), (14, (.int .i64 (List.length x1 : Int))), (15, (.int .i64 y18)), (52, (.bool y44))] a → K40 a w41 := by
            intro y44 w41 hF hB42 hS43
            subst hk45
            refine fun a ha => hK40 _ _ ?_ a ha
            refine W.cond rfl (fun h47 => ?_) (fun h47 => ?_)
            · replace hF := ifP h47 hF
              refine W.seq fun K48 hK48 => ?_
              refine W.region ?_
              refine wl_assign rfl rfl ?_
              refine WL.nil ?_
              refine fun a ha => hK48 _ _ ?_ a ha
              refine W.ret ?_
              have hr := Option.some.inj hF
              subst hr
              exact rets (vs := [(.bool false)]) hQ rfl ⟨rv_tmp rfl, trivial⟩ ⟨rfl, hB42⟩
            · replace hF := ifN h47 hF
              refine W.skip ?_
              refine fun a ha => hK39 _ _ ?_ a ha
              refine W.seq fun K49 hK49 => ?_
              refine W.region ?_
              refine wl_move rfl rfl ?_
              refine wl_move rfl rfl ?_
              obtain ⟨u50, hu50, hF⟩ := bindE hF
              refine wl_slice (e := ty_56) Try.underlying43 rfl rfl h1_0 hu50 (.inl ⟨rfl, rfl⟩) (.inr ⟨_, _, rfl, rfl⟩) ?_
              intro v51 hv52
              refine wl_makeFunc (vs := [(.pointer (some ⟨b30, 0, none⟩))]) rfl rfl ?_
              obtain ⟨u53, hu53, hF⟩ := bindE hF
              refine wl_call rfl Try.call116 (C_slices_ContainsFunc_impl_Cue_impl_Cue__impl_areCues_1 w41 u50 v51 (hv52.ro hB42) u27 ⟨b30, 0, none⟩ (blk_EAt (i := 0) hS43 rfl) _ hu53) rfl ?_
              rintro _ w54 ⟨rfl, hb55⟩
              refine ⟨_, rfl, ?_⟩
              have hB56 := hB42.trans (hb55.mono hB42.size)
              have hS57 := hS43.below hb55
              refine WL.nil ?_
              refine fun a ha => hK49 _ _ ?_ a ha
              refine W.cond rfl (fun h59 => ?_) (fun h59 => ?_)
              · replace hF := ifP h59 hF
                refine W.seq fun K60 hK60 => ?_
                refine W.region ?_
                refine wl_assign rfl rfl ?_
                refine WL.nil ?_
                refine fun a ha => hK60 _ _ ?_ a ha
                refine W.ret ?_
                have hr := Option.some.inj hF
                subst hr
                exact rets (vs := [(.bool false)]) hQ rfl ⟨rv_tmp rfl, trivial⟩ ⟨rfl, hB56⟩
              · replace hF := ifN h59 hF
                refine W.skip ?_
                refine fun a ha => hK25 _ _ ?_ a ha
                refine W.region ?_
                refine wl_add rfl rfl rfl ?_
                refine wl_move rfl rfl ?_
                refine WL.nil ?_
                rw [hnx19] at hF
                exact fun a ha => hKL20 a _ m21 (Nat.lt_succ_self m21) ⟨(w64 (y18 + 1)), ha.sub ⟨rfl, rfl, rfl, rfl, rfl, trivial⟩, hB56, (hS57.sel [] rfl), hF⟩
          refine W.regionH mixed_ [] hB36 hS37 ?_
          intro w61 hb62 hB63 hS64
          have hSW65 := KeepX.refl w61 []
          refine WH.takex (i := 0) rfl (by kernel_rfl) (by kernel_rfl) (by kernel_rfl) hP hSW65 ?_
          refine pr_field (o := 0) (off' := 0) ff_56_0 rfl rfl rfl ?_
          refine WH.takex (i := 1) rfl (by kernel_rfl) (by kernel_rfl) (by kernel_rfl) hP hSW65 ?_
          refine pr_load_blk (i := 0) (vs := [(.int .i64 u27.1)]) (v := (.int .i64 u27.1)) tf_3 rfl rfl hS64 rfl rfl rfl (by simp) ?_
          refine WH.takex (i := 2) rfl (by kernel_rfl) (by kernel_rfl) (by kernel_rfl) hP hSW65 ?_
          refine pr_move rfl rfl ?_
          refine WH.takex (i := 3) rfl (by kernel_rfl) (by kernel_rfl) (by kernel_rfl) hP hSW65 ?_
          refine pr_sub rfl rfl rfl ?_
          refine WH.one (i := 4) (by kernel_rfl) rfl ?_
          obtain ⟨u66, hu66, hF⟩ := bindE hF
          refine wl_call rfl Try.call65 (C_impl_within w61 u27.1 0 (w64 (u7 - 1)) _ hu66) rfl ?_
          rintro _ w67 ⟨rfl, hb68⟩
          refine ⟨_, rfl, ?_⟩
          have hB69 := hB63.trans (hb68.mono hB63.size)
          have hS70 := hS64.below hb68
          have hSW72 := hSW65.ext hb68
          refine WL.nil (WH.ret hSW72 ?_)
          refine WH.takex (i := 5) rfl (by kernel_rfl) (by kernel_rfl) (by kernel_rfl) hP hSW72 ?_
          refine pr_not rfl rfl ?_
          refine WH.takex (i := 6) rfl (by kernel_rfl) (by kernel_rfl) (by kernel_rfl) hP hSW72 ?_
          refine pr_move rfl rfl ?_
          rcases bE (!u66) with h73 | h73
          · replace hF := ifP h73 hF
            refine WH.off (i := 7) rfl (by kernel_rfl) (by kernel_rfl) (by kernel_rfl) hP rfl rfl h73 rfl hSW72 ?_
            refine WH.off (i := 8) rfl (by kernel_rfl) (by kernel_rfl) (by kernel_rfl) hP rfl rfl h73 rfl hSW72 ?_
            refine WH.off (i := 9) rfl (by kernel_rfl) (by kernel_rfl) (by kernel_rfl) hP rfl rfl h73 rfl hSW72 ?_
            refine WH.off (i := 10) rfl (by kernel_rfl) (by kernel_rfl) (by kernel_rfl) hP rfl rfl h73 rfl hSW72 ?_
            refine WH.takex (i := 11) rfl (by kernel_rfl) (by kernel_rfl) (by kernel_rfl) hP hSW72 ?_
            refine pr_pick_t rfl rfl h73 rfl ?_
            refine WH.takex (i := 12) rfl (by kernel_rfl) (by kernel_rfl) (by kernel_rfl) hP hSW72 ?_
            refine pr_move rfl rfl ?_
            refine WH.off (i := 13) rfl (by kernel_rfl) (by kernel_rfl) (by kernel_rfl) hP rfl rfl rfl rfl hSW72 ?_
            refine WH.off (i := 14) rfl (by kernel_rfl) (by kernel_rfl) (by kernel_rfl) hP rfl rfl rfl rfl hSW72 ?_
            refine WH.off (i := 15) rfl (by kernel_rfl) (by kernel_rfl) (by kernel_rfl) hP rfl rfl rfl rfl hSW72 ?_
            refine WH.off (i := 16) rfl (by kernel_rfl) (by kernel_rfl) (by kernel_rfl) hP rfl rfl rfl rfl hSW72 ?_
            refine WH.takex (i := 17) rfl (by kernel_rfl) (by kernel_rfl) (by kernel_rfl) hP hSW72 ?_
            refine pr_pick_t rfl rfl rfl rfl ?_
            refine WH.takex (i := 18) rfl (by kernel_rfl) (by kernel_rfl) (by kernel_rfl) hP hSW72 ?_
            refine pr_move rfl rfl ?_
            refine WH.off (i := 19) rfl (by kernel_rfl) (by kernel_rfl) (by kernel_rfl) hP rfl rfl rfl rfl hSW72 ?_
            refine WH.off (i := 20) rfl (by kernel_rfl) (by kernel_rfl) (by kernel_rfl) hP rfl rfl rfl rfl hSW72 ?_
            refine WH.off (i := 21) rfl (by kernel_rfl) (by kernel_rfl) (by kernel_rfl) hP rfl rfl rfl rfl hSW72 ?_
            refine WH.offu (i := 22) rfl (by kernel_rfl) (by kernel_rfl) (by kernel_rfl) hP rfl rfl rfl hSW72 ?_
            refine WH.offu (i := 23) rfl (by kernel_rfl) (by kernel_rfl) (by kernel_rfl) hP rfl rfl rfl hSW72 ?_
            refine WH.offu (i := 24) rfl (by kernel_rfl) (by kernel_rfl) (by kernel_rfl) hP rfl rfl rfl hSW72 ?_
            refine WH.offu (i := 25) rfl (by kernel_rfl) (by kernel_rfl) (by kernel_rfl) hP rfl rfl rfl hSW72 ?_
            refine WH.offu (i := 26) rfl (by kernel_rfl) (by kernel_rfl) (by kernel_rfl) hP rfl rfl rfl hSW72 ?_
            refine WH.offu (i := 27) rfl (by kernel_rfl) (by kernel_rfl) (by kernel_rfl) hP rfl rfl rfl hSW72 ?_
            refine WH.offu (i := 28) rfl (by kernel_rfl) (by kernel_rfl) (by kernel_rfl) hP rfl rfl rfl hSW72 ?_
            refine WH.offu (i := 29) rfl (by kernel_rfl) (by kernel_rfl) (by kernel_rfl) hP rfl rfl rfl hSW72 ?_
            refine WH.offu (i := 30) rfl (by kernel_rfl) (by kernel_rfl) (by kernel_rfl) hP rfl rfl rfl hSW72 ?_
            refine WH.off (i := 31) rfl (by kernel_rfl) (by kernel_rfl) (by kernel_rfl) hP rfl rfl rfl rfl hSW72 ?_
            refine WH.takex (i := 32) rfl (by kernel_rfl) (by kernel_rfl) (by kernel_rfl) hP hSW72 ?_
            refine pr_pick_t rfl rfl rfl rfl ?_
            refine WH.done (by kernel_rfl) ?_
            exact fun a ha => hJ46 (true) _ hF hB69 (hS70.sel [0] rfl) a (ha.sub ⟨rfl, rfl, rfl, rfl, rfl, rfl, rfl, rfl, trivial⟩)
          · replace hF := ifN h73 hF
            refine WH.takexg (i := 7) rfl (by kernel_rfl) (by kernel_rfl) (by kernel_rfl) hP rfl rfl h73 hSW72 ?_
            refine pr_field (o := 1) (off' := 1) ff_56_1 rfl rfl rfl ?_
            refine WH.takexg (i := 8) rfl (by kernel_rfl) (by kernel_rfl) (by kernel_rfl) hP rfl rfl h73 hSW72 ?_
            refine pr_load_blk (i := 0) (vs := [(.string (mkS u27.2))]) (v := (.string (mkS u27.2))) tf_9 rfl rfl hS64 rfl rfl rfl (by simp) ?_
            refine WH.takexg (i := 9) rfl (by kernel_rfl) (by kernel_rfl) (by kernel_rfl) hP rfl rfl h73 hSW72 ?_
            refine pr_strlen Try.underlying9 rfl rfl ?_
            refine WH.takexg (i := 10) rfl (by kernel_rfl) (by kernel_rfl) (by kernel_rfl) hP rfl rfl h73 hSW72 ?_
            refine pr_gtr rfl rfl rfl ?_
            refine WH.takex (i := 11) rfl (by kernel_rfl) (by kernel_rfl) (by kernel_rfl) hP hSW72 ?_
            refine pr_pick_f rfl rfl h73 rfl ?_
            refine WH.takex (i := 12) rfl (by kernel_rfl) (by kernel_rfl) (by kernel_rfl) hP hSW72 ?_
            refine pr_move rfl rfl ?_
            rcases bE (decide (8 < (List.length u27.2 : Int))) with h74 | h74
            · replace hF := ifP h74 hF
              refine WH.off (i := 13) rfl (by kernel_rfl) (by kernel_rfl) (by kernel_rfl) hP rfl rfl h74 rfl hSW72 ?_
              refine WH.off (i := 14) rfl (by kernel_rfl) (by kernel_rfl) (by kernel_rfl) hP rfl rfl h74 rfl hSW72 ?_
              refine WH.off (i := 15) rfl (by kernel_rfl) (by kernel_rfl) (by kernel_rfl) hP rfl rfl h74 rfl hSW72 ?_
              refine WH.off (i := 16) rfl (by kernel_rfl) (by kernel_rfl) (by kernel_rfl) hP rfl rfl h74 rfl hSW72 ?_
              refine WH.takex (i := 17) rfl (by kernel_rfl) (by kernel_rfl) (by kernel_rfl) hP hSW72 ?_
              refine pr_pick_t rfl rfl h74 rfl ?_
              refine WH.takex (i := 18) rfl (by kernel_rfl) (by kernel_rfl) (by kernel_rfl) hP hSW72 ?_
              refine pr_move rfl rfl ?_
              refine WH.off (i := 19) rfl (by kernel_rfl) (by kernel_rfl) (by kernel_rfl) hP rfl rfl rfl rfl hSW72 ?_
              refine WH.off (i := 20) rfl (by kernel_rfl) (by kernel_rfl) (by kernel_rfl) hP rfl rfl rfl rfl hSW72 ?_
              refine WH.off (i := 21) rfl (by kernel_rfl) (by kernel_rfl) (by kernel_rfl) hP rfl rfl rfl rfl hSW72 ?_
              refine WH.offu (i := 22) rfl (by kernel_rfl) (by kernel_rfl) (by kernel_rfl) hP rfl rfl rfl hSW72 ?_
              refine WH.offu (i := 23) rfl (by kernel_rfl) (by kernel_rfl) (by kernel_rfl) hP rfl rfl rfl hSW72 ?_
              refine WH.offu (i := 24) rfl (by kernel_rfl) (by kernel_rfl) (by kernel_rfl) hP rfl rfl rfl hSW72 ?_
              refine WH.offu (i := 25) rfl (by kernel_rfl) (by kernel_rfl) (by kernel_rfl) hP rfl rfl rfl hSW72 ?_
              refine WH.offu (i := 26) rfl (by kernel_rfl) (by kernel_rfl) (by kernel_rfl) hP rfl rfl rfl hSW72 ?_
              refine WH.offu (i := 27) rfl (by kernel_rfl) (by kernel_rfl) (by kernel_rfl) hP rfl rfl rfl hSW72 ?_
              refine WH.offu (i := 28) rfl (by kernel_rfl) (by kernel_rfl) (by kernel_rfl) hP rfl rfl rfl hSW72 ?_
              refine WH.offu (i := 29) rfl (by kernel_rfl) (by kernel_rfl) (by kernel_rfl) hP rfl rfl rfl hSW72 ?_
              refine WH.offu (i := 30) rfl (by kernel_rfl) (by kernel_rfl) (by kernel_rfl) hP rfl rfl rfl hSW72 ?_
              refine WH.off (i := 31) rfl (by kernel_rfl) (by kernel_rfl) (by kernel_rfl) hP rfl rfl rfl rfl hSW72 ?_
              refine WH.takex (i := 32) rfl (by kernel_rfl) (by kernel_rfl) (by kernel_rfl) hP hSW72 ?_
              refine pr_pick_t rfl rfl rfl rfl ?_
              refine WH.done (by kernel_rfl) ?_
              exact fun a ha => hJ46 (true) _ hF hB69 (hS70.sel [0] rfl) a (ha.sub ⟨rfl, rfl, rfl, rfl, rfl, rfl, rfl, rfl, trivial⟩)
            · replace hF := ifN h74 hF
              refine WH.takexg (i := 13) rfl (by kernel_rfl) (by kernel_rfl) (by kernel_rfl) hP rfl rfl h74 hSW72 ?_
              refine pr_field (o := 1) (off' := 1) ff_56_1 rfl rfl rfl ?_
              refine WH.takexg (i := 14) rfl (by kernel_rfl) (by kernel_rfl) (by kernel_rfl) hP rfl rfl h74 hSW72 ?_
              refine pr_load_blk (i := 0) (vs := [(.string (mkS u27.2))]) (v := (.string (mkS u27.2))) tf_9 rfl rfl hS64 rfl rfl rfl (by simp) ?_
              refine WH.one (i := 15) (by kernel_rfl) rfl ?_
              refine wl_on rfl rfl h74 ?_
              obtain ⟨u75, hu75, hF⟩ := bindE hF
              refine wl_call rfl Try.call115 (C_impl_isName w67 u27.2 _ hu75) rfl ?_
              rintro _ w76 ⟨rfl, hb77⟩
              refine ⟨_, rfl, ?_⟩
              have hB78 := hB69.trans (hb77.mono hB69.size)
              have hS79 := hS70.below hb77
              have hSW81 := hSW72.ext hb77
              refine WL.nil (WH.ret hSW81 ?_)
              refine WH.takexg (i := 16) rfl (by kernel_rfl) (by kernel_rfl) (by kernel_rfl) hP rfl rfl h74 hSW81 ?_
              refine pr_not rfl rfl ?_
              refine WH.takex (i := 17) rfl (by kernel_rfl) (by kernel_rfl) (by kernel_rfl) hP hSW81 ?_
              refine pr_pick_f rfl rfl h74 rfl ?_
              refine WH.takex (i := 18) rfl (by kernel_rfl) (by kernel_rfl) (by kernel_rfl) hP hSW81 ?_
              refine pr_move rfl rfl ?_
              rcases bE (!u75) with h82 | h82
              · replace hF := ifP h82 hF
                refine WH.off (i := 19) rfl (by kernel_rfl) (by kernel_rfl) (by kernel_rfl) hP rfl rfl h82 rfl hSW81 ?_
                refine WH.off (i := 20) rfl (by kernel_rfl) (by kernel_rfl) (by kernel_rfl) hP rfl rfl h82 rfl hSW81 ?_
                refine WH.off (i := 21) rfl (by kernel_rfl) (by kernel_rfl) (by kernel_rfl) hP rfl rfl h82 rfl hSW81 ?_
                refine WH.offu (i := 22) rfl (by kernel_rfl) (by kernel_rfl) (by kernel_rfl) hP rfl rfl rfl hSW81 ?_
                refine WH.offu (i := 23) rfl (by kernel_rfl) (by kernel_rfl) (by kernel_rfl) hP rfl rfl rfl hSW81 ?_
                refine WH.offu (i := 24) rfl (by kernel_rfl) (by kernel_rfl) (by kernel_rfl) hP rfl rfl rfl hSW81 ?_
                refine WH.offu (i := 25) rfl (by kernel_rfl) (by kernel_rfl) (by kernel_rfl) hP rfl rfl rfl hSW81 ?_
                refine WH.offu (i := 26) rfl (by kernel_rfl) (by kernel_rfl) (by kernel_rfl) hP rfl rfl rfl hSW81 ?_
                refine WH.offu (i := 27) rfl (by kernel_rfl) (by kernel_rfl) (by kernel_rfl) hP rfl rfl rfl hSW81 ?_
                refine WH.offu (i := 28) rfl (by kernel_rfl) (by kernel_rfl) (by kernel_rfl) hP rfl rfl rfl hSW81 ?_
                refine WH.offu (i := 29) rfl (by kernel_rfl) (by kernel_rfl) (by kernel_rfl) hP rfl rfl rfl hSW81 ?_
                refine WH.offu (i := 30) rfl (by kernel_rfl) (by kernel_rfl) (by kernel_rfl) hP rfl rfl rfl hSW81 ?_
                refine WH.off (i := 31) rfl (by kernel_rfl) (by kernel_rfl) (by kernel_rfl) hP rfl rfl h82 rfl hSW81 ?_
                refine WH.takex (i := 32) rfl (by kernel_rfl) (by kernel_rfl) (by kernel_rfl) hP hSW81 ?_
                refine pr_pick_t rfl rfl h82 rfl ?_
                refine WH.done (by kernel_rfl) ?_
                exact fun a ha => hJ46 (true) _ hF hB78 (hS79.sel [0] rfl) a (ha.sub ⟨rfl, rfl, rfl, rfl, rfl, rfl, rfl, rfl, trivial⟩)
              · replace hF := ifN h82 hF
                refine WH.takexg (i := 19) rfl (by kernel_rfl) (by kernel_rfl) (by kernel_rfl) hP rfl rfl h82 hSW81 ?_
                refine pr_move rfl rfl ?_
                refine WH.takexg (i := 20) rfl (by kernel_rfl) (by kernel_rfl) (by kernel_rfl) hP rfl rfl h82 hSW81 ?_
                refine pr_gtr rfl rfl rfl ?_
                refine WH.takexg (i := 21) rfl (by kernel_rfl) (by kernel_rfl) (by kernel_rfl) hP rfl rfl h82 hSW81 ?_
                refine pr_move rfl rfl ?_
                rcases bE (decide (0 < y18)) with h83 | h83
                · replace hF := ifP h83 hF
                  refine WH.takexg (i := 22) rfl (by kernel_rfl) (by kernel_rfl) (by kernel_rfl) hP rfl rfl h83 hSW81 ?_
                  refine pr_move rfl rfl ?_
                  refine WH.takexg (i := 23) rfl (by kernel_rfl) (by kernel_rfl) (by kernel_rfl) hP rfl rfl h83 hSW81 ?_
                  refine pr_move rfl rfl ?_
                  refine WH.takexg (i := 24) rfl (by kernel_rfl) (by kernel_rfl) (by kernel_rfl) hP rfl rfl h83 hSW81 ?_
                  refine pr_sub rfl rfl rfl ?_
                  obtain ⟨u84, hu84, hF⟩ := bindE hF
                  refine WH.takexg (i := 25) rfl (by kernel_rfl) (by kernel_rfl) (by kernel_rfl) hP rfl rfl h83 hSW81 ?_
                  refine pr_index (e := ty_56) Try.underlying43 rfl rfl rfl h1_0 hu84 ?_
                  rintro p85 _ rfl hp86
                  refine WH.takexg (i := 26) rfl (by kernel_rfl) (by kernel_rfl) (by kernel_rfl) hP rfl rfl h83 hSW81 ?_
                  refine pr_fieldp (o := 0) ff_56_0 rfl rfl ?_
                  refine WH.takexg (i := 27) rfl (by kernel_rfl) (by kernel_rfl) (by kernel_rfl) hP rfl rfl h83 hSW81 ?_
                  refine pr_load_p (vs := [(.int .i64 u84.1)]) (v := (.int .i64 u84.1)) tf_3 rfl rfl (EAt.addk (hp86.kx hB63 (by simp)) 0) rfl rfl ?_
                  refine WH.takexg (i := 28) rfl (by kernel_rfl) (by kernel_rfl) (by kernel_rfl) hP rfl rfl h83 hSW81 ?_
                  refine pr_field (o := 0) (off' := 0) ff_56_0 rfl rfl rfl ?_
                  refine WH.takexg (i := 29) rfl (by kernel_rfl) (by kernel_rfl) (by kernel_rfl) hP rfl rfl h83 hSW81 ?_
                  refine pr_load_blk (i := 0) (vs := [(.int .i64 u27.1)]) (v := (.int .i64 u27.1)) tf_3 rfl rfl hS64 rfl rfl rfl (by simp) ?_
                  refine WH.takexg (i := 30) rfl (by kernel_rfl) (by kernel_rfl) (by kernel_rfl) hP rfl rfl h83 hSW81 ?_
                  refine pr_geq rfl rfl rfl ?_
                  refine WH.takexg (i := 31) rfl (by kernel_rfl) (by kernel_rfl) (by kernel_rfl) hP rfl rfl h82 hSW81 ?_
                  refine pr_pick_t rfl rfl h83 rfl ?_
                  refine WH.takex (i := 32) rfl (by kernel_rfl) (by kernel_rfl) (by kernel_rfl) hP hSW81 ?_
                  refine pr_pick_f rfl rfl h82 rfl ?_
                  refine WH.done (by kernel_rfl) ?_
                  exact fun a ha => hJ46 ((decide (u27.1 ≤ u84.1))) _ hF hB78 (hS79.sel [0] rfl) a (ha.sub ⟨rfl, rfl, rfl, rfl, rfl, rfl, rfl, rfl, trivial⟩)
                · replace hF := ifN h83 hF
                  refine WH.off (i := 22) rfl (by kernel_rfl) (by kernel_rfl) (by kernel_rfl) hP rfl rfl h83 rfl hSW81 ?_
                  refine WH.off (i := 23) rfl (by kernel_rfl) (by kernel_rfl) (by kernel_rfl) hP rfl rfl h83 rfl hSW81 ?_
                  refine WH.off (i := 24) rfl (by kernel_rfl) (by kernel_rfl) (by kernel_rfl) hP rfl rfl h83 rfl hSW81 ?_
                  refine WH.off (i := 25) rfl (by kernel_rfl) (by kernel_rfl) (by kernel_rfl) hP rfl rfl h83 rfl hSW81 ?_
                  refine WH.off (i := 26) rfl (by kernel_rfl) (by kernel_rfl) (by kernel_rfl) hP rfl rfl h83 rfl hSW81 ?_
                  refine WH.off (i := 27) rfl (by kernel_rfl) (by kernel_rfl) (by kernel_rfl) hP rfl rfl h83 rfl hSW81 ?_
                  refine WH.off (i := 28) rfl (by kernel_rfl) (by kernel_rfl) (by kernel_rfl) hP rfl rfl h83 rfl hSW81 ?_
                  refine WH.off (i := 29) rfl (by kernel_rfl) (by kernel_rfl) (by kernel_rfl) hP rfl rfl h83 rfl hSW81 ?_
                  refine WH.off (i := 30) rfl (by kernel_rfl) (by kernel_rfl) (by kernel_rfl) hP rfl rfl h83 rfl hSW81 ?_
                  refine WH.takexg (i := 31) rfl (by kernel_rfl) (by kernel_rfl) (by kernel_rfl) hP rfl rfl h82 hSW81 ?_
                  refine pr_pick_f rfl rfl h83 rfl ?_
                  refine WH.takex (i := 32) rfl (by kernel_rfl) (by kernel_rfl) (by kernel_rfl) hP hSW81 ?_
                  refine pr_pick_f rfl rfl h82 rfl ?_
                  refine WH.done (by kernel_rfl) ?_
                  exact fun a ha => hJ46 (false) _ hF hB78 (hS79.sel [0] rfl) a (ha.sub ⟨rfl, rfl, rfl, rfl, rfl, rfl, rfl, rfl, trivial⟩)
        · replace hF := ifN h24 hF
          refine W.exit ?_
          refine fun a ha => hK13 _ _ ?_ a ha
          refine W.seq fun K87 hK87 => ?_
          refine W.region ?_
          refine wl_assign rfl rfl ?_
          refine WL.nil ?_
          refine fun a ha => hK87 _ _ ?_ a ha
          refine W.ret ?_
          have hr := Option.some.inj hF
          subst hr
          exact rets (vs := [(.bool true)]) hQ rfl ⟨rv_tmp rfl, trivial⟩ ⟨rfl, hB16⟩
theorem C_impl_haveCues (w0 : World) (x0 : (List (Int × Int))) (v0_0 : Value) (h0_0 : rdS ty_93 (· < w0.heap.size) w0 v0_0 x0) (x1 : (List (Int × (List UInt8)))) (v1_0 : Value) (h1_0 : rdS ty_56 (· < w0.heap.size) w0 v1_0 x1) (r : Bool) (hF : F_impl_haveCues x0 x1 = some r) :
    Calls Try.prog 75 [v0_0, v1_0].toArray w0 fun e w' => e = .returned (.bool r) ∧ Below w0.heap.size w0 w' := by
  refine calls_mk' Try.func75 rfl Try.ntmps75 rfl rfl fun Q hQ hP => ?_
  have hB : Below w0.heap.size w0 w0 := Below.refl _ _
  have hS : Sep w0.heap.size w0 [] := Sep.nil _ _
  unfold F_impl_haveCues at hF
  refine W.seq fun K1 hK1 => ?_
  refine W.region ?_
  refine wl_assign rfl rfl ?_
  refine WL.nil ?_
  refine fun a ha => hK1 _ _ ?_ a ha
  refine W.seq fun K2 hK2 => ?_
  obtain ⟨k7, hk7, hF⟩ := jE1 hF
  have hJ8 : ∀ (y6 : Bool) (w3 : World) (_ : k7 y6 = some r) (_ : Below w0.heap.size w0 w3) (_ : Sep w0.heap.size w3 []), ∀ a, St 12 [(4, (.bool y6))] a → K2 a w3 := by
    intro y6 w3 hF hB4 hS5
    subst hk7
    refine fun a ha => hK2 _ _ ?_ a ha
    refine W.ret ?_
    have hr := Option.some.inj hF
    subst hr
    exact rets (vs := [(.bool y6)]) hQ rfl ⟨rv_tmp rfl, trivial⟩ ⟨rfl, hB4⟩
  refine W.region ?_
  refine wl_move rfl rfl ?_
  obtain ⟨u9, hu9, hF⟩ := bindE hF
  refine wl_call rfl Try.call113 (C_impl_IsMusic w0 x0 v0_0 (h0_0.ro hB) _ hu9) rfl ?_
  rintro _ w10 ⟨rfl, hb11⟩
  refine ⟨_, rfl, ?_⟩
  have hB12 := hB.trans (hb11.mono hB.size)
  have hS13 := hS.below hb11
  refine wl_move rfl rfl ?_
  rcases bE u9 with h15 | h15
  · replace hF := ifP h15 hF
    refine wl_on rfl rfl h15 ?_
    refine wl_move rfl rfl ?_
    refine wl_on rfl rfl h15 ?_
    refine wl_move rfl rfl ?_
    refine wl_on rfl rfl h15 ?_
    obtain ⟨u16, hu16, hF⟩ := bindE hF
    refine wl_call rfl Try.call82 (C_impl_areCues w10 x0 v0_0 (h0_0.ro hB12) x1 v1_0 (h1_0.ro hB12) _ hu16) rfl ?_
    rintro _ w17 ⟨rfl, hb18⟩
    refine ⟨_, rfl, ?_⟩
    have hB19 := hB12.trans (hb18.mono hB12.size)
    have hS20 := hS13.below hb18
    refine wl_pick_t rfl rfl h15 rfl ?_
    refine wl_assign rfl rfl ?_
    refine WL.nil ?_
    exact fun a ha => hJ8 (u16) _ hF hB19 (hS20.sel [] rfl) a (ha.sub ⟨rfl, trivial⟩)
  · replace hF := ifN h15 hF
    refine wl_off rfl rfl rfl h15 ?_
    refine wl_off rfl rfl rfl h15 ?_
    refine wl_off rfl rfl rfl h15 ?_
    refine wl_pick_f rfl rfl h15 rfl ?_
    refine wl_assign rfl rfl ?_
    refine WL.nil ?_
    exact fun a ha => hJ8 (false) _ hF hB12 (hS13.sel [] rfl) a (ha.sub ⟨rfl, trivial⟩)
theorem C_laws_eqMeasure (w0 : World) (x0 : (Int × Int)) (x1 : (Int × Int)) (r : Bool) (hF : F_laws_eqMeasure x0 x1 = some r) :
    Calls Try.prog 78 [(.agg #[(.int .i64 x0.1), (.int .i64 x0.2)]), (.agg #[(.int .i64 x1.1), (.int .i64 x1.2)])].toArray w0 fun e w' => e = .returned (.bool r) ∧ Below w0.heap.size w0 w' := by
  refine calls_mk' Try.func78 rfl Try.ntmps78 rfl rfl fun Q hQ hP => ?_
  have hB : Below w0.heap.size w0 w0 := Below.refl _ _
  have hS : Sep w0.heap.size w0 [] := Sep.nil _ _
  unfold F_laws_eqMeasure at hF
  refine W.seq fun K1 hK1 => ?_
  refine W.region ?_
  refine wl_box (cs := [(.int .i64 x0.1), (.int .i64 x0.2)]) rfl rfl rfl hB hS ?_
  intro b2 w3 hb4 hB5 hS6
  refine wl_box (cs := [(.int .i64 x1.1), (.int .i64 x1.2)]) rfl rfl rfl hB5 hS6 ?_
  intro b7 w8 hb9 hB10 hS11
  refine wl_assign rfl rfl ?_
  refine WL.nil ?_
  refine fun a ha => hK1 _ _ ?_ a ha
  refine W.seq fun K12 hK12 => ?_
  refine W.seq fun K13 hK13 => ?_
  refine W.region ?_
  refine wl_field (o := 0) (off' := 0) ff_93_0 rfl rfl rfl ?_
  refine wl_load_blk (i := 1) (vs := [(.int .i64 x0.1)]) (v := (.int .i64 x0.1)) tf_3 rfl rfl hS11 rfl rfl rfl ?_
  refine wl_field (o := 0) (off' := 0) ff_93_0 rfl rfl rfl ?_
  refine wl_load_blk (i := 0) (vs := [(.int .i64 x1.1)]) (v := (.int .i64 x1.1)) tf_3 rfl rfl hS11 rfl rfl rfl ?_
  refine wl_neq rfl rfl rfl ?_
  refine WL.nil ?_
  refine fun a ha => hK13 _ _ ?_ a ha
  refine W.cond rfl (fun h14 => ?_) (fun h14 => ?_)
  · replace hF := ifP h14 hF
    refine W.seq fun K15 hK15 => ?_
    refine W.region ?_
    refine wl_assign rfl rfl ?_
    refine WL.nil ?_
    refine fun a ha => hK15 _ _ ?_ a ha
    refine W.ret ?_
    have hr := Option.some.inj hF
    subst hr
    exact rets (vs := [(.bool false)]) hQ rfl ⟨rv_tmp rfl, trivial⟩ ⟨rfl, hB10⟩
  · replace hF := ifN h14 hF
    refine W.skip ?_
    refine fun a ha => hK12 _ _ ?_ a ha
    refine W.seq fun K16 hK16 => ?_
    refine W.seq fun K17 hK17 => ?_
    refine W.region ?_
    refine wl_field (o := 1) (off' := 1) ff_93_1 rfl rfl rfl ?_
    refine wl_load_blk (i := 1) (vs := [(.int .i64 x0.2)]) (v := (.int .i64 x0.2)) tf_3 rfl rfl hS11 rfl rfl rfl ?_
    refine wl_field (o := 1) (off' := 1) ff_93_1 rfl rfl rfl ?_
    refine wl_load_blk (i := 0) (vs := [(.int .i64 x1.2)]) (v := (.int .i64 x1.2)) tf_3 rfl rfl hS11 rfl rfl rfl ?_
    refine wl_neq rfl rfl rfl ?_
    refine WL.nil ?_
    refine fun a ha => hK17 _ _ ?_ a ha
    refine W.cond rfl (fun h18 => ?_) (fun h18 => ?_)
    · replace hF := ifP h18 hF
      refine W.seq fun K19 hK19 => ?_
      refine W.region ?_
      refine wl_assign rfl rfl ?_
      refine WL.nil ?_
      refine fun a ha => hK19 _ _ ?_ a ha
      refine W.ret ?_
      have hr := Option.some.inj hF
      subst hr
      exact rets (vs := [(.bool false)]) hQ rfl ⟨rv_tmp rfl, trivial⟩ ⟨rfl, hB10⟩
    · replace hF := ifN h18 hF
      refine W.skip ?_
      refine fun a ha => hK16 _ _ ?_ a ha
      refine W.seq fun K20 hK20 => ?_
      refine W.region ?_
      refine wl_assign rfl rfl ?_
      refine WL.nil ?_
      refine fun a ha => hK20 _ _ ?_ a ha
      refine W.ret ?_
      have hr := Option.some.inj hF
      subst hr
      exact rets (vs := [(.bool true)]) hQ rfl ⟨rv_tmp rfl, trivial⟩ ⟨rfl, hB10⟩
theorem C_laws_eqMeasureS (w0 : World) (x0 : (List (Int × Int))) (v0_0 : Value) (h0_0 : rdS ty_93 (· < w0.heap.size) w0 v0_0 x0) (x1 : (List (Int × Int))) (v1_0 : Value) (h1_0 : rdS ty_93 (· < w0.heap.size) w0 v1_0 x1) (r : Bool) (hF : F_laws_eqMeasureS x0 x1 = some r) :
    Calls Try.prog 28 [v0_0, v1_0].toArray w0 fun e w' => e = .returned (.bool r) ∧ Below w0.heap.size w0 w' := by
  refine calls_mk' Try.func28 rfl Try.ntmps28 rfl rfl fun Q hQ hP => ?_
  have hB : Below w0.heap.size w0 w0 := Below.refl _ _
  have hS : Sep w0.heap.size w0 [] := Sep.nil _ _
  unfold F_laws_eqMeasureS at hF
  refine W.seq fun K1 hK1 => ?_
  refine W.region ?_
  refine wl_assign rfl rfl ?_
  refine WL.nil ?_
  refine fun a ha => hK1 _ _ ?_ a ha
  refine W.seq fun K2 hK2 => ?_
  refine W.seq fun K3 hK3 => ?_
  refine W.region ?_
  refine wl_move rfl rfl ?_
  refine wl_lenr (e := ty_93) (l := x0) Try.underlying41 rfl rfl h0_0 ?_
  refine wl_move rfl rfl ?_
  refine wl_lenr (e := ty_93) (l := x1) Try.underlying41 rfl rfl h1_0 ?_
  refine wl_neq rfl rfl rfl ?_
  refine WL.nil ?_
  refine fun a ha => hK3 _ _ ?_ a ha
  refine W.cond rfl (fun h4 => ?_) (fun h4 => ?_)
  · replace hF := ifP h4 hF
    refine W.seq fun K5 hK5 => ?_
    refine W.region ?_
    refine wl_assign rfl rfl ?_
    refine WL.nil ?_
    refine fun a ha => hK5 _ _ ?_ a ha
    refine W.ret ?_
    have hr := Option.some.inj hF
    subst hr
    exact rets (vs := [(.bool false)]) hQ rfl ⟨rv_tmp rfl, trivial⟩ ⟨rfl, hB⟩
  · replace hF := ifN h4 hF
    refine W.skip ?_
    refine fun a ha => hK2 _ _ ?_ a ha
    refine W.seq fun K6 hK6 => ?_
    refine W.seq fun K7 hK7 => ?_
    refine W.region ?_
    refine wl_assign rfl rfl ?_
    refine WL.nil ?_
    refine fun a ha => hK7 _ _ ?_ a ha
    refine W.block ?_
    refine W.loopk (fun m a w8 => ∃ (y11 : Int), St 27 [(0, v0_0), (1, v1_0), (5, (.int .i64 y11))] a ∧ Below w0.heap.size w0 w8 ∧ Sep w0.heap.size w8 [] ∧ F_laws_eqMeasureS_L1 x0 x1 m y11 = some r) FU ?_ ?_
    ·
      exact fun a ha => ⟨0, ha.sub ⟨rfl, rfl, rfl, trivial⟩, hB, (hS.sel [] rfl), hF⟩
    ·
      rintro m14 a w8 ⟨y11, ha, hB9, hS10, hF⟩ KL13 hKL13
      refine W.at ?_ ha
      cases m14 with
      | zero => exact noneE hF
      | succ m14 =>
        obtain ⟨nx12, hnx12⟩ : ∃ k, k = F_laws_eqMeasureS_L1 x0 x1 m14 := ⟨_, rfl⟩
        rw [F_laws_eqMeasureS_L1, ← hnx12] at hF
        refine W.seq fun K15 hK15 => ?_
        refine W.seq fun K16 hK16 => ?_
        refine W.region ?_
        refine wl_move rfl rfl ?_
        refine wl_move rfl rfl ?_
        refine wl_lenr (e := ty_93) (l := x0) Try.underlying41 rfl rfl h0_0 ?_
        refine wl_lss rfl rfl rfl ?_
        refine WL.nil ?_
        refine fun a ha => hK16 _ _ ?_ a ha
        refine W.cond rfl (fun h17 => ?_) (fun h17 => ?_)
        · replace hF := ifP h17 hF
          refine W.skip ?_
          refine fun a ha => hK15 _ _ ?_ a ha
          refine W.seq fun K18 hK18 => ?_
          refine W.block ?_
          refine W.seq fun K19 hK19 => ?_
          refine W.regionH mixed_ [] hB9 hS10 ?_
          intro w20 hb21 hB22 hS23
          have hSW24 := KeepX.refl w20 []
          refine WH.takex (i := 0) rfl (by kernel_rfl) (by kernel_rfl) (by kernel_rfl) hP hSW24 ?_
          refine pr_move rfl rfl ?_
          refine WH.takex (i := 1) rfl (by kernel_rfl) (by kernel_rfl) (by kernel_rfl) hP hSW24 ?_
          refine pr_move rfl rfl ?_
          obtain ⟨u25, hu25, hF⟩ := bindE hF
          refine WH.takex (i := 2) rfl (by kernel_rfl) (by kernel_rfl) (by kernel_rfl) hP hSW24 ?_
          refine pr_index (e := ty_93) Try.underlying41 rfl rfl rfl h0_0 hu25 ?_
          rintro p26 _ rfl hp27
          refine WH.takex (i := 3) rfl (by kernel_rfl) (by kernel_rfl) (by kernel_rfl) hP hSW24 ?_
          refine pr_load_p (vs := [(.int .i64 u25.1), (.int .i64 u25.2)]) (v := (.agg #[(.int .i64 u25.1), (.int .i64 u25.2)])) tf_93 rfl rfl (hp27.kx hB22 (by simp)) rfl rfl ?_
          refine WH.takex (i := 4) rfl (by kernel_rfl) (by kernel_rfl) (by kernel_rfl) hP hSW24 ?_
          refine pr_move rfl rfl ?_
          refine WH.takex (i := 5) rfl (by kernel_rfl) (by kernel_rfl) (by kernel_rfl) hP hSW24 ?_
          refine pr_move rfl rfl ?_
          obtain ⟨u28, hu28, hF⟩ := bindE hF
          refine WH.takex (i := 6) rfl (by kernel_rfl) (by kernel_rfl) (by kernel_rfl) hP hSW24 ?_
          refine pr_index (e := ty_93) Try.underlying41 rfl rfl rfl h1_0 hu28 ?_
          rintro p29 _ rfl hp30
          refine WH.takex (i := 7) rfl (by kernel_rfl) (by kernel_rfl) (by kernel_rfl) hP hSW24 ?_
          refine pr_load_p (vs := [(.int .i64 u28.1), (.int .i64 u28.2)]) (v := (.agg #[(.int .i64 u28.1), (.int .i64 u28.2)])) tf_93 rfl rfl (hp30.kx hB22 (by simp)) rfl rfl ?_
          refine WH.one (i := 8) (by kernel_rfl) rfl ?_
          obtain ⟨u31, hu31, hF⟩ := bindE hF
          refine wl_call rfl Try.call78 (C_laws_eqMeasure w20 u25 u28 _ hu31) rfl ?_
          rintro _ w32 ⟨rfl, hb33⟩
          refine ⟨_, rfl, ?_⟩
          have hB34 := hB22.trans (hb33.mono hB22.size)
          have hS35 := hS23.below hb33
          have hSW37 := hSW24.ext hb33
          refine WL.nil (WH.ret hSW37 ?_)
          refine WH.takex (i := 9) rfl (by kernel_rfl) (by kernel_rfl) (by kernel_rfl) hP hSW37 ?_
          refine pr_not rfl rfl ?_
          refine WH.done (by kernel_rfl) ?_
          refine fun a ha => hK19 _ _ ?_ a ha
          refine W.cond rfl (fun h38 => ?_) (fun h38 => ?_)
          · replace hF := ifP h38 hF
            refine W.seq fun K39 hK39 => ?_
            refine W.region ?_
            refine wl_assign rfl rfl ?_
            refine WL.nil ?_
            refine fun a ha => hK39 _ _ ?_ a ha
            refine W.ret ?_
            have hr := Option.some.inj hF
            subst hr
            exact rets (vs := [(.bool false)]) hQ rfl ⟨rv_tmp rfl, trivial⟩ ⟨rfl, hB34⟩
          · replace hF := ifN h38 hF
            refine W.skip ?_
            refine fun a ha => hK18 _ _ ?_ a ha
            refine W.region ?_
            refine wl_move rfl rfl ?_
            refine wl_add rfl rfl rfl ?_
            refine wl_assign rfl rfl ?_
            refine WL.nil ?_
            rw [hnx12] at hF
            exact fun a ha => hKL13 a _ m14 (Nat.lt_succ_self m14) ⟨(w64 (y11 + 1)), ha.sub ⟨rfl, rfl, rfl, trivial⟩, hB34, (hS35.sel [] rfl), hF⟩
        · replace hF := ifN h17 hF
          refine W.exit ?_
          refine fun a ha => hK6 _ _ ?_ a ha
          refine W.seq fun K40 hK40 => ?_
          refine W.region ?_
          refine wl_assign rfl rfl ?_
          refine WL.nil ?_
          refine fun a ha => hK40 _ _ ?_ a ha
          refine W.ret ?_
          have hr := Option.some.inj hF
          subst hr
          exact rets (vs := [(.bool true)]) hQ rfl ⟨rv_tmp rfl, trivial⟩ ⟨rfl, hB9⟩
theorem C_laws_eqCue (w0 : World) (x0 : (Int × (List UInt8))) (x1 : (Int × (List UInt8))) (r : Bool) (hF : F_laws_eqCue x0 x1 = some r) :
    Calls Try.prog 79 [(.agg #[(.int .i64 x0.1), (.string (mkS x0.2))]), (.agg #[(.int .i64 x1.1), (.string (mkS x1.2))])].toArray w0 fun e w' => e = .returned (.bool r) ∧ Below w0.heap.size w0 w' := by
  refine calls_mk' Try.func79 rfl Try.ntmps79 rfl rfl fun Q hQ hP => ?_
  have hB : Below w0.heap.size w0 w0 := Below.refl _ _
  have hS : Sep w0.heap.size w0 [] := Sep.nil _ _
  unfold F_laws_eqCue at hF
  refine W.seq fun K1 hK1 => ?_
  refine W.region ?_
  refine wl_box (cs := [(.int .i64 x0.1), (.string (mkS x0.2))]) rfl rfl rfl hB hS ?_
  intro b2 w3 hb4 hB5 hS6
  refine wl_box (cs := [(.int .i64 x1.1), (.string (mkS x1.2))]) rfl rfl rfl hB5 hS6 ?_
  intro b7 w8 hb9 hB10 hS11
  refine wl_assign rfl rfl ?_
  refine WL.nil ?_
  refine fun a ha => hK1 _ _ ?_ a ha
  refine W.seq fun K12 hK12 => ?_
  refine W.seq fun K13 hK13 => ?_
  refine W.region ?_
  refine wl_field (o := 0) (off' := 0) ff_56_0 rfl rfl rfl ?_
  refine wl_load_blk (i := 1) (vs := [(.int .i64 x0.1)]) (v := (.int .i64 x0.1)) tf_3 rfl rfl hS11 rfl rfl rfl ?_
  refine wl_field (o := 0) (off' := 0) ff_56_0 rfl rfl rfl ?_
  refine wl_load_blk (i := 0) (vs := [(.int .i64 x1.1)]) (v := (.int .i64 x1.1)) tf_3 rfl rfl hS11 rfl rfl rfl ?_
  refine wl_neq rfl rfl rfl ?_
  refine WL.nil ?_
  refine fun a ha => hK13 _ _ ?_ a ha
  refine W.cond rfl (fun h14 => ?_) (fun h14 => ?_)
  · replace hF := ifP h14 hF
    refine W.seq fun K15 hK15 => ?_
    refine W.region ?_
    refine wl_assign rfl rfl ?_
    refine WL.nil ?_
    refine fun a ha => hK15 _ _ ?_ a ha
    refine W.ret ?_
    have hr := Option.some.inj hF
    subst hr
    exact rets (vs := [(.bool false)]) hQ rfl ⟨rv_tmp rfl, trivial⟩ ⟨rfl, hB10⟩
  · replace hF := ifN h14 hF
    refine W.skip ?_
    refine fun a ha => hK12 _ _ ?_ a ha
    refine W.seq fun K16 hK16 => ?_
    refine W.seq fun K17 hK17 => ?_
    refine W.region ?_
    refine wl_field (o := 1) (off' := 1) ff_56_1 rfl rfl rfl ?_
    refine wl_load_blk (i := 1) (vs := [(.string (mkS x0.2))]) (v := (.string (mkS x0.2))) tf_9 rfl rfl hS11 rfl rfl rfl ?_
    refine wl_field (o := 1) (off' := 1) ff_56_1 rfl rfl rfl ?_
    refine wl_load_blk (i := 0) (vs := [(.string (mkS x1.2))]) (v := (.string (mkS x1.2))) tf_9 rfl rfl hS11 rfl rfl rfl ?_
    refine wl_strneq rfl rfl rfl ?_
    refine WL.nil ?_
    refine fun a ha => hK17 _ _ ?_ a ha
    refine W.cond rfl (fun h18 => ?_) (fun h18 => ?_)
    · replace hF := ifP h18 hF
      refine W.seq fun K19 hK19 => ?_
      refine W.region ?_
      refine wl_assign rfl rfl ?_
      refine WL.nil ?_
      refine fun a ha => hK19 _ _ ?_ a ha
      refine W.ret ?_
      have hr := Option.some.inj hF
      subst hr
      exact rets (vs := [(.bool false)]) hQ rfl ⟨rv_tmp rfl, trivial⟩ ⟨rfl, hB10⟩
    · replace hF := ifN h18 hF
      refine W.skip ?_
      refine fun a ha => hK16 _ _ ?_ a ha
      refine W.seq fun K20 hK20 => ?_
      refine W.region ?_
      refine wl_assign rfl rfl ?_
      refine WL.nil ?_
      refine fun a ha => hK20 _ _ ?_ a ha
      refine W.ret ?_
      have hr := Option.some.inj hF
      subst hr
      exact rets (vs := [(.bool true)]) hQ rfl ⟨rv_tmp rfl, trivial⟩ ⟨rfl, hB10⟩
theorem C_laws_eqCueS (w0 : World) (x0 : (List (Int × (List UInt8)))) (v0_0 : Value) (h0_0 : rdS ty_56 (· < w0.heap.size) w0 v0_0 x0) (x1 : (List (Int × (List UInt8)))) (v1_0 : Value) (h1_0 : rdS ty_56 (· < w0.heap.size) w0 v1_0 x1) (r : Bool) (hF : F_laws_eqCueS x0 x1 = some r) :
    Calls Try.prog 29 [v0_0, v1_0].toArray w0 fun e w' => e = .returned (.bool r) ∧ Below w0.heap.size w0 w' := by
  refine calls_mk' Try.func29 rfl Try.ntmps29 rfl rfl fun Q hQ hP => ?_
  have hB : Below w0.heap.size w0 w0 := Below.refl _ _
  have hS : Sep w0.heap.size w0 [] := Sep.nil _ _
  unfold F_laws_eqCueS at hF
  refine W.seq fun K1 hK1 => ?_
  refine W.region ?_
  refine wl_assign rfl rfl ?_
  refine WL.nil ?_
  refine fun a ha => hK1 _ _ ?_ a ha
  refine W.seq fun K2 hK2 => ?_
  refine W.seq fun K3 hK3 => ?_
  refine W.region ?_
  refine wl_move rfl rfl ?_
  refine wl_lenr (e := ty_56) (l := x0) Try.underlying43 rfl rfl h0_0 ?_
  refine wl_move rfl rfl ?_
  refine wl_lenr (e := ty_56) (l := x1) Try.underlying43 rfl rfl h1_0 ?_
  refine wl_neq rfl rfl rfl ?_
  refine WL.nil ?_
  refine fun a ha => hK3 _ _ ?_ a ha
  refine W.cond rfl (fun h4 => ?_) (fun h4 => ?_)
  · replace hF := ifP h4 hF
    refine W.seq fun K5 hK5 => ?_
    refine W.region ?_
    refine wl_assign rfl rfl ?_
    refine WL.nil ?_
    refine fun a ha => hK5 _ _ ?_ a ha
    refine W.ret ?_
    have hr := Option.some.inj hF
    subst hr
    exact rets (vs := [(.bool false)]) hQ rfl ⟨rv_tmp rfl, trivial⟩ ⟨rfl, hB⟩
  · replace hF := ifN h4 hF
    refine W.skip ?_
    refine fun a ha => hK2 _ _ ?_ a ha
    refine W.seq fun K6 hK6 => ?_
    refine W.seq fun K7 hK7 => ?_
    refine W.region ?_
    refine wl_assign rfl rfl ?_
    refine WL.nil ?_
    refine fun a ha => hK7 _ _ ?_ a ha
    refine W.block ?_
    refine W.loopk (fun m a w8 => ∃ (y11 : Int), St 27 [(0, v0_0), (1, v1_0), (5, (.int .i64 y11))] a ∧ Below w0.heap.size w0 w8 ∧ Sep w0.heap.size w8 [] ∧ F_laws_eqCueS_L1 x0 x1 m y11 = some r) FU ?_ ?_
    ·
      exact fun a ha => ⟨0, ha.sub ⟨rfl, rfl, rfl, trivial⟩, hB, (hS.sel [] rfl), hF⟩
    ·
      rintro m14 a w8 ⟨y11, ha, hB9, hS10, hF⟩ KL13 hKL13
      refine W.at ?_ ha
      cases m14 with
      | zero => exact noneE hF
      | succ m14 =>
        obtain ⟨nx12, hnx12⟩ : ∃ k, k = F_laws_eqCueS_L1 x0 x1 m14 := ⟨_, rfl⟩
        rw [F_laws_eqCueS_L1, ← hnx12] at hF
        refine W.seq fun K15 hK15 => ?_
        refine W.seq fun K16 hK16 => ?_
        refine W.region ?_
        refine wl_move rfl rfl ?_
        refine wl_move rfl rfl ?_
        refine wl_lenr (e := ty_56) (l := x0) Try.underlying43 rfl rfl h0_0 ?_
        refine wl_lss rfl rfl rfl ?_
        refine WL.nil ?_
        refine fun a ha => hK16 _ _ ?_ a ha
        refine W.cond rfl (fun h17 => ?_) (fun h17 => ?_)
        · replace hF := ifP h17 hF
          refine W.skip ?_
          refine fun a ha => hK15 _ _ ?_ a ha
          refine W.seq fun K18 hK18 => ?_
          refine W.block ?_
          refine W.seq fun K19 hK19 => ?_
          refine W.regionH mixed_ [] hB9 hS10 ?_
          intro w20 hb21 hB22 hS23
          have hSW24 := KeepX.refl w20 []
          refine WH.takex (i := 0) rfl (by kernel_rfl) (by kernel_rfl) (by kernel_rfl) hP hSW24 ?_
          refine pr_move rfl rfl ?_
          refine WH.takex (i := 1) rfl (by kernel_rfl) (by kernel_rfl) (by kernel_rfl) hP hSW24 ?_
          refine pr_move rfl rfl ?_
          obtain ⟨u25, hu25, hF⟩ := bindE hF
          refine WH.takex (i := 2) rfl (by kernel_rfl) (by kernel_rfl) (by kernel_rfl) hP hSW24 ?_
          refine pr_index (e := ty_56) Try.underlying43 rfl rfl rfl h0_0 hu25 ?_
          rintro p26 _ rfl hp27
          refine WH.takex (i := 3) rfl (by kernel_rfl) (by kernel_rfl) (by kernel_rfl) hP hSW24 ?_
          refine pr_load_p (vs := [(.int .i64 u25.1), (.string (mkS u25.2))]) (v := (.agg #[(.int .i64 u25.1), (.string (mkS u25.2))])) tf_56 rfl rfl (hp27.kx hB22 (by simp)) rfl rfl ?_
          refine WH.takex (i := 4) rfl (by kernel_rfl) (by kernel_rfl) (by kernel_rfl) hP hSW24 ?_
          refine pr_move rfl rfl ?_
          refine WH.takex (i := 5) rfl (by kernel_rfl) (by kernel_rfl) (by kernel_rfl) hP hSW24 ?_
          refine pr_move rfl rfl ?_
          obtain ⟨u28, hu28, hF⟩ := bindE hF
          refine WH.takex (i := 6) rfl (by kernel_rfl) (by kernel_rfl) (by kernel_rfl) hP hSW24 ?_
          refine pr_index (e := ty_56) Try.underlying43 rfl rfl rfl h1_0 hu28 ?_
          rintro p29 _ rfl hp30
          refine WH.takex (i := 7) rfl (by kernel_rfl) (by kernel_rfl) (by kernel_rfl) hP hSW24 ?_
          refine pr_load_p (vs := [(.int .i64 u28.1), (.string (mkS u28.2))]) (v := (.agg #[(.int .i64 u28.1), (.string (mkS u28.2))])) tf_56 rfl rfl (hp30.kx hB22 (by simp)) rfl rfl ?_
          refine WH.one (i := 8) (by kernel_rfl) rfl ?_
          obtain ⟨u31, hu31, hF⟩ := bindE hF
          refine wl_call rfl Try.call79 (C_laws_eqCue w20 u25 u28 _ hu31) rfl ?_
          rintro _ w32 ⟨rfl, hb33⟩
          refine ⟨_, rfl, ?_⟩
          have hB34 := hB22.trans (hb33.mono hB22.size)
          have hS35 := hS23.below hb33
          have hSW37 := hSW24.ext hb33
          refine WL.nil (WH.ret hSW37 ?_)
          refine WH.takex (i := 9) rfl (by kernel_rfl) (by kernel_rfl) (by kernel_rfl) hP hSW37 ?_
          refine pr_not rfl rfl ?_
          refine WH.done (by kernel_rfl) ?_
          refine fun a ha => hK19 _ _ ?_ a ha
          refine W.cond rfl (fun h38 => ?_) (fun h38 => ?_)
          · replace hF := ifP h38 hF
            refine W.seq fun K39 hK39 => ?_
            refine W.region ?_
            refine wl_assign rfl rfl ?_
            refine WL.nil ?_
            refine fun a ha => hK39 _ _ ?_ a ha
            refine W.ret ?_
            have hr := Option.some.inj hF
            subst hr
            exact rets (vs := [(.bool false)]) hQ rfl ⟨rv_tmp rfl, trivial⟩ ⟨rfl, hB34⟩
          · replace hF := ifN h38 hF
            refine W.skip ?_
            refine fun a ha => hK18 _ _ ?_ a ha
            refine W.region ?_
            refine wl_move rfl rfl ?_
            refine wl_add rfl rfl rfl ?_
            refine wl_assign rfl rfl ?_
            refine WL.nil ?_
            rw [hnx12] at hF
            exact fun a ha => hKL13 a _ m14 (Nat.lt_succ_self m14) ⟨(w64 (y11 + 1)), ha.sub ⟨rfl, rfl, rfl, trivial⟩, hB34, (hS35.sel [] rfl), hF⟩
        · replace hF := ifN h17 hF
          refine W.exit ?_
          refine fun a ha => hK6 _ _ ?_ a ha
          refine W.seq fun K40 hK40 => ?_
          refine W.region ?_
          refine wl_assign rfl rfl ?_
          refine WL.nil ?_
          refine fun a ha => hK40 _ _ ?_ a ha
          refine W.ret ?_
          have hr := Option.some.inj hF
          subst hr
          exact rets (vs := [(.bool true)]) hQ rfl ⟨rv_tmp rfl, trivial⟩ ⟨rfl, hB9⟩
theorem C_spec_tiIf (w0 : World) (x0 : (List (Int × Int))) (v0_0 : Value) (h0_0 : rdS ty_93 (· < w0.heap.size) w0 v0_0 x0) (x1 : (List (Int × (List UInt8)))) (v1_0 : Value) (h1_0 : rdS ty_56 (· < w0.heap.size) w0 v1_0 x1) (r : ((List (Int × (List UInt8))) × Bool)) (hF : F_spec_tiIf x0 x1 = some r) :
    Calls Try.prog 81 [v0_0, v1_0].toArray w0 fun e w' => ∃ (q0 : Value) (G0 : List Nat), e = .returned (.tuple #[q0, (.bool r.2)]) ∧ Below w0.heap.size w0 w' ∧ Sep w0.heap.size w' [R.own ty_56 G0 q0 r.1] := by
  refine calls_mk' Try.func81 rfl Try.ntmps81 rfl rfl fun Q hQ hP => ?_
  have hB : Below w0.heap.size w0 w0 := Below.refl _ _
  have hS : Sep w0.heap.size w0 [] := Sep.nil _ _
  unfold F_spec_tiIf at hF
  refine W.seq fun K1 hK1 => ?_
  refine W.region ?_
  refine wl_assign rfl rfl ?_
  refine wl_assign rfl rfl ?_
  refine WL.nil ?_
  refine fun a ha => hK1 _ _ ?_ a ha
  refine W.seq fun K2 hK2 => ?_
  refine W.seq fun K3 hK3 => ?_
  refine W.region ?_
  refine wl_move rfl rfl ?_
  refine wl_move rfl rfl ?_
  obtain ⟨u4, hu4, hF⟩ := bindE hF
  refine wl_call rfl Try.call111 (C_spec_tiCues w0 x0 v0_0 (h0_0.ro hB) x1 v1_0 (h1_0.ro hB) _ hu4) rfl ?_
  rintro _ w5 ⟨rfl, hb6⟩
  refine ⟨_, rfl, ?_⟩
  have hB7 := hB.trans (hb6.mono hB.size)
  have hS8 := hS.below hb6
  refine wl_not rfl rfl ?_
  refine WL.nil ?_
  refine fun a ha => hK3 _ _ ?_ a ha
  refine W.cond rfl (fun h10 => ?_) (fun h10 => ?_)
  · replace hF := ifP h10 hF
    refine W.seq fun K11 hK11 => ?_
    refine W.region ?_
    refine wl_assign rfl rfl ?_
    refine wl_assign rfl rfl ?_
    refine WL.nil ?_
    refine fun a ha => hK11 _ _ ?_ a ha
    refine W.ret ?_
    have hS12 := hS8.push0 (r := R.own ty_56 [] (.slice none 0 0) []) rfl fun _ => .inl ⟨rfl, rfl, rfl⟩
    have hr := Option.some.inj hF
    subst hr
    exact rets (vs := [(.slice none 0 0), (.bool false)]) hQ rfl ⟨rv_tmp rfl, rv_tmp rfl, trivial⟩ ⟨(.slice none 0 0), [], rfl, hB7, hS12.sel [0] rfl⟩
  · replace hF := ifN h10 hF
    refine W.skip ?_
    refine fun a ha => hK2 _ _ ?_ a ha
    refine W.seq fun K13 hK13 => ?_
    refine W.region ?_
    refine wl_lit (vs := []) (l := []) fl_56 Try.underlying43 rfl rfl rfl rfl rfl rfl hB7 hS8 ?_
    intro v14 F15 w16 hb17 hB18 hS19
    refine wl_move rfl rfl ?_
    obtain ⟨u20, hu20, hF⟩ := bindE hF
    refine wl_append (i := 0) (S := (· < w16.heap.size)) fl_56 Try.underlying43 rfl rfl rfl hB18 hS19 rfl (h1_0.ro hB18) hu20 ?_
    intro v21 F22 w23 hk24 hB25 hS26
    refine wl_assign rfl rfl ?_
    refine wl_assign rfl rfl ?_
    refine WL.nil ?_
    refine fun a ha => hK13 _ _ ?_ a ha
    refine W.ret ?_
    have hr := Option.some.inj hF
    subst hr
    exact rets (vs := [v21, (.bool true)]) hQ rfl ⟨rv_tmp rfl, rv_tmp rfl, trivial⟩ ⟨v21, F22, rfl, hB25, hS26.sel [0] rfl⟩
theorem C_spec_ShiftCues (w0 : World) (x0 : (List (Int × Int))) (v0_0 : Value) (h0_0 : rdS ty_93 (· < w0.heap.size) w0 v0_0 x0) (x1 : (List (Int × (List UInt8)))) (v1_0 : Value) (h1_0 : rdS ty_56 (· < w0.heap.size) w0 v1_0 x1) (x2 : Int) (r : ((List (Int × (List UInt8))) × Bool)) (hF : F_spec_ShiftCues x0 x1 x2 = some r) :
    Calls Try.prog 30 [v0_0, v1_0, (.int .i64 x2)].toArray w0 fun e w' => ∃ (q0 : Value) (G0 : List Nat), e = .returned (.tuple #[q0, (.bool r.2)]) ∧ Below w0.heap.size w0 w' ∧ Sep w0.heap.size w' [R.own ty_56 G0 q0 r.1] := by
  refine calls_mk' Try.func30 rfl Try.ntmps30 rfl rfl fun Q hQ hP => ?_
  have hB : Below w0.heap.size w0 w0 := Below.refl _ _
  have hS : Sep w0.heap.size w0 [] := Sep.nil _ _
  unfold F_spec_ShiftCues at hF
  refine W.seq fun K1 hK1 => ?_
  refine W.region ?_
  refine wl_assign rfl rfl ?_
  refine wl_assign rfl rfl ?_
  refine WL.nil ?_
  refine fun a ha => hK1 _ _ ?_ a ha
  refine W.seq fun K2 hK2 => ?_
  refine W.seq fun K3 hK3 => ?_
  obtain ⟨k8, hk8, hF⟩ := jE1 hF
  have hJ9 : ∀ (y7 : Bool) (w4 : World) (_ : k8 y7 = some r) (_ : Below w0.heap.size w0 w4) (_ : Sep w0.heap.size w4 []), ∀ a, St 42 [(0, v0_0), (1, v1_0), (2, (.int .i64 x2)), (18, (.bool y7))] a → K3 a w4 := by
    intro y7 w4 hF hB5 hS6
    subst hk8
    refine fun a ha => hK3 _ _ ?_ a ha
    refine W.cond rfl (fun h10 => ?_) (fun h10 => ?_)
    · replace hF := ifP h10 hF
      refine W.seq fun K11 hK11 => ?_
      refine W.region ?_
      refine wl_assign rfl rfl ?_
      refine wl_assign rfl rfl ?_
      refine WL.nil ?_
      refine fun a ha => hK11 _ _ ?_ a ha
      refine W.ret ?_
      have hS12 := hS6.push0 (r := R.own ty_56 [] (.slice none 0 0) []) rfl fun _ => .inl ⟨rfl, rfl, rfl⟩
      have hr := Option.some.inj hF
      subst hr
      exact rets (vs := [(.slice none 0 0), (.bool false)]) hQ rfl ⟨rv_tmp rfl, rv_tmp rfl, trivial⟩ ⟨(.slice none 0 0), [], rfl, hB5, hS12.sel [0] rfl⟩
    · replace hF := ifN h10 hF
      refine W.skip ?_
      refine fun a ha => hK2 _ _ ?_ a ha
      refine W.seq fun K13 hK13 => ?_
      refine W.region ?_
      refine wl_lit (vs := []) (l := []) fl_56 Try.underlying43 rfl rfl rfl rfl rfl rfl hB5 hS6 ?_
      intro v14 F15 w16 hb17 hB18 hS19
      refine wl_move rfl rfl ?_
      obtain ⟨u20, hu20, hF⟩ := bindE hF
      refine wl_append (i := 0) (S := (· < w16.heap.size)) fl_56 Try.underlying43 rfl rfl rfl hB18 hS19 rfl (h1_0.ro hB18) hu20 ?_
      intro v21 F22 w23 hk24 hB25 hS26
      refine wl_assign rfl rfl ?_
      refine WL.nil ?_
      refine fun a ha => hK13 _ _ ?_ a ha
      refine W.seq fun K27 hK27 => ?_
      refine W.seq fun K28 hK28 => ?_
      refine W.region ?_
      refine wl_move rfl rfl ?_
      refine wl_lenr (e := ty_56) (l := u20) Try.underlying43 rfl rfl (hS26.own_ro (i := 0) rfl) ?_
      refine wl_move rfl rfl ?_
      refine WL.nil ?_
      refine fun a ha => hK28 _ _ ?_ a ha
      refine W.block ?_
      refine W.loopk (fun m a w29 => ∃ (l32 : (List (Int × (List UInt8)))) (y35 : Int) (v33 : Value) (F34 : List Nat), St 42 [(0, v0_0), (2, (.int .i64 x2)), (8, v33), (23, (.int .i64 (List.length u20 : Int))), (24, (.int .i64 y35))] a ∧ Below w0.heap.size w0 w29 ∧ Sep w0.heap.size w29 [R.own ty_56 F34 v33 l32] ∧ F_spec_ShiftCues_L1 u20 x2 x0 m l32 y35 = some r) FU ?_ ?_
      ·
        exact fun a ha => ⟨u20, 0, v21, F22, ha.sub ⟨rfl, rfl, rfl, rfl, rfl, trivial⟩, hB25, (hS26.sel [0] rfl), hF⟩
      ·
        rintro m38 a w29 ⟨l32, y35, v33, F34, ha, hB30, hS31, hF⟩ KL37 hKL37
        refine W.at ?_ ha
        cases m38 with
        | zero => exact noneE hF
        | succ m38 =>
          obtain ⟨nx36, hnx36⟩ : ∃ k, k = F_spec_ShiftCues_L1 u20 x2 x0 m38 := ⟨_, rfl⟩
          rw [F_spec_ShiftCues_L1, ← hnx36] at hF
          refine W.seq fun K39 hK39 => ?_
          refine W.region ?_
          refine wl_lss rfl rfl rfl ?_
          refine WL.nil ?_
          refine fun a ha => hK39 _ _ ?_ a ha
          refine W.seq fun K40 hK40 => ?_
          refine W.cond rfl (fun h41 => ?_) (fun h41 => ?_)
          · replace hF := ifP h41 hF
            refine W.skip ?_
            refine fun a ha => hK40 _ _ ?_ a ha
            refine W.seq fun K42 hK42 => ?_
            refine W.block ?_
            refine W.seq fun K43 hK43 => ?_
            refine W.region ?_
            refine wl_move rfl rfl ?_
            refine wl_assign rfl rfl ?_
            refine WL.nil ?_
            refine fun a ha => hK43 _ _ ?_ a ha
            refine W.region ?_
            refine wl_move rfl rfl ?_
            refine wl_move rfl rfl ?_
            obtain ⟨u44, hu44, hF⟩ := bindE hF
            refine wl_indexo (e := ty_56) (i := 0) Try.underlying43 rfl rfl rfl hS31 rfl hu44 ?_
            rintro p45 _ rfl hp46 ho47
            refine wl_fieldp (o := 0) ff_56_0 rfl rfl ?_
            refine wl_load_p (vs := [(.int .i64 u44.1)]) (v := (.int .i64 u44.1)) tf_3 rfl rfl (hp46.add 0) rfl rfl ?_
            refine wl_move rfl rfl ?_
            refine wl_add rfl rfl rfl ?_
            obtain ⟨u48, hu48, hF⟩ := bindE hF
            refine wl_indexo (e := ty_56) (i := 0) Try.underlying43 rfl rfl rfl hS31 rfl hu48 ?_
            rintro p49 _ rfl hp50 ho51
            refine wl_fieldp (o := 0) ff_56_0 rfl rfl ?_
            refine wl_storeo (i := 0) (o := 0) (vs := [(.int .i64 (w64 (u44.1 + x2)))]) (u' := ((w64 (u44.1 + x2)), u48.2)) fl_56 tf_3 rfl rfl rfl rfl ho51 hu48 hB30 hS31 rfl rfl ⟨rfl, trivial⟩ rfl ?_
            intro w52 hk55 hB53 hS54
            refine WL.nil ?_
            refine fun a ha => hK42 _ _ ?_ a ha
            refine W.region ?_
            refine wl_add rfl rfl rfl ?_
            refine wl_move rfl rfl ?_
            refine WL.nil ?_
            rw [hnx36] at hF
            exact fun a ha => hKL37 a _ m38 (Nat.lt_succ_self m38) ⟨(seti l32 y35 ((w64 (u44.1 + x2)), u48.2)), (w64 (y35 + 1)), v33, F34, ha.sub ⟨rfl, rfl, rfl, rfl, rfl, trivial⟩, hB53, (hS54.sel [0] rfl), hF⟩
          · replace hF := ifN h41 hF
            refine W.exit ?_
            refine fun a ha => hK27 _ _ ?_ a ha
            refine W.seq fun K56 hK56 => ?_
            refine W.region ?_
            refine wl_move rfl rfl ?_
            refine wl_move rfl rfl ?_
            obtain ⟨u57, hu57, hF⟩ := bindE hF
            refine wl_call rfl Try.call81 (C_spec_tiIf w29 x0 v0_0 (h0_0.ro hB30) l32 v33 (hS31.own_ro (i := 0) rfl) _ hu57) rfl ?_
            rintro _ w60 ⟨v58, F59, rfl, hb61, hM64⟩
            refine ⟨_, rfl, ?_⟩
            have hB62 := hB30.trans (hb61.mono hB30.size)
            have hS63 := hS31.join hb61 hM64 hB30.size
            refine wl_extract rfl rfl rfl ?_
            refine wl_extract rfl rfl rfl ?_
            refine wl_assign rfl rfl ?_
            refine wl_assign rfl rfl ?_
            refine WL.nil ?_
            refine fun a ha => hK56 _ _ ?_ a ha
            refine W.ret ?_
            have hr := Option.some.inj hF
            subst hr
            exact rets (vs := [v58, (.bool u57.2)]) hQ rfl ⟨rv_tmp rfl, rv_tmp rfl, trivial⟩ ⟨v58, F59, rfl, hB62, hS63.sel [0] rfl⟩
  refine W.region ?_
  refine wl_move rfl rfl ?_
  refine wl_move rfl rfl ?_
  obtain ⟨u65, hu65, hF⟩ := bindE hF
  refine wl_call rfl Try.call71 (C_spec_tiGood w0 x0 v0_0 (h0_0.ro hB) x1 v1_0 (h1_0.ro hB) _ hu65) rfl ?_
  rintro _ w66 ⟨rfl, hb67⟩
  refine ⟨_, rfl, ?_⟩
  have hB68 := hB.trans (hb67.mono hB.size)
  have hS69 := hS.below hb67
  refine wl_not rfl rfl ?_
  refine wl_move rfl rfl ?_
  rcases bE (!u65) with h71 | h71
  · replace hF := ifP h71 hF
    refine wl_off rfl rfl rfl h71 ?_
    refine wl_off rfl rfl rfl h71 ?_
    refine wl_off rfl rfl rfl h71 ?_
    refine wl_pick_t rfl rfl h71 rfl ?_
    refine WL.nil ?_
    exact fun a ha => hJ9 (true) _ hF hB68 (hS69.sel [] rfl) a (ha.sub ⟨rfl, rfl, rfl, rfl, trivial⟩)
  · replace hF := ifN h71 hF
    refine wl_on rfl rfl h71 ?_
    refine wl_move rfl rfl ?_
    refine wl_on rfl rfl h71 ?_
    obtain ⟨u72, hu72, hF⟩ := bindE hF
    refine wl_call rfl Try.call80 (C_spec_l1In w66 x2 (-500) 500 _ hu72) rfl ?_
    rintro _ w73 ⟨rfl, hb74⟩
    refine ⟨_, rfl, ?_⟩
    have hB75 := hB68.trans (hb74.mono hB68.size)
    have hS76 := hS69.below hb74
    refine wl_on rfl rfl h71 ?_
    refine wl_not rfl rfl ?_
    refine wl_pick_f rfl rfl h71 rfl ?_
    refine WL.nil ?_
    exact fun a ha => hJ9 ((!u72)) _ hF hB75 (hS76.sel [] rfl) a (ha.sub ⟨rfl, rfl, rfl, rfl, trivial⟩)
theorem C_impl_ShiftCues (w0 : World) (x0 : (List (Int × Int))) (v0_0 : Value) (h0_0 : rdS ty_93 (· < w0.heap.size) w0 v0_0 x0) (x1 : (List (Int × (List UInt8)))) (v1_0 : Value) (h1_0 : rdS ty_56 (· < w0.heap.size) w0 v1_0 x1) (x2 : Int) (r : ((List (Int × (List UInt8))) × Bool)) (hF : F_impl_ShiftCues x0 x1 x2 = some r) :
    Calls Try.prog 31 [v0_0, v1_0, (.int .i64 x2)].toArray w0 fun e w' => ∃ (q0 : Value) (G0 : List Nat), e = .returned (.tuple #[q0, (.bool r.2)]) ∧ Below w0.heap.size w0 w' ∧ Sep w0.heap.size w' [R.own ty_56 G0 q0 r.1] := by
  refine calls_mk' Try.func31 rfl Try.ntmps31 rfl rfl fun Q hQ hP => ?_
  have hB : Below w0.heap.size w0 w0 := Below.refl _ _
  have hS : Sep w0.heap.size w0 [] := Sep.nil _ _
  unfold F_impl_ShiftCues at hF
  refine W.seq fun K1 hK1 => ?_
  refine W.region ?_
  refine wl_assign rfl rfl ?_
  refine wl_assign rfl rfl ?_
  refine WL.nil ?_
  refine fun a ha => hK1 _ _ ?_ a ha
  refine W.seq fun K2 hK2 => ?_
  refine W.seq fun K3 hK3 => ?_
  obtain ⟨k8, hk8, hF⟩ := jE1 hF
  have hJ9 : ∀ (y7 : Bool) (w4 : World) (_ : k8 y7 = some r) (_ : Below w0.heap.size w0 w4) (_ : Sep w0.heap.size w4 []), ∀ a, St 43 [(0, v0_0), (1, v1_0), (2, (.int .i64 x2)), (19, (.bool y7))] a → K3 a w4 := by
    intro y7 w4 hF hB5 hS6
    subst hk8
    refine fun a ha => hK3 _ _ ?_ a ha
    refine W.cond rfl (fun h10 => ?_) (fun h10 => ?_)
    · replace hF := ifP h10 hF
      refine W.seq fun K11 hK11 => ?_
      refine W.region ?_
      refine wl_assign rfl rfl ?_
      refine wl_assign rfl rfl ?_
      refine WL.nil ?_
      refine fun a ha => hK11 _ _ ?_ a ha
      refine W.ret ?_
      have hS12 := hS6.push0 (r := R.own ty_56 [] (.slice none 0 0) []) rfl fun _ => .inl ⟨rfl, rfl, rfl⟩
      have hr := Option.some.inj hF
      subst hr
      exact rets (vs := [(.slice none 0 0), (.bool false)]) hQ rfl ⟨rv_tmp rfl, rv_tmp rfl, trivial⟩ ⟨(.slice none 0 0), [], rfl, hB5, hS12.sel [0] rfl⟩
    · replace hF := ifN h10 hF
      refine W.skip ?_
      refine fun a ha => hK2 _ _ ?_ a ha
      refine W.seq fun K13 hK13 => ?_
      refine W.region ?_
      refine wl_lit (vs := []) (l := []) fl_56 Try.underlying43 rfl rfl rfl rfl rfl rfl hB5 hS6 ?_
      intro v14 F15 w16 hb17 hB18 hS19
      refine wl_assign rfl rfl ?_
      refine WL.nil ?_
      refine fun a ha => hK13 _ _ ?_ a ha
      refine W.seq fun K20 hK20 => ?_
      refine W.seq fun K21 hK21 => ?_
      refine W.region ?_
      refine wl_move rfl rfl ?_
      refine wl_lenr (e := ty_56) (l := x1) Try.underlying43 rfl rfl h1_0 ?_
      refine wl_move rfl rfl ?_
      refine WL.nil ?_
      refine fun a ha => hK21 _ _ ?_ a ha
      refine W.block ?_
      refine W.loopk (fun m a w22 => ∃ (l25 : (List (Int × (List UInt8)))) (y28 : Int) (v26 : Value) (F27 : List Nat), St 43 [(0, v0_0), (2, (.int .i64 x2)), (8, v26), (21, v1_0), (22, (.int .i64 (List.length x1 : Int))), (23, (.int .i64 y28))] a ∧ Below w0.heap.size w0 w22 ∧ Sep w0.heap.size w22 [R.own ty_56 F27 v26 l25] ∧ F_impl_ShiftCues_L1 x1 x2 x0 m l25 y28 = some r) FU ?_ ?_
      ·
        exact fun a ha => ⟨[], 0, v14, F15, ha.sub ⟨rfl, rfl, rfl, rfl, rfl, rfl, trivial⟩, hB18, (hS19.sel [0] rfl), hF⟩
      ·
        rintro m31 a w22 ⟨l25, y28, v26, F27, ha, hB23, hS24, hF⟩ KL30 hKL30
        refine W.at ?_ ha
        cases m31 with
        | zero => exact noneE hF
        | succ m31 =>
          obtain ⟨nx29, hnx29⟩ : ∃ k, k = F_impl_ShiftCues_L1 x1 x2 x0 m31 := ⟨_, rfl⟩
          rw [F_impl_ShiftCues_L1, ← hnx29] at hF
          refine W.seq fun K32 hK32 => ?_
          refine W.region ?_
          refine wl_lss rfl rfl rfl ?_
          refine WL.nil ?_
          refine fun a ha => hK32 _ _ ?_ a ha
          refine W.seq fun K33 hK33 => ?_
          refine W.cond rfl (fun h34 => ?_) (fun h34 => ?_)
          · replace hF := ifP h34 hF
            refine W.skip ?_
            refine fun a ha => hK33 _ _ ?_ a ha
            refine W.seq fun K35 hK35 => ?_
            refine W.block ?_
            refine W.seq fun K36 hK36 => ?_
            refine W.region ?_
            obtain ⟨u37, hu37, hF⟩ := bindE hF
            refine wl_index (e := ty_56) Try.underlying43 rfl rfl rfl h1_0 hu37 ?_
            rintro p38 _ rfl hp39
            refine wl_load_p (vs := [(.int .i64 u37.1), (.string (mkS u37.2))]) (v := (.agg #[(.int .i64 u37.1), (.string (mkS u37.2))])) tf_56 rfl rfl (hp39.ro hB23) rfl rfl ?_
            refine wl_alloc (cs := [(.int .i64 0), (.string (mkS []))]) tf_56 rfl rfl hB23 hS24 ?_
            intro b40 w41 hb42 hB43 hS44
            refine wl_store_blk (i := 0) (vs := [(.int .i64 u37.1), (.string (mkS u37.2))]) (cs' := [(.int .i64 u37.1), (.string (mkS u37.2))]) tf_56 rfl rfl rfl rfl hB43 hS44 rfl rfl ⟨rfl, rfl, trivial⟩ rfl ?_
            intro w45 hk48 hB46 hS47
            refine WL.nil ?_
            refine fun a ha => hK36 _ _ ?_ a ha
            refine W.region ?_
            refine wl_move rfl rfl ?_
            refine wl_field (o := 0) (off' := 0) ff_56_0 rfl rfl rfl ?_
            refine wl_load_blk (i := 0) (vs := [(.int .i64 u37.1)]) (v := (.int .i64 u37.1)) tf_3 rfl rfl hS47 rfl rfl rfl ?_
            refine wl_move rfl rfl ?_
            refine wl_add rfl rfl rfl ?_
            refine wl_field (o := 1) (off' := 1) ff_56_1 rfl rfl rfl ?_
            refine wl_load_blk (i := 0) (vs := [(.string (mkS u37.2))]) (v := (.string (mkS u37.2))) tf_9 rfl rfl hS47 rfl rfl rfl ?_
            refine wl_build (zs := [(.int .i64 0), (.string (mkS []))]) (out := [(.int .i64 (w64 (u37.1 + x2))), (.string (mkS u37.2))]) (vs := [(.int .i64 (w64 (u37.1 + x2))), (.string (mkS u37.2))]) (css := [[(.int .i64 (w64 (u37.1 + x2)))], [(.string (mkS u37.2))]]) tf_56 pl_56 rfl rfl rfl rfl rfl ?_
            refine wl_lit (vs := [(.agg #[(.int .i64 (w64 (u37.1 + x2))), (.string (mkS u37.2))])]) (l := [((w64 (u37.1 + x2)), u37.2)]) fl_56 Try.underlying43 rfl rfl rfl rfl rfl rfl hB46 hS47 ?_
            intro v49 F50 w51 hb52 hB53 hS54
            obtain ⟨u55, hu55, hF⟩ := bindE hF
            refine wl_append (i := 2) (S := (· < w51.heap.size)) fl_56 Try.underlying43 rfl rfl rfl hB53 hS54 rfl (hS54.own_ro (i := 0) rfl) hu55 ?_
            intro v56 F57 w58 hk59 hB60 hS61
            refine wl_assign rfl rfl ?_
            refine WL.nil ?_
            refine fun a ha => hK35 _ _ ?_ a ha
            refine W.region ?_
            refine wl_add rfl rfl rfl ?_
            refine wl_move rfl rfl ?_
            refine WL.nil ?_
            rw [hnx29] at hF
            exact fun a ha => hKL30 a _ m31 (Nat.lt_succ_self m31) ⟨u55, (w64 (y28 + 1)), v56, F57, ha.sub ⟨rfl, rfl, rfl, rfl, rfl, rfl, trivial⟩, hB60, (hS61.sel [2] rfl), hF⟩
          · replace hF := ifN h34 hF
            refine W.exit ?_
            refine fun a ha => hK20 _ _ ?_ a ha
            refine W.seq fun K62 hK62 => ?_
            refine W.seq fun K63 hK63 => ?_
            refine W.region ?_
            refine wl_move rfl rfl ?_
            refine wl_move rfl rfl ?_
            obtain ⟨u64, hu64, hF⟩ := bindE hF
            refine wl_call rfl Try.call82 (C_impl_areCues w22 x0 v0_0 (h0_0.ro hB23) l25 v26 (hS24.own_ro (i := 0) rfl) _ hu64) rfl ?_
            rintro _ w65 ⟨rfl, hb66⟩
            refine ⟨_, rfl, ?_⟩
            have hB67 := hB23.trans (hb66.mono hB23.size)
            have hS68 := hS24.below hb66
            refine wl_not rfl rfl ?_
            refine WL.nil ?_
            refine fun a ha => hK63 _ _ ?_ a ha
            refine W.cond rfl (fun h70 => ?_) (fun h70 => ?_)
            · replace hF := ifP h70 hF
              refine W.seq fun K71 hK71 => ?_
              refine W.region ?_
              refine wl_assign rfl rfl ?_
              refine wl_assign rfl rfl ?_
              refine WL.nil ?_
              refine fun a ha => hK71 _ _ ?_ a ha
              refine W.ret ?_
              have hS72 := hS68.push0 (r := R.own ty_56 [] (.slice none 0 0) []) rfl fun _ => .inl ⟨rfl, rfl, rfl⟩
              have hr := Option.some.inj hF
              subst hr
              exact rets (vs := [(.slice none 0 0), (.bool false)]) hQ rfl ⟨rv_tmp rfl, rv_tmp rfl, trivial⟩ ⟨(.slice none 0 0), [], rfl, hB67, hS72.sel [0] rfl⟩
            · replace hF := ifN h70 hF
              refine W.skip ?_
              refine fun a ha => hK62 _ _ ?_ a ha
              refine W.seq fun K73 hK73 => ?_
              refine W.region ?_
              refine wl_move rfl rfl ?_
              refine wl_assign rfl rfl ?_
              refine wl_assign rfl rfl ?_
              refine WL.nil ?_
              refine fun a ha => hK73 _ _ ?_ a ha
              refine W.ret ?_
              have hr := Option.some.inj hF
              subst hr
              exact rets (vs := [v26, (.bool true)]) hQ rfl ⟨rv_tmp rfl, rv_tmp rfl, trivial⟩ ⟨v26, F27, rfl, hB67, hS68.sel [0] rfl⟩
  refine W.region ?_
  refine wl_move rfl rfl ?_
  refine wl_move rfl rfl ?_
  obtain ⟨u74, hu74, hF⟩ := bindE hF
  refine wl_call rfl Try.call75 (C_impl_haveCues w0 x0 v0_0 (h0_0.ro hB) x1 v1_0 (h1_0.ro hB) _ hu74) rfl ?_
  rintro _ w75 ⟨rfl, hb76⟩
  refine ⟨_, rfl, ?_⟩
  have hB77 := hB.trans (hb76.mono hB.size)
  have hS78 := hS.below hb76
  refine wl_not rfl rfl ?_
  refine wl_move rfl rfl ?_
  rcases bE (!u74) with h80 | h80
  · replace hF := ifP h80 hF
    refine wl_off rfl rfl rfl h80 ?_
    refine wl_off rfl rfl rfl h80 ?_
    refine wl_off rfl rfl rfl h80 ?_
    refine wl_pick_t rfl rfl h80 rfl ?_
    refine WL.nil ?_
    exact fun a ha => hJ9 (true) _ hF hB77 (hS78.sel [] rfl) a (ha.sub ⟨rfl, rfl, rfl, rfl, trivial⟩)
  · replace hF := ifN h80 hF
    refine wl_on rfl rfl h80 ?_
    refine wl_move rfl rfl ?_
    refine wl_on rfl rfl h80 ?_
    obtain ⟨u81, hu81, hF⟩ := bindE hF
    refine wl_call rfl Try.call65 (C_impl_within w75 x2 (-500) 500 _ hu81) rfl ?_
    rintro _ w82 ⟨rfl, hb83⟩
    refine ⟨_, rfl, ?_⟩
    have hB84 := hB77.trans (hb83.mono hB77.size)
    have hS85 := hS78.below hb83
    refine wl_on rfl rfl h80 ?_
    refine wl_not rfl rfl ?_
    refine wl_pick_f rfl rfl h80 rfl ?_
    refine WL.nil ?_
    exact fun a ha => hJ9 ((!u81)) _ hF hB84 (hS85.sel [] rfl) a (ha.sub ⟨rfl, rfl, rfl, rfl, trivial⟩)
theorem C_laws_markMeasureS (w0 : World) (x0 : (List (Int × Int))) (v0_0 : Value) (B0_0 : List Nat) (x1 : Int) (hS0 : Sep 0 w0 [R.own ty_93 B0_0 v0_0 x0]) (r : (Int × (List (Int × Int)))) (hF : F_laws_markMeasureS x0 x1 = some r) :
    Calls Try.prog 32 [v0_0, (.int .i64 x1)].toArray w0 fun e w' => e = .returned (.int .i64 r.1) ∧ Below 0 (wE w0) w' ∧ Sep 0 w' [R.rest w0 (fps [R.own ty_93 B0_0 v0_0 x0]), R.own ty_93 B0_0 v0_0 r.2] := by
  refine calls_mk' Try.func32 rfl Try.ntmps32 rfl rfl fun Q hQ hP => ?_
  have hB : Below (wE w0).heap.size (wE w0) w0 := wE_below w0
  have hS : Sep (wE w0).heap.size w0 [R.rest w0 (fps [R.own ty_93 B0_0 v0_0 x0]), R.own ty_93 B0_0 v0_0 x0] := hS0.rest
  unfold F_laws_markMeasureS at hF
  refine W.seq fun K1 hK1 => ?_
  refine W.region ?_
  refine wl_assign rfl rfl ?_
  refine WL.nil ?_
  refine fun a ha => hK1 _ _ ?_ a ha
  refine W.seq fun K2 hK2 => ?_
  refine W.seq fun K3 hK3 => ?_
  refine W.region ?_
  refine wl_assign rfl rfl ?_
  refine WL.nil ?_
  refine fun a ha => hK3 _ _ ?_ a ha
  refine W.block ?_
  refine W.loopk (fun m a w4 => ∃ (l7 : (List (Int × Int))) (y8 : Int) (y9 : Int), St 27 [(0, v0_0), (1, (.int .i64 y8)), (5, (.int .i64 y9))] a ∧ Below (wE w0).heap.size (wE w0) w4 ∧ Sep (wE w0).heap.size w4 [R.rest w0 (fps [R.own ty_93 B0_0 v0_0 x0]), R.own ty_93 B0_0 v0_0 l7] ∧ F_laws_markMeasureS_L1 m l7 y8 y9 = some r) FU ?_ ?_
  ·
    exact fun a ha => ⟨x0, x1, 0, ha.sub ⟨rfl, rfl, rfl, trivial⟩, hB, (hS.sel [0, 1] rfl), hF⟩
  ·
    rintro m12 a w4 ⟨l7, y8, y9, ha, hB5, hS6, hF⟩ KL11 hKL11
    refine W.at ?_ ha
    cases m12 with
    | zero => exact noneE hF
    | succ m12 =>
      obtain ⟨nx10, hnx10⟩ : ∃ k, k = F_laws_markMeasureS_L1 m12 := ⟨_, rfl⟩
      rw [F_laws_markMeasureS_L1, ← hnx10] at hF
      refine W.seq fun K13 hK13 => ?_
      refine W.seq fun K14 hK14 => ?_
      refine W.region ?_
      refine wl_move rfl rfl ?_
      refine wl_move rfl rfl ?_
      refine wl_lenr (e := ty_93) (l := l7) Try.underlying41 rfl rfl (hS6.own_ro (i := 1) rfl) ?_
      refine wl_lss rfl rfl rfl ?_
      refine WL.nil ?_
      refine fun a ha => hK14 _ _ ?_ a ha
      refine W.cond rfl (fun h15 => ?_) (fun h15 => ?_)
      · replace hF := ifP h15 hF
        refine W.skip ?_
        refine fun a ha => hK13 _ _ ?_ a ha
        refine W.seq fun K16 hK16 => ?_
        refine W.block ?_
        refine W.seq fun K17 hK17 => ?_
        refine W.region ?_
        refine wl_move rfl rfl ?_
        refine wl_move rfl rfl ?_
        refine wl_move rfl rfl ?_
        obtain ⟨u18, hu18, hF⟩ := bindE hF
        refine wl_indexo (e := ty_93) (i := 1) Try.underlying41 rfl rfl rfl hS6 rfl hu18 ?_
        rintro p19 _ rfl hp20 ho21
        refine wl_fieldp (o := 0) ff_93_0 rfl rfl ?_
        refine wl_storeo (i := 1) (o := 0) (vs := [(.int .i64 y8)]) (u' := (y8, u18.2)) fl_93 tf_3 rfl rfl rfl rfl ho21 hu18 hB5 hS6 rfl rfl ⟨rfl, trivial⟩ rfl ?_
        intro w22 hk25 hB23 hS24
        refine WL.nil ?_
        refine fun a ha => hK17 _ _ ?_ a ha
        refine W.seq fun K26 hK26 => ?_
        refine W.region ?_
        refine wl_move rfl rfl ?_
        refine wl_add rfl rfl rfl ?_
        refine wl_assign rfl rfl ?_
        refine WL.nil ?_
        refine fun a ha => hK26 _ _ ?_ a ha
        refine W.seq fun K27 hK27 => ?_
        refine W.region ?_
        refine wl_move rfl rfl ?_
        refine wl_move rfl rfl ?_
        refine wl_move rfl rfl ?_
        obtain ⟨u28, hu28, hF⟩ := bindE hF
        refine wl_indexo (e := ty_93) (i := 1) Try.underlying41 rfl rfl rfl hS24 rfl hu28 ?_
        rintro p29 _ rfl hp30 ho31
        refine wl_fieldp (o := 1) ff_93_1 rfl rfl ?_
        refine wl_storeo (i := 1) (o := 1) (vs := [(.int .i64 (w64 (y8 + 1)))]) (u' := (u28.1, (w64 (y8 + 1)))) fl_93 tf_3 rfl rfl rfl rfl (ho31.add 1) hu28 hB23 hS24 rfl rfl ⟨rfl, trivial⟩ rfl ?_
        intro w32 hk35 hB33 hS34
        refine WL.nil ?_
        refine fun a ha => hK27 _ _ ?_ a ha
        refine W.region ?_
        refine wl_move rfl rfl ?_
        refine wl_add rfl rfl rfl ?_
        refine wl_assign rfl rfl ?_
        refine WL.nil ?_
        refine fun a ha => hK16 _ _ ?_ a ha
        refine W.region ?_
        refine wl_move rfl rfl ?_
        refine wl_add rfl rfl rfl ?_
        refine wl_assign rfl rfl ?_
        refine WL.nil ?_
        rw [hnx10] at hF
        exact fun a ha => hKL11 a _ m12 (Nat.lt_succ_self m12) ⟨(seti (seti l7 y9 (y8, u18.2)) y9 (u28.1, (w64 (y8 + 1)))), (w64 ((w64 (y8 + 1)) + 1)), (w64 (y9 + 1)), ha.sub ⟨rfl, rfl, rfl, trivial⟩, hB33, (hS34.sel [0, 1] rfl), hF⟩
      · replace hF := ifN h15 hF
        refine W.exit ?_
        refine fun a ha => hK2 _ _ ?_ a ha
        refine W.seq fun K36 hK36 => ?_
        refine W.region ?_
        refine wl_move rfl rfl ?_
        refine wl_assign rfl rfl ?_
        refine WL.nil ?_
        refine fun a ha => hK36 _ _ ?_ a ha
        refine W.ret ?_
        have hr := Option.some.inj hF
        subst hr
        exact rets (vs := [(.int .i64 y8)]) hQ rfl ⟨rv_tmp rfl, trivial⟩ ⟨rfl, hB5, hS6.sel [0, 1] rfl⟩
theorem C_laws_markText (w0 : World) (x0 : Int) (r : (List UInt8)) (hF : F_laws_markText x0 = some r) :
    Calls Try.prog 83 [(.int .i64 x0)].toArray w0 fun e w' => e = .returned (.string (mkS r)) ∧ Below w0.heap.size w0 w' := by
  refine calls_mk' Try.func83 rfl Try.ntmps83 rfl rfl fun Q hQ hP => ?_
  have hB : Below w0.heap.size w0 w0 := Below.refl _ _
  have hS : Sep w0.heap.size w0 [] := Sep.nil _ _
  unfold F_laws_markText at hF
  refine W.seq fun K1 hK1 => ?_
  refine W.region ?_
  refine wl_assign rfl rfl ?_
  refine WL.nil ?_
  refine fun a ha => hK1 _ _ ?_ a ha
  refine W.seq fun K2 hK2 => ?_
  refine W.seq fun K3 hK3 => ?_
  refine W.region ?_
  refine wl_move rfl rfl ?_
  refine wl_leq rfl rfl rfl ?_
  refine WL.nil ?_
  refine fun a ha => hK3 _ _ ?_ a ha
  refine W.cond rfl (fun h4 => ?_) (fun h4 => ?_)
  · replace hF := ifP h4 hF
    refine W.seq fun K5 hK5 => ?_
    refine W.region ?_
    refine wl_assign rfl rfl ?_
    refine WL.nil ?_
    refine fun a ha => hK5 _ _ ?_ a ha
    refine W.ret ?_
    have hr := Option.some.inj hF
    subst hr
    exact rets (vs := [(.string (mkS [109, 48]))]) hQ rfl ⟨rv_tmp rfl, trivial⟩ ⟨rfl, hB⟩
  · replace hF := ifN h4 hF
    refine W.skip ?_
    refine fun a ha => hK2 _ _ ?_ a ha
    refine W.seq fun K6 hK6 => ?_
    refine W.region ?_
    refine wl_assign rfl rfl ?_
    refine WL.nil ?_
    refine fun a ha => hK6 _ _ ?_ a ha
    refine W.seq fun K7 hK7 => ?_
    refine W.block ?_
    refine W.loopk (fun m a w8 => ∃ (y11 : Int) (y12 : (List UInt8)), St 20 [(0, (.int .i64 y11)), (3, (.string (mkS y12)))] a ∧ Below w0.heap.size w0 w8 ∧ Sep w0.heap.size w8 [] ∧ F_laws_markText_L1 m y11 y12 = some r) FU ?_ ?_
    ·
      exact fun a ha => ⟨x0, [], ha.sub ⟨rfl, rfl, trivial⟩, hB, (hS.sel [] rfl), hF⟩
    ·
      rintro m15 a w8 ⟨y11, y12, ha, hB9, hS10, hF⟩ KL14 hKL14
      refine W.at ?_ ha
      cases m15 with
      | zero => exact noneE hF
      | succ m15 =>
        obtain ⟨nx13, hnx13⟩ : ∃ k, k = F_laws_markText_L1 m15 := ⟨_, rfl⟩
        rw [F_laws_markText_L1, ← hnx13] at hF
        refine W.seq fun K16 hK16 => ?_
        refine W.seq fun K17 hK17 => ?_
        refine W.region ?_
        refine wl_move rfl rfl ?_
        refine wl_gtr rfl rfl rfl ?_
        refine WL.nil ?_
        refine fun a ha => hK17 _ _ ?_ a ha
        refine W.cond rfl (fun h18 => ?_) (fun h18 => ?_)
        · replace hF := ifP h18 hF
          refine W.skip ?_
          refine fun a ha => hK16 _ _ ?_ a ha
          refine W.block ?_
          refine W.seq fun K19 hK19 => ?_
          refine W.region ?_
          refine wl_move rfl rfl ?_
          refine wl_rem rfl rfl rfl (by decide) ?_
          refine wl_add rfl rfl rfl ?_
          refine wl_convi Try.underlying3 Try.underlying5 rfl rfl ?_
          refine wl_lit (vs := [(.int .u8 (wu8 (w64 (48 + (Int.tmod y11 10)))))]) (l := [(wu8 (w64 (48 + (Int.tmod y11 10))))]) fl_5 Try.underlying127 rfl rfl rfl rfl rfl rfl hB9 hS10 ?_
          intro v20 F21 w22 hb23 hB24 hS25
          refine wl_convb fl_5 Try.underlying127 Try.underlying5 Try.underlying9 rfl rfl rfl (hS25.own_ro (i := 0) rfl) ?_
          refine wl_move rfl rfl ?_
          obtain ⟨u26, hu26, hF⟩ := bindE hF
          refine wl_stradd rfl rfl rfl hu26 ?_
          refine wl_assign rfl rfl ?_
          refine WL.nil ?_
          refine fun a ha => hK19 _ _ ?_ a ha
          refine W.region ?_
          refine wl_move rfl rfl ?_
          refine wl_quo rfl rfl rfl (by decide) ?_
          refine wl_assign rfl rfl ?_
          refine WL.nil ?_
          rw [hnx13] at hF
          exact fun a ha => hKL14 a _ m15 (Nat.lt_succ_self m15) ⟨(w64 (Int.tdiv y11 10)), u26, ha.sub ⟨rfl, rfl, trivial⟩, hB24, (hS25.sel [] rfl), hF⟩
        · replace hF := ifN h18 hF
          refine W.exit ?_
          refine fun a ha => hK7 _ _ ?_ a ha
          refine W.seq fun K27 hK27 => ?_
          refine W.region ?_
          refine wl_move rfl rfl ?_
          obtain ⟨u28, hu28, hF⟩ := bindE hF
          refine wl_stradd rfl rfl rfl hu28 ?_
          refine wl_assign rfl rfl ?_
          refine WL.nil ?_
          refine fun a ha => hK27 _ _ ?_ a ha
          refine W.ret ?_
          have hr := Option.some.inj hF
          subst hr
          exact rets (vs := [(.string (mkS u28))]) hQ rfl ⟨rv_tmp rfl, trivial⟩ ⟨rfl, hB9⟩
theorem C_laws_markCueS (w0 : World) (x0 : (List (Int × (List UInt8)))) (v0_0 : Value) (B0_0 : List Nat) (x1 : Int) (hS0 : Sep 0 w0 [R.own ty_56 B0_0 v0_0 x0]) (r : (Int × (List (Int × (List UInt8))))) (hF : F_laws_markCueS x0 x1 = some r) :
    Calls Try.prog 33 [v0_0, (.int .i64 x1)].toArray w0 fun e w' => e = .returned (.int .i64 r.1) ∧ Below 0 (wE w0) w' ∧ Sep 0 w' [R.rest w0 (fps [R.own ty_56 B0_0 v0_0 x0]), R.own ty_56 B0_0 v0_0 r.2] := by
  refine calls_mk' Try.func33 rfl Try.ntmps33 rfl rfl fun Q hQ hP => ?_
  have hB : Below (wE w0).heap.size (wE w0) w0 := wE_below w0
  have hS : Sep (wE w0).heap.size w0 [R.rest w0 (fps [R.own ty_56 B0_0 v0_0 x0]), R.own ty_56 B0_0 v0_0 x0] := hS0.rest
  unfold F_laws_markCueS at hF
  refine W.seq fun K1 hK1 => ?_
  refine W.region ?_
  refine wl_assign rfl rfl ?_
  refine WL.nil ?_
  refine fun a ha => hK1 _ _ ?_ a ha
  refine W.seq fun K2 hK2 => ?_
  refine W.seq fun K3 hK3 => ?_
  refine W.region ?_
  refine wl_assign rfl rfl ?_
  refine WL.nil ?_
  refine fun a ha => hK3 _ _ ?_ a ha
  refine W.block ?_
  refine W.loopk (fun m a w4 => ∃ (l7 : (List (Int × (List UInt8)))) (y8 : Int) (y9 : Int), St 28 [(0, v0_0), (1, (.int .i64 y8)), (5, (.int .i64 y9))] a ∧ Below (wE w0).heap.size (wE w0) w4 ∧ Sep (wE w0).heap.size w4 [R.rest w0 (fps [R.own ty_56 B0_0 v0_0 x0]), R.own ty_56 B0_0 v0_0 l7] ∧ F_laws_markCueS_L1 m l7 y8 y9 = some r) FU ?_ ?_
  ·
    exact fun a ha => ⟨x0, x1, 0, ha.sub ⟨rfl, rfl, rfl, trivial⟩, hB, (hS.sel [0, 1] rfl), hF⟩
  ·
    rintro m12 a w4 ⟨l7, y8, y9, ha, hB5, hS6, hF⟩ KL11 hKL11
    refine W.at ?_ ha
    cases m12 with
    | zero => exact noneE hF
    | succ m12 =>
      obtain ⟨nx10, hnx10⟩ : ∃ k, k = F_laws_markCueS_L1 m12 := ⟨_, rfl⟩
      rw [F_laws_markCueS_L1, ← hnx10] at hF
      refine W.seq fun K13 hK13 => ?_
      refine W.seq fun K14 hK14 => ?_
      refine W.region ?_
      refine wl_move rfl rfl ?_
      refine wl_move rfl rfl ?_
      refine wl_lenr (e := ty_56) (l := l7) Try.underlying43 rfl rfl (hS6.own_ro (i := 1) rfl) ?_
      refine wl_lss rfl rfl rfl ?_
      refine WL.nil ?_
      refine fun a ha => hK14 _ _ ?_ a ha
      refine W.cond rfl (fun h15 => ?_) (fun h15 => ?_)
      · replace hF := ifP h15 hF
        refine W.skip ?_
        refine fun a ha => hK13 _ _ ?_ a ha
        refine W.seq fun K16 hK16 => ?_
        refine W.block ?_
        refine W.seq fun K17 hK17 => ?_
        refine W.region ?_
        refine wl_move rfl rfl ?_
        refine wl_move rfl rfl ?_
        refine wl_move rfl rfl ?_
        obtain ⟨u18, hu18, hF⟩ := bindE hF
        refine wl_indexo (e := ty_56) (i := 1) Try.underlying43 rfl rfl rfl hS6 rfl hu18 ?_
        rintro p19 _ rfl hp20 ho21
        refine wl_fieldp (o := 0) ff_56_0 rfl rfl ?_
        refine wl_storeo (i := 1) (o := 0) (vs := [(.int .i64 y8)]) (u' := (y8, u18.2)) fl_56 tf_3 rfl rfl rfl rfl ho21 hu18 hB5 hS6 rfl rfl ⟨rfl, trivial⟩ rfl ?_
        intro w22 hk25 hB23 hS24
        refine WL.nil ?_
        refine fun a ha => hK17 _ _ ?_ a ha
        refine W.seq fun K26 hK26 => ?_
        refine W.region ?_
        refine wl_move rfl rfl ?_
        refine wl_add rfl rfl rfl ?_
        refine wl_assign rfl rfl ?_
        refine WL.nil ?_
        refine fun a ha => hK26 _ _ ?_ a ha
        refine W.seq fun K27 hK27 => ?_
        refine W.region ?_
        refine wl_move rfl rfl ?_
        refine wl_move rfl rfl ?_
        refine wl_move rfl rfl ?_
        obtain ⟨u28, hu28, hF⟩ := bindE hF
        refine wl_call rfl Try.call83 (C_laws_markText w22 (w64 (y8 + 1)) _ hu28) rfl ?_
        rintro _ w29 ⟨rfl, hb30⟩
        refine ⟨_, rfl, ?_⟩
        have hB31 := hB23.trans (hb30.mono hB23.size)
        have hS32 := hS24.below hb30
        obtain ⟨u34, hu34, hF⟩ := bindE hF
        refine wl_indexo (e := ty_56) (i := 1) Try.underlying43 rfl rfl rfl hS32 rfl hu34 ?_
        rintro p35 _ rfl hp36 ho37
        refine wl_fieldp (o := 1) ff_56_1 rfl rfl ?_
        refine wl_storeo (i := 1) (o := 1) (vs := [(.string (mkS u28))]) (u' := (u34.1, u28)) fl_56 tf_9 rfl rfl rfl rfl (ho37.add 1) hu34 hB31 hS32 rfl rfl ⟨rfl, trivial⟩ rfl ?_
        intro w38 hk41 hB39 hS40
        refine WL.nil ?_
        refine fun a ha => hK27 _ _ ?_ a ha
        refine W.region ?_
        refine wl_move rfl rfl ?_
        refine wl_add rfl rfl rfl ?_
        refine wl_assign rfl rfl ?_
        refine WL.nil ?_
        refine fun a ha => hK16 _ _ ?_ a ha
        refine W.region ?_
        refine wl_move rfl rfl ?_
        refine wl_add rfl rfl rfl ?_
        refine wl_assign rfl rfl ?_
        refine WL.nil ?_
        rw [hnx10] at hF
        exact fun a ha => hKL11 a _ m12 (Nat.lt_succ_self m12) ⟨(seti (seti l7 y9 (y8, u18.2)) y9 (u34.1, u28)), (w64 ((w64 (y8 + 1)) + 1)), (w64 (y9 + 1)), ha.sub ⟨rfl, rfl, rfl, trivial⟩, hB39, (hS40.sel [0, 1] rfl), hF⟩
      · replace hF := ifN h15 hF
        refine W.exit ?_
        refine fun a ha => hK2 _ _ ?_ a ha
        refine W.seq fun K42 hK42 => ?_
        refine W.region ?_
        refine wl_move rfl rfl ?_
        refine wl_assign rfl rfl ?_
        refine WL.nil ?_
        refine fun a ha => hK42 _ _ ?_ a ha
        refine W.ret ?_
        have hr := Option.some.inj hF
        subst hr
        exact rets (vs := [(.int .i64 y8)]) hQ rfl ⟨rv_tmp rfl, trivial⟩ ⟨rfl, hB5, hS6.sel [0, 1] rfl⟩
theorem C_laws_heldCueS (w0 : World) (x0 : (List (Int × (List UInt8)))) (v0_0 : Value) (h0_0 : rdS ty_56 (· < w0.heap.size) w0 v0_0 x0) (x1 : Int) (r : Int) (hF : F_laws_heldCueS x0 x1 = some r) :
    Calls Try.prog 34 [v0_0, (.int .i64 x1)].toArray w0 fun e w' => e = .returned (.int .i64 r) ∧ Below w0.heap.size w0 w' := by
  refine calls_mk' Try.func34 rfl Try.ntmps34 rfl rfl fun Q hQ hP => ?_
  have hB : Below w0.heap.size w0 w0 := Below.refl _ _
  have hS : Sep w0.heap.size w0 [] := Sep.nil _ _
  unfold F_laws_heldCueS at hF
  refine W.seq fun K1 hK1 => ?_
  refine W.region ?_
  refine wl_assign rfl rfl ?_
  refine WL.nil ?_
  refine fun a ha => hK1 _ _ ?_ a ha
  refine W.seq fun K2 hK2 => ?_
  refine W.seq fun K3 hK3 => ?_
  refine W.region ?_
  refine wl_assign rfl rfl ?_
  refine WL.nil ?_
  refine fun a ha => hK3 _ _ ?_ a ha
  refine W.block ?_
  refine W.loopk (fun m a w4 => ∃ (y7 : Int) (y8 : Int), St 32 [(0, v0_0), (1, (.int .i64 y7)), (5, (.int .i64 y8))] a ∧ Below w0.heap.size w0 w4 ∧ Sep w0.heap.size w4 [] ∧ F_laws_heldCueS_L1 x0 m y7 y8 = some r) FU ?_ ?_
  ·
    exact fun a ha => ⟨x1, 0, ha.sub ⟨rfl, rfl, rfl, trivial⟩, hB, (hS.sel [] rfl), hF⟩
  ·
    rintro m11 a w4 ⟨y7, y8, ha, hB5, hS6, hF⟩ KL10 hKL10
    refine W.at ?_ ha
    cases m11 with
    | zero => exact noneE hF
    | succ m11 =>
      obtain ⟨nx9, hnx9⟩ : ∃ k, k = F_laws_heldCueS_L1 x0 m11 := ⟨_, rfl⟩
      rw [F_laws_heldCueS_L1, ← hnx9] at hF
      refine W.seq fun K12 hK12 => ?_
      refine W.seq fun K13 hK13 => ?_
      refine W.region ?_
      refine wl_move rfl rfl ?_
      refine wl_move rfl rfl ?_
      refine wl_lenr (e := ty_56) (l := x0) Try.underlying43 rfl rfl h0_0 ?_
      refine wl_lss rfl rfl rfl ?_
      refine WL.nil ?_
      refine fun a ha => hK13 _ _ ?_ a ha
      refine W.cond rfl (fun h14 => ?_) (fun h14 => ?_)
      · replace hF := ifP h14 hF
        refine W.skip ?_
        refine fun a ha => hK12 _ _ ?_ a ha
        refine W.seq fun K15 hK15 => ?_
        refine W.block ?_
        refine W.seq fun K16 hK16 => ?_
        refine W.seq fun K17 hK17 => ?_
        refine W.region ?_
        refine wl_move rfl rfl ?_
        refine wl_move rfl rfl ?_
        obtain ⟨u18, hu18, hF⟩ := bindE hF
        refine wl_index (e := ty_56) Try.underlying43 rfl rfl rfl h0_0 hu18 ?_
        rintro p19 _ rfl hp20
        refine wl_fieldp (o := 0) ff_56_0 rfl rfl ?_
        refine wl_load_p (vs := [(.int .i64 u18.1)]) (v := (.int .i64 u18.1)) tf_3 rfl rfl ((hp20.ro hB5).add 0) rfl rfl ?_
        refine wl_move rfl rfl ?_
        refine wl_neq rfl rfl rfl ?_
        refine WL.nil ?_
        refine fun a ha => hK17 _ _ ?_ a ha
        refine W.cond rfl (fun h21 => ?_) (fun h21 => ?_)
        · replace hF := ifP h21 hF
          refine W.seq fun K22 hK22 => ?_
          refine W.region ?_
          refine wl_assign rfl rfl ?_
          refine WL.nil ?_
          refine fun a ha => hK22 _ _ ?_ a ha
          refine W.ret ?_
          have hr := Option.some.inj hF
          subst hr
          exact rets (vs := [(.int .i64 (-1))]) hQ rfl ⟨rv_tmp rfl, trivial⟩ ⟨rfl, hB5⟩
        · replace hF := ifN h21 hF
          refine W.skip ?_
          refine fun a ha => hK16 _ _ ?_ a ha
          refine W.seq fun K23 hK23 => ?_
          refine W.region ?_
          refine wl_move rfl rfl ?_
          refine wl_add rfl rfl rfl ?_
          refine wl_assign rfl rfl ?_
          refine WL.nil ?_
          refine fun a ha => hK23 _ _ ?_ a ha
          refine W.seq fun K24 hK24 => ?_
          refine W.seq fun K25 hK25 => ?_
          refine W.regionH mixed_ [] hB5 hS6 ?_
          intro w26 hb27 hB28 hS29
          have hSW30 := KeepX.refl w26 []
          refine WH.takex (i := 0) rfl (by kernel_rfl) (by kernel_rfl) (by kernel_rfl) hP hSW30 ?_
          refine pr_move rfl rfl ?_
          refine WH.takex (i := 1) rfl (by kernel_rfl) (by kernel_rfl) (by kernel_rfl) hP hSW30 ?_
          refine pr_move rfl rfl ?_
          obtain ⟨u31, hu31, hF⟩ := bindE hF
          refine WH.takex (i := 2) rfl (by kernel_rfl) (by kernel_rfl) (by kernel_rfl) hP hSW30 ?_
          refine pr_index (e := ty_56) Try.underlying43 rfl rfl rfl h0_0 hu31 ?_
          rintro p32 _ rfl hp33
          refine WH.takex (i := 3) rfl (by kernel_rfl) (by kernel_rfl) (by kernel_rfl) hP hSW30 ?_
          refine pr_fieldp (o := 1) ff_56_1 rfl rfl ?_
          refine WH.takex (i := 4) rfl (by kernel_rfl) (by kernel_rfl) (by kernel_rfl) hP hSW30 ?_
          refine pr_load_p (vs := [(.string (mkS u31.2))]) (v := (.string (mkS u31.2))) tf_9 rfl rfl (EAt.addk (hp33.kx hB28 (by simp)) 1) rfl rfl ?_
          refine WH.takex (i := 5) rfl (by kernel_rfl) (by kernel_rfl) (by kernel_rfl) hP hSW30 ?_
          refine pr_move rfl rfl ?_
          refine WH.one (i := 6) (by kernel_rfl) rfl ?_
          obtain ⟨u34, hu34, hF⟩ := bindE hF
          refine wl_call rfl Try.call83 (C_laws_markText w26 (w64 (y7 + 1)) _ hu34) rfl ?_
          rintro _ w35 ⟨rfl, hb36⟩
          refine ⟨_, rfl, ?_⟩
          have hB37 := hB28.trans (hb36.mono hB28.size)
          have hS38 := hS29.below hb36
          have hSW40 := hSW30.ext hb36
          refine WL.nil (WH.ret hSW40 ?_)
          refine WH.takex (i := 7) rfl (by kernel_rfl) (by kernel_rfl) (by kernel_rfl) hP hSW40 ?_
          refine pr_strneq rfl rfl rfl ?_
          refine WH.done (by kernel_rfl) ?_
          refine fun a ha => hK25 _ _ ?_ a ha
          refine W.cond rfl (fun h41 => ?_) (fun h41 => ?_)
          · replace hF := ifP h41 hF
            refine W.seq fun K42 hK42 => ?_
            refine W.region ?_
            refine wl_assign rfl rfl ?_
            refine WL.nil ?_
            refine fun a ha => hK42 _ _ ?_ a ha
            refine W.ret ?_
            have hr := Option.some.inj hF
            subst hr
            exact rets (vs := [(.int .i64 (-1))]) hQ rfl ⟨rv_tmp rfl, trivial⟩ ⟨rfl, hB37⟩
          · replace hF := ifN h41 hF
            refine W.skip ?_
            refine fun a ha => hK24 _ _ ?_ a ha
            refine W.region ?_
            refine wl_move rfl rfl ?_
            refine wl_add rfl rfl rfl ?_
            refine wl_assign rfl rfl ?_
            refine WL.nil ?_
            refine fun a ha => hK15 _ _ ?_ a ha
            refine W.region ?_
            refine wl_move rfl rfl ?_
            refine wl_add rfl rfl rfl ?_
            refine wl_assign rfl rfl ?_
            refine WL.nil ?_
            rw [hnx9] at hF
            exact fun a ha => hKL10 a _ m11 (Nat.lt_succ_self m11) ⟨(w64 ((w64 (y7 + 1)) + 1)), (w64 (y8 + 1)), ha.sub ⟨rfl, rfl, rfl, trivial⟩, hB37, (hS38.sel [] rfl), hF⟩
      · replace hF := ifN h14 hF
        refine W.exit ?_
        refine fun a ha => hK2 _ _ ?_ a ha
        refine W.seq fun K43 hK43 => ?_
        refine W.region ?_
        refine wl_move rfl rfl ?_
        refine wl_assign rfl rfl ?_
        refine WL.nil ?_
        refine fun a ha => hK43 _ _ ?_ a ha
        refine W.ret ?_
        have hr := Option.some.inj hF
        subst hr
        exact rets (vs := [(.int .i64 y7)]) hQ rfl ⟨rv_tmp rfl, trivial⟩ ⟨rfl, hB5⟩
theorem C_laws_FnExactShiftCues (w0 : World) (x0 : (List (Int × Int))) (v0_0 : Value) (h0_0 : rdS ty_95 (· < w0.heap.size) w0 v0_0 x0) (x1 : (List (Int × (List UInt8)))) (v1_0 : Value) (h1_0 : rdS ty_53 (· < w0.heap.size) w0 v1_0 x1) (x2 : Int) (r : Bool) (hF : F_laws_FnExactShiftCues x0 x1 x2 = some r) :
    Calls Try.prog 6 [v0_0, v1_0, (.int .i64 x2)].toArray w0 fun e w' => e = .returned (.bool r) ∧ Below w0.heap.size w0 w' := by
  refine calls_mk' Try.func6 rfl Try.ntmps6 rfl rfl fun Q hQ hP => ?_
  have hB : Below w0.heap.size w0 w0 := Below.refl _ _
  have hS : Sep w0.heap.size w0 [] := Sep.nil _ _
  unfold F_laws_FnExactShiftCues at hF
  refine W.seq fun K1 hK1 => ?_
  refine W.region ?_
  refine wl_assign rfl rfl ?_
  refine WL.nil ?_
  refine fun a ha => hK1 _ _ ?_ a ha
  refine W.seq fun K2 hK2 => ?_
  refine W.region ?_
  refine wl_assign rfl rfl ?_
  refine WL.nil ?_
  refine fun a ha => hK2 _ _ ?_ a ha
  refine W.seq fun K3 hK3 => ?_
  refine W.region ?_
  refine wl_move rfl rfl ?_
  refine wl_move rfl rfl ?_
  obtain ⟨u4, hu4, hF⟩ := bindE hF
  refine wl_call rfl Try.call22 (C_laws_szMeasureS w0 x0 v0_0 (h0_0.ro hB) 1048576 _ hu4) rfl ?_
  rintro _ w5 ⟨rfl, hb6⟩
  refine ⟨_, rfl, ?_⟩
  have hB7 := hB.trans (hb6.mono hB.size)
  have hS8 := hS.below hb6
  refine wl_assign rfl rfl ?_
  refine WL.nil ?_
  refine fun a ha => hK3 _ _ ?_ a ha
  refine W.seq fun K10 hK10 => ?_
  refine W.seq fun K11 hK11 => ?_
  refine W.region ?_
  refine wl_move rfl rfl ?_
  refine wl_lss rfl rfl rfl ?_
  refine WL.nil ?_
  refine fun a ha => hK11 _ _ ?_ a ha
  refine W.cond rfl (fun h12 => ?_) (fun h12 => ?_)
  · replace hF := ifP h12 hF
    refine W.seq fun K13 hK13 => ?_
    refine W.region ?_
    refine wl_assign rfl rfl ?_
    refine WL.nil ?_
    refine fun a ha => hK13 _ _ ?_ a ha
    refine W.ret ?_
    have hr := Option.some.inj hF
    subst hr
    exact rets (vs := [(.bool true)]) hQ rfl ⟨rv_tmp rfl, trivial⟩ ⟨rfl, hB7⟩
  · replace hF := ifN h12 hF
    refine W.skip ?_
    refine fun a ha => hK10 _ _ ?_ a ha
    refine W.seq fun K14 hK14 => ?_
    refine W.region ?_
    refine wl_move rfl rfl ?_
    refine wl_move rfl rfl ?_
    obtain ⟨u15, hu15, hF⟩ := bindE hF
    refine wl_call rfl Try.call23 (C_laws_szCueS w5 x1 v1_0 (h1_0.ro hB7) u4 _ hu15) rfl ?_
    rintro _ w16 ⟨rfl, hb17⟩
    refine ⟨_, rfl, ?_⟩
    have hB18 := hB7.trans (hb17.mono hB7.size)
    have hS19 := hS8.below hb17
    refine wl_assign rfl rfl ?_
    refine WL.nil ?_
    refine fun a ha => hK14 _ _ ?_ a ha
    refine W.seq fun K21 hK21 => ?_
    refine W.seq fun K22 hK22 => ?_
    refine W.region ?_
    refine wl_move rfl rfl ?_
    refine wl_lss rfl rfl rfl ?_
    refine WL.nil ?_
    refine fun a ha => hK22 _ _ ?_ a ha
    refine W.cond rfl (fun h23 => ?_) (fun h23 => ?_)
    · replace hF := ifP h23 hF
      refine W.seq fun K24 hK24 => ?_
      refine W.region ?_
      refine wl_assign rfl rfl ?_
      refine WL.nil ?_
      refine fun a ha => hK24 _ _ ?_ a ha
      refine W.ret ?_
      have hr := Option.some.inj hF
      subst hr
      exact rets (vs := [(.bool true)]) hQ rfl ⟨rv_tmp rfl, trivial⟩ ⟨rfl, hB18⟩
    · replace hF := ifN h23 hF
      refine W.skip ?_
      refine fun a ha => hK21 _ _ ?_ a ha
      refine W.seq fun K25 hK25 => ?_
      refine W.region ?_
      refine wl_move rfl rfl ?_
      obtain ⟨u26, hu26, hF⟩ := bindE hF
      refine wl_call rfl Try.call25 (C_laws_toMeasureS w16 x0 v0_0 (h0_0.ro hB18) _ hu26) rfl ?_
      rintro _ w29 ⟨v27, F28, rfl, hb30, hM33⟩
      refine ⟨_, rfl, ?_⟩
      have hB31 := hB18.trans (hb30.mono hB18.size)
      have hS32 := hS19.join hb30 hM33 hB18.size
      refine wl_move rfl rfl ?_
      obtain ⟨u34, hu34, hF⟩ := bindE hF
      refine wl_call rfl Try.call26 (C_laws_toCueS w29 x1 v1_0 (h1_0.ro hB31) _ hu34) rfl ?_
      rintro _ w37 ⟨v35, F36, rfl, hb38, hM41⟩
      refine ⟨_, rfl, ?_⟩
      have hB39 := hB31.trans (hb38.mono hB31.size)
      have hS40 := hS32.join hb38 hM41 hB31.size
      refine wl_move rfl rfl ?_
      obtain ⟨u42, hu42, hF⟩ := bindE hF
      refine wl_call rfl Try.call30 (C_spec_ShiftCues w37 u26 v27 (hS40.own_ro (i := 1) rfl) u34 v35 (hS40.own_ro (i := 0) rfl) x2 _ hu42) rfl ?_
      rintro _ w45 ⟨v43, F44, rfl, hb46, hM49⟩
      refine ⟨_, rfl, ?_⟩
      have hB47 := hB39.trans (hb46.mono hB39.size)
      have hS48 := hS40.join hb46 hM49 hB39.size
      refine wl_move rfl rfl ?_
      refine wl_extract rfl rfl rfl ?_
      refine wl_extract rfl rfl rfl ?_
      refine wl_assign rfl rfl ?_
      refine wl_assign rfl rfl ?_
      refine WL.nil ?_
      refine fun a ha => hK25 _ _ ?_ a ha
      refine W.seq fun K50 hK50 => ?_
      refine W.region ?_
      refine wl_move rfl rfl ?_
      obtain ⟨u51, hu51, hF⟩ := bindE hF
      refine wl_call rfl Try.call25 (C_laws_toMeasureS w45 x0 v0_0 (h0_0.ro hB47) _ hu51) rfl ?_
      rintro _ w54 ⟨v52, F53, rfl, hb55, hM58⟩
      refine ⟨_, rfl, ?_⟩
      have hB56 := hB47.trans (hb55.mono hB47.size)
      have hS57 := hS48.join hb55 hM58 hB47.size
      refine wl_assign rfl rfl ?_
      refine WL.nil ?_
      refine fun a ha => hK50 _ _ ?_ a ha
      refine W.seq fun K59 hK59 => ?_
      refine W.region ?_
      refine wl_move rfl rfl ?_
      obtain ⟨u60, hu60, hF⟩ := bindE hF
      refine wl_call rfl Try.call26 (C_laws_toCueS w54 x1 v1_0 (h1_0.ro hB56) _ hu60) rfl ?_
      rintro _ w63 ⟨v61, F62, rfl, hb64, hM67⟩
      refine ⟨_, rfl, ?_⟩
      have hB65 := hB56.trans (hb64.mono hB56.size)
      have hS66 := hS57.join hb64 hM67 hB56.size
      refine wl_assign rfl rfl ?_
      refine WL.nil ?_
      refine fun a ha => hK59 _ _ ?_ a ha
      refine W.seq fun K68 hK68 => ?_
      refine W.region ?_
      refine wl_move rfl rfl ?_
      refine wl_move rfl rfl ?_
      refine wl_move rfl rfl ?_
      obtain ⟨u69, hu69, hF⟩ := bindE hF
      refine wl_call rfl Try.call31 (C_impl_ShiftCues w63 u51 v52 (hS66.own_ro (i := 1) rfl) u60 v61 (hS66.own_ro (i := 0) rfl) x2 _ hu69) rfl ?_
      rintro _ w72 ⟨v70, F71, rfl, hb73, hM76⟩
      refine ⟨_, rfl, ?_⟩
      have hB74 := hB65.trans (hb73.mono hB65.size)
      have hS75 := hS66.join hb73 hM76 hB65.size
      refine wl_move rfl rfl ?_
      refine wl_extract rfl rfl rfl ?_
      refine wl_extract rfl rfl rfl ?_
      refine wl_assign rfl rfl ?_
      refine wl_assign rfl rfl ?_
      refine WL.nil ?_
      refine fun a ha => hK68 _ _ ?_ a ha
      refine W.seq fun K77 hK77 => ?_
      refine W.seq fun K78 hK78 => ?_
      obtain ⟨k83, hk83, hF⟩ := jE1 hF
      have hJ84 : ∀ (y82 : Bool) (w79 : World) (_ : k83 y82 = some r) (_ : Below w0.heap.size w0 w79) (_ : Sep w0.heap.size w79 [R.own ty_56 F44 v43 u42.1, R.own ty_93 F53 v52 u51, R.own ty_56 F62 v61 u60, R.own ty_56 F71 v70 u69.1]), ∀ a, St 124 [(0, v0_0), (1, v1_0), (2, (.int .i64 x2)), (8, v43), (9, (.bool u42.2)), (10, v52), (11, v61), (12, v70), (13, (.bool u69.2)), (57, (.bool y82))] a → K78 a w79 := by
        intro y82 w79 hF hB80 hS81
        subst hk83
        refine fun a ha => hK78 _ _ ?_ a ha
        refine W.cond rfl (fun h85 => ?_) (fun h85 => ?_)
        · replace hF := ifP h85 hF
          refine W.seq fun K86 hK86 => ?_
          refine W.region ?_
          refine wl_assign rfl rfl ?_
          refine WL.nil ?_
          refine fun a ha => hK86 _ _ ?_ a ha
          refine W.ret ?_
          have hr := Option.some.inj hF
          subst hr
          exact rets (vs := [(.bool false)]) hQ rfl ⟨rv_tmp rfl, trivial⟩ ⟨rfl, hB80⟩
        · replace hF := ifN h85 hF
          refine W.skip ?_
          refine fun a ha => hK77 _ _ ?_ a ha
          refine W.seq fun K87 hK87 => ?_
          refine W.seq fun K88 hK88 => ?_
          refine W.region ?_
          refine wl_move rfl rfl ?_
          refine wl_move rfl rfl ?_
          obtain ⟨u89, hu89, hF⟩ := bindE hF
          refine wl_call rfl Try.call25 (C_laws_toMeasureS w79 x0 v0_0 (h0_0.ro hB80) _ hu89) rfl ?_
          rintro _ w92 ⟨v90, F91, rfl, hb93, hM96⟩
          refine ⟨_, rfl, ?_⟩
          have hB94 := hB80.trans (hb93.mono hB80.size)
          have hS95 := hS81.join hb93 hM96 hB80.size
          obtain ⟨u97, hu97, hF⟩ := bindE hF
          refine wl_call rfl Try.call28 (C_laws_eqMeasureS w92 u51 v52 (hS95.own_ro (i := 2) rfl) u89 v90 (hS95.own_ro (i := 0) rfl) _ hu97) rfl ?_
          rintro _ w98 ⟨rfl, hb99⟩
          refine ⟨_, rfl, ?_⟩
          have hB100 := hB94.trans (hb99.mono hB94.size)
          have hS101 := hS95.below hb99
          refine wl_not rfl rfl ?_
          refine WL.nil ?_
          refine fun a ha => hK88 _ _ ?_ a ha
          refine W.cond rfl (fun h103 => ?_) (fun h103 => ?_)
          · replace hF := ifP h103 hF
            refine W.seq fun K104 hK104 => ?_
            refine W.region ?_
            refine wl_assign rfl rfl ?_
            refine WL.nil ?_
            refine fun a ha => hK104 _ _ ?_ a ha
            refine W.ret ?_
            have hr := Option.some.inj hF
            subst hr
            exact rets (vs := [(.bool false)]) hQ rfl ⟨rv_tmp rfl, trivial⟩ ⟨rfl, hB100⟩
          · replace hF := ifN h103 hF
            refine W.skip ?_
            refine fun a ha => hK87 _ _ ?_ a ha
            refine W.seq fun K105 hK105 => ?_
            refine W.seq fun K106 hK106 => ?_
            refine W.region ?_
            refine wl_move rfl rfl ?_
            refine wl_move rfl rfl ?_
            obtain ⟨u107, hu107, hF⟩ := bindE hF
            refine wl_call rfl Try.call26 (C_laws_toCueS w98 x1 v1_0 (h1_0.ro hB100) _ hu107) rfl ?_
            rintro _ w110 ⟨v108, F109, rfl, hb111, hM114⟩
            refine ⟨_, rfl, ?_⟩
            have hB112 := hB100.trans (hb111.mono hB100.size)
            have hS113 := hS101.join hb111 hM114 hB100.size
            obtain ⟨u115, hu115, hF⟩ := bindE hF
            refine wl_call rfl Try.call29 (C_laws_eqCueS w110 u60 v61 (hS113.own_ro (i := 4) rfl) u107 v108 (hS113.own_ro (i := 0) rfl) _ hu115) rfl ?_
            rintro _ w116 ⟨rfl, hb117⟩
            refine ⟨_, rfl, ?_⟩
            have hB118 := hB112.trans (hb117.mono hB112.size)
            have hS119 := hS113.below hb117
            refine wl_not rfl rfl ?_
            refine WL.nil ?_
            refine fun a ha => hK106 _ _ ?_ a ha
            refine W.cond rfl (fun h121 => ?_) (fun h121 => ?_)
            · replace hF := ifP h121 hF
              refine W.seq fun K122 hK122 => ?_
              refine W.region ?_
              refine wl_assign rfl rfl ?_
              refine WL.nil ?_
              refine fun a ha => hK122 _ _ ?_ a ha
              refine W.ret ?_
              have hr := Option.some.inj hF
              subst hr
              exact rets (vs := [(.bool false)]) hQ rfl ⟨rv_tmp rfl, trivial⟩ ⟨rfl, hB118⟩
            · replace hF := ifN h121 hF
              refine W.skip ?_
              refine fun a ha => hK105 _ _ ?_ a ha
              refine W.seq fun K123 hK123 => ?_
              refine W.region ?_
              refine wl_assign rfl rfl ?_
              refine WL.nil ?_
              refine fun a ha => hK123 _ _ ?_ a ha
              refine W.seq fun K124 hK124 => ?_
              refine W.region ?_
              refine wl_move rfl rfl ?_
              refine wl_move rfl rfl ?_
              obtain ⟨u125, hu125, hF⟩ := bindE hF
              refine wl_call rfl Try.call32 (C_laws_markMeasureS w116 u51 v52 F53 1 (hS119.sel [3] rfl).base0 _ hu125) rfl ?_
              rintro _ w126 ⟨rfl, hE127, hM128⟩
              refine ⟨_, rfl, ?_⟩
              have hB129 := hS119.mutB [3] rfl (M := [R.own ty_93 F53 v52 u51]) rfl (M' := [R.own ty_93 F53 v52 u125.2]) rfl hB118 hB118.size hE127 hM128
              have hS130 : Sep w0.heap.size w126 [R.own ty_93 F53 v52 u125.2, R.own ty_56 F109 v108 u107, R.own ty_93 F91 v90 u89, R.own ty_56 F44 v43 u42.1, R.own ty_56 F62 v61 u60, R.own ty_56 F71 v70 u69.1] := hS119.mut [3] [0, 1, 2, 4, 5] rfl (M := [R.own ty_93 F53 v52 u51]) rfl (M' := [R.own ty_93 F53 v52 u125.2]) rfl hM128
              refine wl_assign rfl rfl ?_
              refine WL.nil ?_
              refine fun a ha => hK124 _ _ ?_ a ha
              refine W.seq fun K131 hK131 => ?_
              refine W.region ?_
              refine wl_move rfl rfl ?_
              refine wl_move rfl rfl ?_
              obtain ⟨u132, hu132, hF⟩ := bindE hF
              refine wl_call rfl Try.call33 (C_laws_markCueS w126 u60 v61 F62 u125.1 (hS130.sel [4] rfl).base0 _ hu132) rfl ?_
              rintro _ w133 ⟨rfl, hE134, hM135⟩
              refine ⟨_, rfl, ?_⟩
              have hB136 := hS130.mutB [4] rfl (M := [R.own ty_56 F62 v61 u60]) rfl (M' := [R.own ty_56 F62 v61 u132.2]) rfl hB129 hB129.size hE134 hM135
              have hS137 : Sep w0.heap.size w133 [R.own ty_56 F62 v61 u132.2, R.own ty_93 F53 v52 u125.2, R.own ty_56 F109 v108 u107, R.own ty_93 F91 v90 u89, R.own ty_56 F44 v43 u42.1, R.own ty_56 F71 v70 u69.1] := hS130.mut [4] [0, 1, 2, 3, 5] rfl (M := [R.own ty_56 F62 v61 u60]) rfl (M' := [R.own ty_56 F62 v61 u132.2]) rfl hM135
              refine wl_assign rfl rfl ?_
              refine WL.nil ?_
              refine fun a ha => hK131 _ _ ?_ a ha
              refine W.seq fun K138 hK138 => ?_
              refine W.seq fun K139 hK139 => ?_
              obtain ⟨k144, hk144, hF⟩ := jE1 hF
              have hJ145 : ∀ (y143 : Bool) (w140 : World) (_ : k144 y143 = some r) (_ : Below w0.heap.size w0 w140) (_ : Sep w0.heap.size w140 [R.own ty_56 F44 v43 u42.1, R.own ty_56 F71 v70 u69.1]), ∀ a, St 124 [(0, v0_0), (1, v1_0), (2, (.int .i64 x2)), (8, v43), (9, (.bool u42.2)), (12, v70), (86, (.bool y143))] a → K139 a w140 := by
                intro y143 w140 hF hB141 hS142
                subst hk144
                refine fun a ha => hK139 _ _ ?_ a ha
                refine W.cond rfl (fun h146 => ?_) (fun h146 => ?_)
                · replace hF := ifP h146 hF
                  refine W.seq fun K147 hK147 => ?_
                  refine W.region ?_
                  refine wl_assign rfl rfl ?_
                  refine WL.nil ?_
                  refine fun a ha => hK147 _ _ ?_ a ha
                  refine W.ret ?_
                  have hr := Option.some.inj hF
                  subst hr
                  exact rets (vs := [(.bool false)]) hQ rfl ⟨rv_tmp rfl, trivial⟩ ⟨rfl, hB141⟩
                · replace hF := ifN h146 hF
                  refine W.skip ?_
                  refine fun a ha => hK138 _ _ ?_ a ha
                  refine W.seq fun K148 hK148 => ?_
                  refine W.region ?_
                  refine wl_assign rfl rfl ?_
                  refine WL.nil ?_
                  refine fun a ha => hK148 _ _ ?_ a ha
                  refine W.seq fun K149 hK149 => ?_
                  refine W.region ?_
                  refine wl_move rfl rfl ?_
                  refine wl_move rfl rfl ?_
                  obtain ⟨u150, hu150, hF⟩ := bindE hF
                  refine wl_call rfl Try.call33 (C_laws_markCueS w140 u69.1 v70 F71 1 (hS142.sel [1] rfl).base0 _ hu150) rfl ?_
                  rintro _ w151 ⟨rfl, hE152, hM153⟩
                  refine ⟨_, rfl, ?_⟩
                  have hB154 := hS142.mutB [1] rfl (M := [R.own ty_56 F71 v70 u69.1]) rfl (M' := [R.own ty_56 F71 v70 u150.2]) rfl hB141 hB141.size hE152 hM153
                  have hS155 : Sep w0.heap.size w151 [R.own ty_56 F71 v70 u150.2, R.own ty_56 F44 v43 u42.1] := hS142.mut [1] [0] rfl (M := [R.own ty_56 F71 v70 u69.1]) rfl (M' := [R.own ty_56 F71 v70 u150.2]) rfl hM153
                  refine wl_assign rfl rfl ?_
                  refine WL.nil ?_
                  refine fun a ha => hK149 _ _ ?_ a ha
                  refine W.seq fun K156 hK156 => ?_
                  refine W.region ?_
                  refine wl_assign rfl rfl ?_
                  refine WL.nil ?_
                  refine fun a ha => hK156 _ _ ?_ a ha
                  refine W.seq fun K157 hK157 => ?_
                  refine W.region ?_
                  refine wl_move rfl rfl ?_
                  refine wl_move rfl rfl ?_
                  obtain ⟨u158, hu158, hF⟩ := bindE hF
                  refine wl_call rfl Try.call34 (C_laws_heldCueS w151 u150.2 v70 (hS155.own_ro (i := 0) rfl) 1 _ hu158) rfl ?_
                  rintro _ w159 ⟨rfl, hb160⟩
                  refine ⟨_, rfl, ?_⟩
                  have hB161 := hB154.trans (hb160.mono hB154.size)
                  have hS162 := hS155.below hb160
                  refine wl_assign rfl rfl ?_
                  refine WL.nil ?_
                  refine fun a ha => hK157 _ _ ?_ a ha
                  refine W.seq fun K164 hK164 => ?_
                  refine W.seq fun K165 hK165 => ?_
                  refine W.region ?_
                  refine wl_move rfl rfl ?_
                  refine wl_lss rfl rfl rfl ?_
                  refine WL.nil ?_
                  refine fun a ha => hK165 _ _ ?_ a ha
                  refine W.cond rfl (fun h166 => ?_) (fun h166 => ?_)
                  · replace hF := ifP h166 hF
                    refine W.seq fun K167 hK167 => ?_
                    refine W.region ?_
                    refine wl_assign rfl rfl ?_
                    refine WL.nil ?_
                    refine fun a ha => hK167 _ _ ?_ a ha
                    refine W.ret ?_
                    have hr := Option.some.inj hF
                    subst hr
                    exact rets (vs := [(.bool false)]) hQ rfl ⟨rv_tmp rfl, trivial⟩ ⟨rfl, hB161⟩
                  · replace hF := ifN h166 hF
                    refine W.skip ?_
                    refine fun a ha => hK164 _ _ ?_ a ha
                    refine W.seq fun K168 hK168 => ?_
                    refine W.seq fun K169 hK169 => ?_
                    refine W.region ?_
                    refine wl_move rfl rfl ?_
                    refine wl_move rfl rfl ?_
                    refine wl_neq rfl rfl rfl ?_
                    refine WL.nil ?_
                    refine fun a ha => hK169 _ _ ?_ a ha
                    refine W.cond rfl (fun h170 => ?_) (fun h170 => ?_)
                    · replace hF := ifP h170 hF
                      refine W.seq fun K171 hK171 => ?_
                      refine W.region ?_
                      refine wl_assign rfl rfl ?_
                      refine WL.nil ?_
                      refine fun a ha => hK171 _ _ ?_ a ha
                      refine W.ret ?_
                      have hr := Option.some.inj hF
                      subst hr
                      exact rets (vs := [(.bool false)]) hQ rfl ⟨rv_tmp rfl, trivial⟩ ⟨rfl, hB161⟩
                    · replace hF := ifN h170 hF
                      refine W.skip ?_
                      refine fun a ha => hK168 _ _ ?_ a ha
                      refine W.seq fun K172 hK172 => ?_
                      refine W.region ?_
                      refine wl_move rfl rfl ?_
                      obtain ⟨u173, hu173, hF⟩ := bindE hF
                      refine wl_call rfl Try.call25 (C_laws_toMeasureS w159 x0 v0_0 (h0_0.ro hB161) _ hu173) rfl ?_
                      rintro _ w176 ⟨v174, F175, rfl, hb177, hM180⟩
                      refine ⟨_, rfl, ?_⟩
                      have hB178 := hB161.trans (hb177.mono hB161.size)
                      have hS179 := hS162.join hb177 hM180 hB161.size
                      refine wl_move rfl rfl ?_
                      obtain ⟨u181, hu181, hF⟩ := bindE hF
                      refine wl_call rfl Try.call26 (C_laws_toCueS w176 x1 v1_0 (h1_0.ro hB178) _ hu181) rfl ?_
                      rintro _ w184 ⟨v182, F183, rfl, hb185, hM188⟩
                      refine ⟨_, rfl, ?_⟩
                      have hB186 := hB178.trans (hb185.mono hB178.size)
                      have hS187 := hS179.join hb185 hM188 hB178.size
                      refine wl_move rfl rfl ?_
                      obtain ⟨u189, hu189, hF⟩ := bindE hF
                      refine wl_call rfl Try.call31 (C_impl_ShiftCues w184 u173 v174 (hS187.own_ro (i := 1) rfl) u181 v182 (hS187.own_ro (i := 0) rfl) x2 _ hu189) rfl ?_
                      rintro _ w192 ⟨v190, F191, rfl, hb193, hM196⟩
                      refine ⟨_, rfl, ?_⟩
                      have hB194 := hB186.trans (hb193.mono hB186.size)
                      have hS195 := hS187.join hb193 hM196 hB186.size
                      refine wl_move rfl rfl ?_
                      refine wl_extract rfl rfl rfl ?_
                      refine wl_extract rfl rfl rfl ?_
                      refine wl_assign rfl rfl ?_
                      refine wl_assign rfl rfl ?_
                      refine WL.nil ?_
                      refine fun a ha => hK172 _ _ ?_ a ha
                      refine W.seq fun K197 hK197 => ?_
                      refine W.seq fun K198 hK198 => ?_
                      obtain ⟨k203, hk203, hF⟩ := jE1 hF
                      have hJ204 : ∀ (y202 : Bool) (w199 : World) (_ : k203 y202 = some r) (_ : Below w0.heap.size w0 w199) (_ : Sep w0.heap.size w199 [R.own ty_56 F71 v70 u150.2]), ∀ a, St 124 [(12, v70), (15, (.int .i64 u150.1)), (115, (.bool y202))] a → K198 a w199 := by
                        intro y202 w199 hF hB200 hS201
                        subst hk203
                        refine fun a ha => hK198 _ _ ?_ a ha
                        refine W.cond rfl (fun h205 => ?_) (fun h205 => ?_)
                        · replace hF := ifP h205 hF
                          refine W.seq fun K206 hK206 => ?_
                          refine W.region ?_
                          refine wl_assign rfl rfl ?_
                          refine WL.nil ?_
                          refine fun a ha => hK206 _ _ ?_ a ha
                          refine W.ret ?_
                          have hr := Option.some.inj hF
                          subst hr
                          exact rets (vs := [(.bool false)]) hQ rfl ⟨rv_tmp rfl, trivial⟩ ⟨rfl, hB200⟩
                        · replace hF := ifN h205 hF
                          refine W.skip ?_
                          refine fun a ha => hK197 _ _ ?_ a ha
                          refine W.seq fun K207 hK207 => ?_
                          refine W.region ?_
                          refine wl_assign rfl rfl ?_
                          refine WL.nil ?_
                          refine fun a ha => hK207 _ _ ?_ a ha
                          refine W.seq fun K208 hK208 => ?_
                          refine W.region ?_
                          refine wl_move rfl rfl ?_
                          refine wl_move rfl rfl ?_
                          obtain ⟨u209, hu209, hF⟩ := bindE hF
                          refine wl_call rfl Try.call34 (C_laws_heldCueS w199 u150.2 v70 (hS201.own_ro (i := 0) rfl) 1 _ hu209) rfl ?_
                          rintro _ w210 ⟨rfl, hb211⟩
                          refine ⟨_, rfl, ?_⟩
                          have hB212 := hB200.trans (hb211.mono hB200.size)
                          have hS213 := hS201.below hb211
                          refine wl_assign rfl rfl ?_
                          refine WL.nil ?_
                          refine fun a ha => hK208 _ _ ?_ a ha
                          refine W.seq fun K215 hK215 => ?_
                          refine W.seq fun K216 hK216 => ?_
                          refine W.region ?_
                          refine wl_move rfl rfl ?_
                          refine wl_lss rfl rfl rfl ?_
                          refine WL.nil ?_
                          refine fun a ha => hK216 _ _ ?_ a ha
                          refine W.cond rfl (fun h217 => ?_) (fun h217 => ?_)
                          · replace hF := ifP h217 hF
                            refine W.seq fun K218 hK218 => ?_
                            refine W.region ?_
                            refine wl_assign rfl rfl ?_
                            refine WL.nil ?_
                            refine fun a ha => hK218 _ _ ?_ a ha
                            refine W.ret ?_
                            have hr := Option.some.inj hF
                            subst hr
                            exact rets (vs := [(.bool false)]) hQ rfl ⟨rv_tmp rfl, trivial⟩ ⟨rfl, hB212⟩
                          · replace hF := ifN h217 hF
                            refine W.skip ?_
                            refine fun a ha => hK215 _ _ ?_ a ha
                            refine W.seq fun K219 hK219 => ?_
                            refine W.seq fun K220 hK220 => ?_
                            refine W.region ?_
                            refine wl_move rfl rfl ?_
                            refine wl_move rfl rfl ?_
                            refine wl_neq rfl rfl rfl ?_
                            refine WL.nil ?_
                            refine fun a ha => hK220 _ _ ?_ a ha
                            refine W.cond rfl (fun h221 => ?_) (fun h221 => ?_)
                            · replace hF := ifP h221 hF
                              refine W.seq fun K222 hK222 => ?_
                              refine W.region ?_
                              refine wl_assign rfl rfl ?_
                              refine WL.nil ?_
                              refine fun a ha => hK222 _ _ ?_ a ha
                              refine W.ret ?_
                              have hr := Option.some.inj hF
                              subst hr
                              exact rets (vs := [(.bool false)]) hQ rfl ⟨rv_tmp rfl, trivial⟩ ⟨rfl, hB212⟩
                            · replace hF := ifN h221 hF
                              refine W.skip ?_
                              refine fun a ha => hK219 _ _ ?_ a ha
                              refine W.seq fun K223 hK223 => ?_
                              refine W.region ?_
                              refine wl_assign rfl rfl ?_
                              refine WL.nil ?_
                              refine fun a ha => hK223 _ _ ?_ a ha
                              refine W.ret ?_
                              have hr := Option.some.inj hF
                              subst hr
                              exact rets (vs := [(.bool true)]) hQ rfl ⟨rv_tmp rfl, trivial⟩ ⟨rfl, hB212⟩
                      refine W.region ?_
                      refine wl_move rfl rfl ?_
                      refine wl_move rfl rfl ?_
                      obtain ⟨u224, hu224, hF⟩ := bindE hF
                      refine wl_call rfl Try.call29 (C_laws_eqCueS w192 u189.1 v190 (hS195.own_ro (i := 0) rfl) u42.1 v43 (hS195.own_ro (i := 4) rfl) _ hu224) rfl ?_
                      rintro _ w225 ⟨rfl, hb226⟩
                      refine ⟨_, rfl, ?_⟩
                      have hB227 := hB194.trans (hb226.mono hB194.size)
                      have hS228 := hS195.below hb226
                      refine wl_not rfl rfl ?_
                      refine wl_move rfl rfl ?_
                      rcases bE (!u224) with h230 | h230
                      · replace hF := ifP h230 hF
                        refine wl_off rfl rfl rfl h230 ?_
                        refine wl_off rfl rfl rfl h230 ?_
                        refine wl_off rfl rfl rfl h230 ?_
                        refine wl_pick_t rfl rfl h230 rfl ?_
                        refine WL.nil ?_
                        exact fun a ha => hJ204 (true) _ hF hB227 (hS228.sel [3] rfl) a (ha.sub ⟨rfl, rfl, rfl, trivial⟩)
                      · replace hF := ifN h230 hF
                        refine wl_on rfl rfl h230 ?_
                        refine wl_move rfl rfl ?_
                        refine wl_on rfl rfl h230 ?_
                        refine wl_move rfl rfl ?_
                        refine wl_on rfl rfl h230 ?_
                        refine wl_neqb Try.underlying4 rfl rfl rfl ?_
                        refine wl_pick_f rfl rfl h230 rfl ?_
                        refine WL.nil ?_
                        exact fun a ha => hJ204 ((u189.2 != u42.2)) _ hF hB227 (hS228.sel [3] rfl) a (ha.sub ⟨rfl, rfl, rfl, trivial⟩)
              refine W.region ?_
              refine wl_move rfl rfl ?_
              refine wl_lss rfl rfl rfl ?_
              refine wl_move rfl rfl ?_
              rcases bE (decide (u132.1 < 0)) with h231 | h231
              · replace hF := ifP h231 hF
                refine wl_off rfl rfl rfl h231 ?_
                refine wl_off rfl rfl rfl h231 ?_
                refine wl_off rfl rfl rfl h231 ?_
                refine wl_off rfl rfl rfl h231 ?_
                refine wl_pick_t rfl rfl h231 rfl ?_
                refine wl_move rfl rfl ?_
                refine wl_off rfl rfl rfl rfl ?_
                refine wl_off rfl rfl rfl rfl ?_
                refine wl_off rfl rfl rfl rfl ?_
                refine wl_pick_t rfl rfl rfl rfl ?_
                refine WL.nil ?_
                exact fun a ha => hJ145 (true) _ hF hB136 (hS137.sel [4, 5] rfl) a (ha.sub ⟨rfl, rfl, rfl, rfl, rfl, rfl, rfl, trivial⟩)
              · replace hF := ifN h231 hF
                refine wl_on rfl rfl h231 ?_
                refine wl_move rfl rfl ?_
                refine wl_on rfl rfl h231 ?_
                refine wl_move rfl rfl ?_
                refine wl_on rfl rfl h231 ?_
                obtain ⟨u232, hu232, hF⟩ := bindE hF
                refine wl_call rfl Try.call29 (C_laws_eqCueS w133 u69.1 v70 (hS137.own_ro (i := 5) rfl) u42.1 v43 (hS137.own_ro (i := 4) rfl) _ hu232) rfl ?_
                rintro _ w233 ⟨rfl, hb234⟩
                refine ⟨_, rfl, ?_⟩
                have hB235 := hB136.trans (hb234.mono hB136.size)
                have hS236 := hS137.below hb234
                refine wl_on rfl rfl h231 ?_
                refine wl_not rfl rfl ?_
                refine wl_pick_f rfl rfl h231 rfl ?_
                refine wl_move rfl rfl ?_
                rcases bE (!u232) with h238 | h238
                · replace hF := ifP h238 hF
                  refine wl_off rfl rfl rfl h238 ?_
                  refine wl_off rfl rfl rfl h238 ?_
                  refine wl_off rfl rfl rfl h238 ?_
                  refine wl_pick_t rfl rfl h238 rfl ?_
                  refine WL.nil ?_
                  exact fun a ha => hJ145 (true) _ hF hB235 (hS236.sel [4, 5] rfl) a (ha.sub ⟨rfl, rfl, rfl, rfl, rfl, rfl, rfl, trivial⟩)
                · replace hF := ifN h238 hF
                  refine wl_on rfl rfl h238 ?_
                  refine wl_move rfl rfl ?_
                  refine wl_on rfl rfl h238 ?_
                  refine wl_move rfl rfl ?_
                  refine wl_on rfl rfl h238 ?_
                  refine wl_neqb Try.underlying4 rfl rfl rfl ?_
                  refine wl_pick_f rfl rfl h238 rfl ?_
                  refine WL.nil ?_
                  exact fun a ha => hJ145 ((u69.2 != u42.2)) _ hF hB235 (hS236.sel [4, 5] rfl) a (ha.sub ⟨rfl, rfl, rfl, rfl, rfl, rfl, rfl, trivial⟩)
      refine W.region ?_
      refine wl_move rfl rfl ?_
      refine wl_move rfl rfl ?_
      obtain ⟨u239, hu239, hF⟩ := bindE hF
      refine wl_call rfl Try.call29 (C_laws_eqCueS w72 u69.1 v70 (hS75.own_ro (i := 0) rfl) u42.1 v43 (hS75.own_ro (i := 3) rfl) _ hu239) rfl ?_
      rintro _ w240 ⟨rfl, hb241⟩
      refine ⟨_, rfl, ?_⟩
      have hB242 := hB74.trans (hb241.mono hB74.size)
      have hS243 := hS75.below hb241
      refine wl_not rfl rfl ?_
      refine wl_move rfl rfl ?_
      rcases bE (!u239) with h245 | h245
      · replace hF := ifP h245 hF
        refine wl_off rfl rfl rfl h245 ?_
        refine wl_off rfl rfl rfl h245 ?_
        refine wl_off rfl rfl rfl h245 ?_
        refine wl_pick_t rfl rfl h245 rfl ?_
        refine WL.nil ?_
        exact fun a ha => hJ84 (true) _ hF hB242 (hS243.sel [3, 2, 1, 0] rfl) a (ha.sub ⟨rfl, rfl, rfl, rfl, rfl, rfl, rfl, rfl, rfl, rfl, trivial⟩)
      · replace hF := ifN h245 hF
        refine wl_on rfl rfl h245 ?_
        refine wl_move rfl rfl ?_
        refine wl_on rfl rfl h245 ?_
        refine wl_move rfl rfl ?_
        refine wl_on rfl rfl h245 ?_
        refine wl_neqb Try.underlying4 rfl rfl rfl ?_
        refine wl_pick_f rfl rfl h245 rfl ?_
        refine WL.nil ?_
        exact fun a ha => hJ84 ((u69.2 != u42.2)) _ hF hB242 (hS243.sel [3, 2, 1, 0] rfl) a (ha.sub ⟨rfl, rfl, rfl, rfl, rfl, rfl, rfl, rfl, rfl, rfl, trivial⟩)
end Go.Proofs.Ytmbhdelegdhieaa
