/-
  THE WALKS of functions of this seat, by program (gen.py, prune.py).
-/
import Derived.Test.YtmkignciedkidaaH
set_option linter.unusedSimpArgs false
set_option linter.unusedVariables false
set_option maxRecDepth 100000
set_option maxHeartbeats 1600000
namespace Go.Proofs.Ytmkignciedkidaa
open Go Go.RowKit
theorem C_spec_l1In (w0 : World) (x0 : Int) (x1 : Int) (x2 : Int) (r : Bool) (hF : F_spec_l1In x0 x1 x2 = some r) :
    Calls Try.prog 138 [(.int .i64 x0), (.int .i64 x1), (.int .i64 x2)].toArray w0 fun e w' => e = .returned (.bool r) ∧ Below w0.heap.size w0 w' := by
  refine calls_mk' Try.func138 rfl Try.ntmps138 rfl rfl fun Q hQ hP => ?_
  have hB : Below w0.heap.size w0 w0 := Below.refl _ _
  have hS : Sep w0.heap.size w0 [] := Sep.nil _ _
  unfold F_spec_l1In at hF
  refine W.seq fun K1 hK1 => ?_
  refine W.region ?_
  refine wl_assign rfl rfl ?_
  refine WL.nil ?_
  refine fun a ha => hK1 _ _ ?_ a ha
  refine W.seq fun K2 hK2 => ?_
  obtain ⟨k7, hk7, hF⟩ := jE1 hF
  have hJ8 : ∀ (y6 : Bool) (w3 : World) (_ : k7 y6 = some r) (_ : Below w0.heap.size w0 w3) (_ : Sep w0.heap.size w3 []), ∀ a, St 15 [(6, (.bool y6))] a → K2 a w3 := by
    intro y6 w3 hF hB4 hS5
    subst hk7
    refine fun a ha => hK2 _ _ ?_ a ha
    refine W.ret ?_
    have hr := Option.some.inj hF
    subst hr
    exact rets (vs := [(.bool y6)]) hQ rfl ⟨rv_tmp rfl, trivial⟩ ⟨rfl, hB4⟩
  refine W.region ?_
  refine wl_move rfl rfl ?_
  refine wl_move rfl rfl ?_
  refine wl_geq rfl rfl rfl ?_
  refine wl_move rfl rfl ?_
  rcases bE (decide (x1 ≤ x0)) with h9 | h9
  · replace hF := ifP h9 hF
    refine wl_on rfl rfl h9 ?_
    refine wl_move rfl rfl ?_
    refine wl_on rfl rfl h9 ?_
    refine wl_move rfl rfl ?_
    refine wl_on rfl rfl h9 ?_
    refine wl_leq rfl rfl rfl ?_
    refine wl_pick_t rfl rfl h9 rfl ?_
    refine wl_assign rfl rfl ?_
    refine WL.nil ?_
    exact fun a ha => hJ8 ((decide (x0 ≤ x2))) _ hF hB (hS.sel [] rfl) a (ha.sub ⟨rfl, trivial⟩)
  · replace hF := ifN h9 hF
    refine wl_off rfl rfl rfl h9 ?_
    refine wl_off rfl rfl rfl h9 ?_
    refine wl_off rfl rfl rfl h9 ?_
    refine wl_pick_f rfl rfl h9 rfl ?_
    refine wl_assign rfl rfl ?_
    refine WL.nil ?_
    exact fun a ha => hJ8 (false) _ hF hB (hS.sel [] rfl) a (ha.sub ⟨rfl, trivial⟩)
theorem C_spec_muMeasure (w0 : World) (x0 : (Int × Int)) (r : Bool) (hF : F_spec_muMeasure x0 = some r) :
    Calls Try.prog 225 [(.agg #[(.int .i64 x0.1), (.int .i64 x0.2)])].toArray w0 fun e w' => e = .returned (.bool r) ∧ Below w0.heap.size w0 w' := by
  refine calls_mk' Try.func225 rfl Try.ntmps225 rfl rfl fun Q hQ hP => ?_
  have hB : Below w0.heap.size w0 w0 := Below.refl _ _
  have hS : Sep w0.heap.size w0 [] := Sep.nil _ _
  unfold F_spec_muMeasure at hF
  refine W.seq fun K1 hK1 => ?_
  refine W.region ?_
  refine wl_box (cs := [(.int .i64 x0.1), (.int .i64 x0.2)]) rfl rfl rfl hB hS ?_
  intro b2 w3 hb4 hB5 hS6
  refine wl_assign rfl rfl ?_
  refine WL.nil ?_
  refine fun a ha => hK1 _ _ ?_ a ha
  refine W.seq fun K7 hK7 => ?_
  obtain ⟨k12, hk12, hF⟩ := jE1 hF
  have hJ13 : ∀ (y11 : Bool) (w8 : World) (_ : k12 y11 = some r) (_ : Below w0.heap.size w0 w8) (_ : Sep w0.heap.size w8 []), ∀ a, St 11 [(2, (.bool y11))] a → K7 a w8 := by
    intro y11 w8 hF hB9 hS10
    subst hk12
    refine fun a ha => hK7 _ _ ?_ a ha
    refine W.ret ?_
    have hr := Option.some.inj hF
    subst hr
    exact rets (vs := [(.bool y11)]) hQ rfl ⟨rv_tmp rfl, trivial⟩ ⟨rfl, hB9⟩
  refine W.region ?_
  refine wl_field (o := 0) (off' := 0) ff_183_0 rfl rfl rfl ?_
  refine wl_load_blk (i := 0) (vs := [(.int .i64 x0.1)]) (v := (.int .i64 x0.1)) tf_3 rfl rfl hS6 rfl rfl rfl ?_
  obtain ⟨u14, hu14, hF⟩ := bindE hF
  refine wl_call rfl Try.call138 (C_spec_l1In w3 x0.1 1 12 _ hu14) rfl ?_
  rintro _ w15 ⟨rfl, hb16⟩
  refine ⟨_, rfl, ?_⟩
  have hB17 := hB5.trans (hb16.mono hB5.size)
  have hS18 := hS6.below hb16
  refine wl_move rfl rfl ?_
  rcases bE u14 with h20 | h20
  · replace hF := ifP h20 hF
    refine wl_on rfl rfl h20 ?_
    refine wl_field (o := 1) (off' := 1) ff_183_1 rfl rfl rfl ?_
    refine wl_on rfl rfl h20 ?_
    refine wl_load_blk (i := 0) (vs := [(.int .i64 x0.2)]) (v := (.int .i64 x0.2)) tf_3 rfl rfl hS18 rfl rfl rfl ?_
    refine wl_on rfl rfl h20 ?_
    obtain ⟨u21, hu21, hF⟩ := bindE hF
    refine wl_call rfl Try.call138 (C_spec_l1In w15 x0.2 40 220 _ hu21) rfl ?_
    rintro _ w22 ⟨rfl, hb23⟩
    refine ⟨_, rfl, ?_⟩
    have hB24 := hB17.trans (hb23.mono hB17.size)
    have hS25 := hS18.below hb23
    refine wl_pick_t rfl rfl h20 rfl ?_
    refine wl_assign rfl rfl ?_
    refine WL.nil ?_
    exact fun a ha => hJ13 (u21) _ hF hB24 (hS25.sel [] rfl) a (ha.sub ⟨rfl, trivial⟩)
  · replace hF := ifN h20 hF
    refine wl_off rfl rfl rfl h20 ?_
    refine wl_off rfl rfl rfl h20 ?_
    refine wl_off rfl rfl rfl h20 ?_
    refine wl_pick_f rfl rfl h20 rfl ?_
    refine wl_assign rfl rfl ?_
    refine WL.nil ?_
    exact fun a ha => hJ13 (false) _ hF hB17 (hS18.sel [] rfl) a (ha.sub ⟨rfl, trivial⟩)
theorem C_spec_muGood (w0 : World) (x0 : (List (Int × Int))) (v0_0 : Value) (h0_0 : rdS ty_183 (· < w0.heap.size) w0 v0_0 x0) (r : Bool) (hF : F_spec_muGood x0 = some r) :
    Calls Try.prog 141 [v0_0].toArray w0 fun e w' => e = .returned (.bool r) ∧ Below w0.heap.size w0 w' := by
  refine calls_mk' Try.func141 rfl Try.ntmps141 rfl rfl fun Q hQ hP => ?_
  have hB : Below w0.heap.size w0 w0 := Below.refl _ _
  have hS : Sep w0.heap.size w0 [] := Sep.nil _ _
  unfold F_spec_muGood at hF
  refine W.seq fun K1 hK1 => ?_
  refine W.region ?_
  refine wl_assign rfl rfl ?_
  refine WL.nil ?_
  refine fun a ha => hK1 _ _ ?_ a ha
  refine W.seq fun K2 hK2 => ?_
  refine W.seq fun K3 hK3 => ?_
  refine W.region ?_
  refine wl_move rfl rfl ?_
  refine wl_lenr (e := ty_183) (l := x0) Try.underlying23 rfl rfl h0_0 ?_
  refine wl_move rfl rfl ?_
  refine WL.nil ?_
  refine fun a ha => hK3 _ _ ?_ a ha
  refine W.block ?_
  refine W.loopk (fun m a w4 => ∃ (y7 : Int), St 18 [(0, v0_0), (5, v0_0), (6, (.int .i64 (List.length x0 : Int))), (7, (.int .i64 y7))] a ∧ Below w0.heap.size w0 w4 ∧ Sep w0.heap.size w4 [] ∧ F_spec_muGood_L1 x0 m y7 = some r) FU ?_ ?_
  ·
    exact fun a ha => ⟨0, ha.sub ⟨rfl, rfl, rfl, rfl, trivial⟩, hB, (hS.sel [] rfl), hF⟩
  ·
    rintro m10 a w4 ⟨y7, ha, hB5, hS6, hF⟩ KL9 hKL9
    refine W.at ?_ ha
    cases m10 with
    | zero => exact noneE hF
    | succ m10 =>
      obtain ⟨nx8, hnx8⟩ : ∃ k, k = F_spec_muGood_L1 x0 m10 := ⟨_, rfl⟩
      rw [F_spec_muGood_L1, ← hnx8] at hF
      refine W.seq fun K11 hK11 => ?_
      refine W.region ?_
      refine wl_lss rfl rfl rfl ?_
      refine WL.nil ?_
      refine fun a ha => hK11 _ _ ?_ a ha
      refine W.seq fun K12 hK12 => ?_
      refine W.cond rfl (fun h13 => ?_) (fun h13 => ?_)
      · replace hF := ifP h13 hF
        refine W.skip ?_
        refine fun a ha => hK12 _ _ ?_ a ha
        refine W.seq fun K14 hK14 => ?_
        refine W.block ?_
        refine W.seq fun K15 hK15 => ?_
        refine W.region ?_
        obtain ⟨u16, hu16, hF⟩ := bindE hF
        refine wl_index (e := ty_183) Try.underlying23 rfl rfl rfl h0_0 hu16 ?_
        rintro p17 _ rfl hp18
        refine wl_load_p (vs := [(.int .i64 u16.1), (.int .i64 u16.2)]) (v := (.agg #[(.int .i64 u16.1), (.int .i64 u16.2)])) tf_183 rfl rfl (hp18.ro hB5) rfl rfl ?_
        refine wl_alloc (cs := [(.int .i64 0), (.int .i64 0)]) tf_183 rfl rfl hB5 hS6 ?_
        intro b19 w20 hb21 hB22 hS23
        refine wl_store_blk (i := 0) (vs := [(.int .i64 u16.1), (.int .i64 u16.2)]) (cs' := [(.int .i64 u16.1), (.int .i64 u16.2)]) tf_183 rfl rfl rfl rfl hB22 hS23 rfl rfl ⟨rfl, rfl, trivial⟩ rfl ?_
        intro w24 hk27 hB25 hS26
        refine WL.nil ?_
        refine fun a ha => hK15 _ _ ?_ a ha
        refine W.seq fun K28 hK28 => ?_
        refine W.region ?_
        refine wl_load_blk (i := 0) (vs := [(.int .i64 u16.1), (.int .i64 u16.2)]) (v := (.agg #[(.int .i64 u16.1), (.int .i64 u16.2)])) tf_183 rfl rfl hS26 rfl rfl rfl ?_
        obtain ⟨u29, hu29, hF⟩ := bindE hF
        refine wl_call rfl Try.call225 (C_spec_muMeasure w24 u16 _ hu29) rfl ?_
        rintro _ w30 ⟨rfl, hb31⟩
        refine ⟨_, rfl, ?_⟩
        have hB32 := hB25.trans (hb31.mono hB25.size)
        have hS33 := hS26.below hb31
        refine wl_not rfl rfl ?_
        refine WL.nil ?_
        refine fun a ha => hK28 _ _ ?_ a ha
        refine W.cond rfl (fun h35 => ?_) (fun h35 => ?_)
        · replace hF := ifP h35 hF
          refine W.seq fun K36 hK36 => ?_
          refine W.region ?_
          refine wl_assign rfl rfl ?_
          refine WL.nil ?_
          refine fun a ha => hK36 _ _ ?_ a ha
          refine W.ret ?_
          have hr := Option.some.inj hF
          subst hr
          exact rets (vs := [(.bool false)]) hQ rfl ⟨rv_tmp rfl, trivial⟩ ⟨rfl, hB32⟩
        · replace hF := ifN h35 hF
          refine W.skip ?_
          refine fun a ha => hK14 _ _ ?_ a ha
          refine W.region ?_
          refine wl_add rfl rfl rfl ?_
          refine wl_move rfl rfl ?_
          refine WL.nil ?_
          rw [hnx8] at hF
          exact fun a ha => hKL9 a _ m10 (Nat.lt_succ_self m10) ⟨(w64 (y7 + 1)), ha.sub ⟨rfl, rfl, rfl, rfl, trivial⟩, hB32, (hS33.sel [] rfl), hF⟩
      · replace hF := ifN h13 hF
        refine W.exit ?_
        refine fun a ha => hK2 _ _ ?_ a ha
        refine W.seq fun K37 hK37 => ?_
        refine W.region ?_
        refine wl_move rfl rfl ?_
        refine wl_lenr (e := ty_183) (l := x0) Try.underlying23 rfl rfl h0_0 ?_
        obtain ⟨u38, hu38, hF⟩ := bindE hF
        refine wl_call rfl Try.call138 (C_spec_l1In w4 (List.length x0 : Int) 1 40 _ hu38) rfl ?_
        rintro _ w39 ⟨rfl, hb40⟩
        refine ⟨_, rfl, ?_⟩
        have hB41 := hB5.trans (hb40.mono hB5.size)
        have hS42 := hS6.below hb40
        refine wl_assign rfl rfl ?_
        refine WL.nil ?_
        refine fun a ha => hK37 _ _ ?_ a ha
        refine W.ret ?_
        have hr := Option.some.inj hF
        subst hr
        exact rets (vs := [(.bool u38)]) hQ rfl ⟨rv_tmp rfl, trivial⟩ ⟨rfl, hB41⟩
theorem C_spec_muCounts (w0 : World) (x0 : (List (Int × Int))) (v0_0 : Value) (h0_0 : rdS ty_183 (· < w0.heap.size) w0 v0_0 x0) (r : Int) (hF : F_spec_muCounts x0 = some r) :
    Calls Try.prog 125 [v0_0].toArray w0 fun e w' => e = .returned (.int .i64 r) ∧ Below w0.heap.size w0 w' := by
  refine calls_mk' Try.func125 rfl Try.ntmps125 rfl rfl fun Q hQ hP => ?_
  have hB : Below w0.heap.size w0 w0 := Below.refl _ _
  have hS : Sep w0.heap.size w0 [] := Sep.nil _ _
  unfold F_spec_muCounts at hF
  refine W.seq fun K1 hK1 => ?_
  refine W.region ?_
  refine wl_assign rfl rfl ?_
  refine WL.nil ?_
  refine fun a ha => hK1 _ _ ?_ a ha
  refine W.seq fun K2 hK2 => ?_
  refine W.region ?_
  refine wl_assign rfl rfl ?_
  refine WL.nil ?_
  refine fun a ha => hK2 _ _ ?_ a ha
  refine W.seq fun K3 hK3 => ?_
  refine W.seq fun K4 hK4 => ?_
  refine W.region ?_
  refine wl_move rfl rfl ?_
  refine wl_lenr (e := ty_183) (l := x0) Try.underlying23 rfl rfl h0_0 ?_
  refine wl_move rfl rfl ?_
  refine WL.nil ?_
  refine fun a ha => hK4 _ _ ?_ a ha
  refine W.block ?_
  refine W.loopk (fun m a w5 => ∃ (y8 : Int) (y9 : Int), St 18 [(3, (.int .i64 y8)), (6, v0_0), (7, (.int .i64 (List.length x0 : Int))), (8, (.int .i64 y9))] a ∧ Below w0.heap.size w0 w5 ∧ Sep w0.heap.size w5 [] ∧ F_spec_muCounts_L1 x0 m y8 y9 = some r) FU ?_ ?_
  ·
    exact fun a ha => ⟨0, 0, ha.sub ⟨rfl, rfl, rfl, rfl, trivial⟩, hB, (hS.sel [] rfl), hF⟩
  ·
    rintro m12 a w5 ⟨y8, y9, ha, hB6, hS7, hF⟩ KL11 hKL11
    refine W.at ?_ ha
    cases m12 with
    | zero => exact noneE hF
    | succ m12 =>
      obtain ⟨nx10, hnx10⟩ : ∃ k, k = F_spec_muCounts_L1 x0 m12 := ⟨_, rfl⟩
      rw [F_spec_muCounts_L1, ← hnx10] at hF
      refine W.seq fun K13 hK13 => ?_
      refine W.region ?_
      refine wl_lss rfl rfl rfl ?_
      refine WL.nil ?_
      refine fun a ha => hK13 _ _ ?_ a ha
      refine W.seq fun K14 hK14 => ?_
      refine W.cond rfl (fun h15 => ?_) (fun h15 => ?_)
      · replace hF := ifP h15 hF
        refine W.skip ?_
        refine fun a ha => hK14 _ _ ?_ a ha
        refine W.seq fun K16 hK16 => ?_
        refine W.block ?_
        refine W.seq fun K17 hK17 => ?_
        refine W.region ?_
        obtain ⟨u18, hu18, hF⟩ := bindE hF
        refine wl_index (e := ty_183) Try.underlying23 rfl rfl rfl h0_0 hu18 ?_
        rintro p19 _ rfl hp20
        refine wl_load_p (vs := [(.int .i64 u18.1), (.int .i64 u18.2)]) (v := (.agg #[(.int .i64 u18.1), (.int .i64 u18.2)])) tf_183 rfl rfl (hp20.ro hB6) rfl rfl ?_
        refine wl_alloc (cs := [(.int .i64 0), (.int .i64 0)]) tf_183 rfl rfl hB6 hS7 ?_
        intro b21 w22 hb23 hB24 hS25
        refine wl_store_blk (i := 0) (vs := [(.int .i64 u18.1), (.int .i64 u18.2)]) (cs' := [(.int .i64 u18.1), (.int .i64 u18.2)]) tf_183 rfl rfl rfl rfl hB24 hS25 rfl rfl ⟨rfl, rfl, trivial⟩ rfl ?_
        intro w26 hk29 hB27 hS28
        refine WL.nil ?_
        refine fun a ha => hK17 _ _ ?_ a ha
        refine W.region ?_
        refine wl_move rfl rfl ?_
        refine wl_field (o := 0) (off' := 0) ff_183_0 rfl rfl rfl ?_
        refine wl_load_blk (i := 0) (vs := [(.int .i64 u18.1)]) (v := (.int .i64 u18.1)) tf_3 rfl rfl hS28 rfl rfl rfl ?_
        refine wl_add rfl rfl rfl ?_
        refine wl_assign rfl rfl ?_
        refine WL.nil ?_
        refine fun a ha => hK16 _ _ ?_ a ha
        refine W.region ?_
        refine wl_add rfl rfl rfl ?_
        refine wl_move rfl rfl ?_
        refine WL.nil ?_
        rw [hnx10] at hF
        exact fun a ha => hKL11 a _ m12 (Nat.lt_succ_self m12) ⟨(w64 (y8 + u18.1)), (w64 (y9 + 1)), ha.sub ⟨rfl, rfl, rfl, rfl, trivial⟩, hB27, (hS28.sel [] rfl), hF⟩
      · replace hF := ifN h15 hF
        refine W.exit ?_
        refine fun a ha => hK3 _ _ ?_ a ha
        refine W.seq fun K30 hK30 => ?_
        refine W.region ?_
        refine wl_move rfl rfl ?_
        refine wl_assign rfl rfl ?_
        refine WL.nil ?_
        refine fun a ha => hK30 _ _ ?_ a ha
        refine W.ret ?_
        have hr := Option.some.inj hF
        subst hr
        exact rets (vs := [(.int .i64 y8)]) hQ rfl ⟨rv_tmp rfl, trivial⟩ ⟨rfl, hB6⟩
theorem C_spec_l1Cur__next__mut__box (w0 : World) (x0 : ((List Int) × Int × Int)) (b0 : Nat) (v0_0 : Value) (h0_0 : rdS ty_5 (Out (fps [R.blk b0 131 [v0_0, (.int .i64 x0.2.1), (.int .u64 x0.2.2)]]) w0) w0 v0_0 x0.1) (hS0 : Sep 0 w0 [R.blk b0 131 [v0_0, (.int .i64 x0.2.1), (.int .u64 x0.2.2)]]) (r : (Int × ((List Int) × Int × Int))) (hF : F_spec_l1Cur__next__mut__box x0 = some r) :
    Calls Try.prog 221 [(.pointer (some ⟨b0, 0, none⟩))].toArray w0 fun e w' => e = .returned (.int .i64 r.1) ∧ Below 0 (wE w0) w' ∧ Sep 0 w' [R.rest w0 (fps [R.blk b0 131 [v0_0, (.int .i64 x0.2.1), (.int .u64 x0.2.2)]]), R.blk b0 131 [v0_0, (.int .i64 r.2.2.1), (.int .u64 r.2.2.2)]] := by
  refine calls_mk' Try.func221 rfl Try.ntmps221 rfl rfl fun Q hQ hP => ?_
  have hB : Below (wE w0).heap.size (wE w0) w0 := wE_below w0
  have hS : Sep (wE w0).heap.size w0 [R.rest w0 (fps [R.blk b0 131 [v0_0, (.int .i64 x0.2.1), (.int .u64 x0.2.2)]]), R.blk b0 131 [v0_0, (.int .i64 x0.2.1), (.int .u64 x0.2.2)]] := hS0.rest
  unfold F_spec_l1Cur__next__mut__box at hF
  refine W.seq fun K1 hK1 => ?_
  refine W.region ?_
  refine wl_assign rfl rfl ?_
  refine WL.nil ?_
  refine fun a ha => hK1 _ _ ?_ a ha
  refine W.seq fun K2 hK2 => ?_
  refine W.region ?_
  refine wl_assign rfl rfl ?_
  refine WL.nil ?_
  refine fun a ha => hK2 _ _ ?_ a ha
  refine W.seq fun K3 hK3 => ?_
  obtain ⟨k8, hk8, hF⟩ := jE1 hF
  have hJ9 : ∀ (y7 : Int) (w4 : World) (_ : k8 y7 = some r) (_ : Below (wE w0).heap.size (wE w0) w4) (_ : Sep (wE w0).heap.size w4 [R.rest w0 (fps [R.blk b0 131 [v0_0, (.int .i64 x0.2.1), (.int .u64 x0.2.2)]]), R.blk b0 131 [v0_0, (.int .i64 x0.2.1), (.int .u64 x0.2.2)]]), ∀ a, St 62 [(0, (.pointer (some ⟨b0, 0, none⟩))), (3, (.int .i64 y7))] a → K3 a w4 := by
    intro y7 w4 hF hB5 hS6
    subst hk8
    refine fun a ha => hK3 _ _ ?_ a ha
    refine W.seq fun K10 hK10 => ?_
    refine W.region ?_
    refine wl_move rfl rfl ?_
    refine wl_nilCheck rfl rfl ?_
    refine wl_field (o := 1) (off' := 1) ff_131_1 rfl rfl rfl ?_
    refine wl_load_blk (i := 1) (vs := [(.int .i64 x0.2.1)]) (v := (.int .i64 x0.2.1)) tf_3 rfl rfl hS6 rfl rfl rfl ?_
    refine wl_add rfl rfl rfl ?_
    refine wl_nilCheck rfl rfl ?_
    refine wl_field (o := 1) (off' := 1) ff_131_1 rfl rfl rfl ?_
    refine wl_store_blk (i := 1) (vs := [(.int .i64 (w64 (x0.2.1 + 1)))]) (cs' := [v0_0, (.int .i64 (w64 (x0.2.1 + 1))), (.int .u64 x0.2.2)]) tf_3 rfl rfl rfl rfl hB5 hS6 rfl rfl ⟨rfl, trivial⟩ rfl ?_
    intro w11 hk14 hB12 hS13
    refine WL.nil ?_
    refine fun a ha => hK10 _ _ ?_ a ha
    refine W.seq fun K15 hK15 => ?_
    refine W.region ?_
    refine wl_move rfl rfl ?_
    refine wl_move rfl rfl ?_
    refine wl_nilCheck rfl rfl ?_
    refine wl_field (o := 2) (off' := 2) ff_131_2 rfl rfl rfl ?_
    refine wl_load_blk (i := 1) (vs := [(.int .u64 x0.2.2)]) (v := (.int .u64 x0.2.2)) tf_129 rfl rfl hS13 rfl rfl rfl ?_
    refine wl_mul rfl rfl rfl ?_
    refine wl_move rfl rfl ?_
    refine wl_convi Try.underlying3 Try.underlying129 rfl rfl ?_
    refine wl_add rfl rfl rfl ?_
    refine wl_add rfl rfl rfl ?_
    refine wl_nilCheck rfl rfl ?_
    refine wl_field (o := 2) (off' := 2) ff_131_2 rfl rfl rfl ?_
    refine wl_store_blk (i := 1) (vs := [(.int .u64 (wu64 ((wu64 ((wu64 (x0.2.2 * 6364136223846793005)) + (wu64 y7))) + 1442695040888963407)))]) (cs' := [v0_0, (.int .i64 (w64 (x0.2.1 + 1))), (.int .u64 (wu64 ((wu64 ((wu64 (x0.2.2 * 6364136223846793005)) + (wu64 y7))) + 1442695040888963407)))]) tf_129 rfl rfl rfl rfl hB12 hS13 rfl rfl ⟨rfl, trivial⟩ rfl ?_
    intro w16 hk19 hB17 hS18
    refine WL.nil ?_
    refine fun a ha => hK15 _ _ ?_ a ha
    refine W.seq fun K20 hK20 => ?_
    refine W.seq fun K21 hK21 => ?_
    refine W.regionH mixed_ [] hB17 hS18 ?_
    intro w22 hb23 hB24 hS25
    have hSW26 := KeepX.refl w22 []
    refine WH.takex (i := 0) rfl (by kernel_rfl) (by kernel_rfl) (by kernel_rfl) hP hSW26 ?_
    refine pr_move rfl rfl ?_
    refine WH.takex (i := 1) rfl (by kernel_rfl) (by kernel_rfl) (by kernel_rfl) hP hSW26 ?_
    refine pr_nilCheck rfl rfl ?_
    refine WH.takex (i := 2) rfl (by kernel_rfl) (by kernel_rfl) (by kernel_rfl) hP hSW26 ?_
    refine pr_field (o := 1) (off' := 1) ff_131_1 rfl rfl rfl ?_
    refine WH.takex (i := 3) rfl (by kernel_rfl) (by kernel_rfl) (by kernel_rfl) hP hSW26 ?_
    refine pr_load_blk (i := 1) (vs := [(.int .i64 (w64 (x0.2.1 + 1)))]) (v := (.int .i64 (w64 (x0.2.1 + 1)))) tf_3 rfl rfl hS25 rfl rfl rfl (by simp) ?_
    refine WH.takex (i := 4) rfl (by kernel_rfl) (by kernel_rfl) (by kernel_rfl) hP hSW26 ?_
    refine pr_move rfl rfl ?_
    refine WH.takex (i := 5) rfl (by kernel_rfl) (by kernel_rfl) (by kernel_rfl) hP hSW26 ?_
    refine pr_nilCheck rfl rfl ?_
    refine WH.takex (i := 6) rfl (by kernel_rfl) (by kernel_rfl) (by kernel_rfl) hP hSW26 ?_
    refine pr_field (o := 0) (off' := 0) ff_131_0 rfl rfl rfl ?_
    refine WH.takex (i := 7) rfl (by kernel_rfl) (by kernel_rfl) (by kernel_rfl) hP hSW26 ?_
    refine pr_load_blk (i := 1) (vs := [v0_0]) (v := v0_0) tf_22 rfl rfl hS25 rfl rfl rfl (by simp) ?_
    refine WH.takex (i := 8) rfl (by kernel_rfl) (by kernel_rfl) (by kernel_rfl) hP hSW26 ?_
    refine pr_lenr (e := ty_5) (l := x0.1) Try.underlying22 rfl rfl h0_0 ?_
    refine WH.takex (i := 9) rfl (by kernel_rfl) (by kernel_rfl) (by kernel_rfl) hP hSW26 ?_
    refine pr_leq rfl rfl rfl ?_
    refine WH.done (by kernel_rfl) ?_
    refine fun a ha => hK21 _ _ ?_ a ha
    refine W.cond rfl (fun h27 => ?_) (fun h27 => ?_)
    · replace hF := ifP h27 hF
      refine W.seq fun K28 hK28 => ?_
      refine W.region ?_
      refine wl_move rfl rfl ?_
      refine wl_assign rfl rfl ?_
      refine WL.nil ?_
      refine fun a ha => hK28 _ _ ?_ a ha
      refine W.ret ?_
      have hr := Option.some.inj hF
      subst hr
      exact rets (vs := [(.int .i64 y7)]) hQ rfl ⟨rv_tmp rfl, trivial⟩ ⟨rfl, hB24, hS25.sel [0, 1] rfl⟩
    · replace hF := ifN h27 hF
      refine W.skip ?_
      refine fun a ha => hK20 _ _ ?_ a ha
      refine W.seq fun K29 hK29 => ?_
      refine W.region ?_
      refine wl_move rfl rfl ?_
      refine wl_nilCheck rfl rfl ?_
      refine wl_field (o := 2) (off' := 2) ff_131_2 rfl rfl rfl ?_
      refine wl_load_blk (i := 1) (vs := [(.int .u64 (wu64 ((wu64 ((wu64 (x0.2.2 * 6364136223846793005)) + (wu64 y7))) + 1442695040888963407)))]) (v := (.int .u64 (wu64 ((wu64 ((wu64 (x0.2.2 * 6364136223846793005)) + (wu64 y7))) + 1442695040888963407)))) tf_129 rfl rfl hS25 rfl rfl rfl ?_
      refine wl_shr rfl rfl rfl rfl ?_
      refine wl_and rfl rfl rfl ?_
      refine wl_convi Try.underlying129 Try.underlying3 rfl rfl ?_
      refine wl_assign rfl rfl ?_
      refine WL.nil ?_
      refine fun a ha => hK29 _ _ ?_ a ha
      refine W.ret ?_
      have hr := Option.some.inj hF
      subst hr
      exact rets (vs := [(.int .i64 (w64 (andK .u64 (shrK .u64 (wu64 ((wu64 ((wu64 (x0.2.2 * 6364136223846793005)) + (wu64 y7))) + 1442695040888963407)) 40) 255)))]) hQ rfl ⟨rv_tmp rfl, trivial⟩ ⟨rfl, hB24, hS25.sel [0, 1] rfl⟩
  refine W.seq fun K30 hK30 => ?_
  refine W.regionH mixed_ [] hB hS ?_
  intro w31 hb32 hB33 hS34
  have hSW35 := KeepX.refl w31 []
  refine WH.takex (i := 0) rfl (by kernel_rfl) (by kernel_rfl) (by kernel_rfl) hP hSW35 ?_
  refine pr_move rfl rfl ?_
  refine WH.takex (i := 1) rfl (by kernel_rfl) (by kernel_rfl) (by kernel_rfl) hP hSW35 ?_
  refine pr_nilCheck rfl rfl ?_
  refine WH.takex (i := 2) rfl (by kernel_rfl) (by kernel_rfl) (by kernel_rfl) hP hSW35 ?_
  refine pr_field (o := 1) (off' := 1) ff_131_1 rfl rfl rfl ?_
  refine WH.takex (i := 3) rfl (by kernel_rfl) (by kernel_rfl) (by kernel_rfl) hP hSW35 ?_
  refine pr_load_blk (i := 1) (vs := [(.int .i64 x0.2.1)]) (v := (.int .i64 x0.2.1)) tf_3 rfl rfl hS34 rfl rfl rfl (by simp) ?_
  refine WH.takex (i := 4) rfl (by kernel_rfl) (by kernel_rfl) (by kernel_rfl) hP hSW35 ?_
  refine pr_move rfl rfl ?_
  refine WH.takex (i := 5) rfl (by kernel_rfl) (by kernel_rfl) (by kernel_rfl) hP hSW35 ?_
  refine pr_nilCheck rfl rfl ?_
  refine WH.takex (i := 6) rfl (by kernel_rfl) (by kernel_rfl) (by kernel_rfl) hP hSW35 ?_
  refine pr_field (o := 0) (off' := 0) ff_131_0 rfl rfl rfl ?_
  refine WH.takex (i := 7) rfl (by kernel_rfl) (by kernel_rfl) (by kernel_rfl) hP hSW35 ?_
  refine pr_load_blk (i := 1) (vs := [v0_0]) (v := v0_0) tf_22 rfl rfl hS34 rfl rfl rfl (by simp) ?_
  refine WH.takex (i := 8) rfl (by kernel_rfl) (by kernel_rfl) (by kernel_rfl) hP hSW35 ?_
  refine pr_lenr (e := ty_5) (l := x0.1) Try.underlying22 rfl rfl h0_0 ?_
  refine WH.takex (i := 9) rfl (by kernel_rfl) (by kernel_rfl) (by kernel_rfl) hP hSW35 ?_
  refine pr_lss rfl rfl rfl ?_
  refine WH.done (by kernel_rfl) ?_
  refine fun a ha => hK30 _ _ ?_ a ha
  refine W.cond rfl (fun h36 => ?_) (fun h36 => ?_)
  · replace hF := ifP h36 hF
    refine W.regionH mixed_ [] hB33 hS34 ?_
    intro w37 hb38 hB39 hS40
    have hSW41 := KeepX.refl w37 []
    refine WH.takex (i := 0) rfl (by kernel_rfl) (by kernel_rfl) (by kernel_rfl) hP hSW41 ?_
    refine pr_move rfl rfl ?_
    refine WH.takex (i := 1) rfl (by kernel_rfl) (by kernel_rfl) (by kernel_rfl) hP hSW41 ?_
    refine pr_nilCheck rfl rfl ?_
    refine WH.takex (i := 2) rfl (by kernel_rfl) (by kernel_rfl) (by kernel_rfl) hP hSW41 ?_
    refine pr_field (o := 0) (off' := 0) ff_131_0 rfl rfl rfl ?_
    refine WH.takex (i := 3) rfl (by kernel_rfl) (by kernel_rfl) (by kernel_rfl) hP hSW41 ?_
    refine pr_load_blk (i := 1) (vs := [v0_0]) (v := v0_0) tf_22 rfl rfl hS40 rfl rfl rfl (by simp) ?_
    refine WH.takex (i := 4) rfl (by kernel_rfl) (by kernel_rfl) (by kernel_rfl) hP hSW41 ?_
    refine pr_move rfl rfl ?_
    refine WH.takex (i := 5) rfl (by kernel_rfl) (by kernel_rfl) (by kernel_rfl) hP hSW41 ?_
    refine pr_nilCheck rfl rfl ?_
    refine WH.takex (i := 6) rfl (by kernel_rfl) (by kernel_rfl) (by kernel_rfl) hP hSW41 ?_
    refine pr_field (o := 1) (off' := 1) ff_131_1 rfl rfl rfl ?_
    refine WH.takex (i := 7) rfl (by kernel_rfl) (by kernel_rfl) (by kernel_rfl) hP hSW41 ?_
    refine pr_load_blk (i := 1) (vs := [(.int .i64 x0.2.1)]) (v := (.int .i64 x0.2.1)) tf_3 rfl rfl hS40 rfl rfl rfl (by simp) ?_
    obtain ⟨u42, hu42, hF⟩ := bindE hF
    refine WH.takex (i := 8) rfl (by kernel_rfl) (by kernel_rfl) (by kernel_rfl) hP hSW41 ?_
    refine pr_index (e := ty_5) Try.underlying22 rfl rfl rfl h0_0 hu42 ?_
    rintro p43 _ rfl hp44
    refine WH.takex (i := 9) rfl (by kernel_rfl) (by kernel_rfl) (by kernel_rfl) hP hSW41 ?_
    refine pr_load_p (vs := [(.int .u8 u42)]) (v := (.int .u8 u42)) tf_5 rfl rfl (hp44.kxr (i := 0) hS40 rfl (fun b hb => (by simp))) rfl rfl ?_
    refine WH.takex (i := 10) rfl (by kernel_rfl) (by kernel_rfl) (by kernel_rfl) hP hSW41 ?_
    refine pr_convi Try.underlying5 Try.underlying3 rfl rfl ?_
    refine WH.takex (i := 11) rfl (by kernel_rfl) (by kernel_rfl) (by kernel_rfl) hP hSW41 ?_
    refine pr_assign rfl rfl ?_
    refine WH.done (by kernel_rfl) ?_
    exact fun a ha => hJ9 ((w64 u42)) _ hF hB39 (hS40.sel [0, 1] rfl) a (ha.sub ⟨rfl, rfl, trivial⟩)
  · replace hF := ifN h36 hF
    refine W.skip ?_
    exact fun a ha => hJ9 (0) _ hF hB33 (hS34.sel [0, 1] rfl) a (ha.sub ⟨rfl, rfl, trivial⟩)
theorem C_spec_l1Cur__pick__mut__box (w0 : World) (x0 : ((List Int) × Int × Int)) (b0 : Nat) (v0_0 : Value) (h0_0 : rdS ty_5 (Out (fps [R.blk b0 131 [v0_0, (.int .i64 x0.2.1), (.int .u64 x0.2.2)]]) w0) w0 v0_0 x0.1) (x1 : Int) (hS0 : Sep 0 w0 [R.blk b0 131 [v0_0, (.int .i64 x0.2.1), (.int .u64 x0.2.2)]]) (r : (Int × ((List Int) × Int × Int))) (hF : F_spec_l1Cur__pick__mut__box x0 x1 = some r) :
    Calls Try.prog 132 [(.pointer (some ⟨b0, 0, none⟩)), (.int .i64 x1)].toArray w0 fun e w' => e = .returned (.int .i64 r.1) ∧ Below 0 (wE w0) w' ∧ Sep 0 w' [R.rest w0 (fps [R.blk b0 131 [v0_0, (.int .i64 x0.2.1), (.int .u64 x0.2.2)]]), R.blk b0 131 [v0_0, (.int .i64 r.2.2.1), (.int .u64 r.2.2.2)]] := by
  refine calls_mk' Try.func132 rfl Try.ntmps132 rfl rfl fun Q hQ hP => ?_
  have hB : Below (wE w0).heap.size (wE w0) w0 := wE_below w0
  have hS : Sep (wE w0).heap.size w0 [R.rest w0 (fps [R.blk b0 131 [v0_0, (.int .i64 x0.2.1), (.int .u64 x0.2.2)]]), R.blk b0 131 [v0_0, (.int .i64 x0.2.1), (.int .u64 x0.2.2)]] := hS0.rest
  unfold F_spec_l1Cur__pick__mut__box at hF
  refine W.seq fun K1 hK1 => ?_
  refine W.region ?_
  refine wl_assign rfl rfl ?_
  refine WL.nil ?_
  refine fun a ha => hK1 _ _ ?_ a ha
  refine W.seq fun K2 hK2 => ?_
  refine W.seq fun K3 hK3 => ?_
  refine W.region ?_
  refine wl_move rfl rfl ?_
  refine wl_leq rfl rfl rfl ?_
  refine WL.nil ?_
  refine fun a ha => hK3 _ _ ?_ a ha
  refine W.cond rfl (fun h4 => ?_) (fun h4 => ?_)
  · replace hF := ifP h4 hF
    refine W.seq fun K5 hK5 => ?_
    refine W.region ?_
    refine wl_assign rfl rfl ?_
    refine WL.nil ?_
    refine fun a ha => hK5 _ _ ?_ a ha
    refine W.ret ?_
    have hr := Option.some.inj hF
    subst hr
    exact rets (vs := [(.int .i64 0)]) hQ rfl ⟨rv_tmp rfl, trivial⟩ ⟨rfl, hB, hS.sel [0, 1] rfl⟩
  · replace hF := ifN h4 hF
    refine W.skip ?_
    refine fun a ha => hK2 _ _ ?_ a ha
    refine W.seq fun K6 hK6 => ?_
    refine W.region ?_
    refine wl_move rfl rfl ?_
    obtain ⟨u7, hu7, hF⟩ := bindE hF
    refine wl_call rfl Try.call221 (C_spec_l1Cur__next__mut__box w0 x0 b0 v0_0 (h0_0.rsto (hS.sel [0, 1] rfl)) (hS.sel [1] rfl).base0 _ hu7) rfl ?_
    rintro _ w8 ⟨rfl, hE9, hM10⟩
    refine ⟨_, rfl, ?_⟩
    have hB11 := hS.takeB [1] rfl (M := [R.blk b0 131 [v0_0, (.int .i64 x0.2.1), (.int .u64 x0.2.2)]]) rfl hB hE9 hM10
    have hS12 : Sep (wE w0).heap.size w8 [R.blk b0 131 [v0_0, (.int .i64 u7.2.2.1), (.int .u64 u7.2.2.2)], R.rest w0 (fps [R.blk b0 131 [v0_0, (.int .i64 x0.2.1), (.int .u64 x0.2.2)]])] := hS.take [1] [0] rfl (M := [R.blk b0 131 [v0_0, (.int .i64 x0.2.1), (.int .u64 x0.2.2)]]) rfl hM10 hB.size
    refine wl_assign rfl rfl ?_
    refine WL.nil ?_
    refine fun a ha => hK6 _ _ ?_ a ha
    refine W.seq fun K13 hK13 => ?_
    obtain ⟨k20, hk20, hF⟩ := jE3 hF
    have hJ21 : ∀ (y17 : Int) (y18 : Int) (y19 : Int) (w14 : World) (_ : k20 y17 y18 y19 = some r) (_ : Below (wE w0).heap.size (wE w0) w14) (_ : Sep (wE w0).heap.size w14 [R.rest w0 (fps [R.blk b0 131 [v0_0, (.int .i64 x0.2.1), (.int .u64 x0.2.2)]]), R.blk b0 131 [v0_0, (.int .i64 y17), (.int .u64 y18)]]), ∀ a, St 20 [(1, (.int .i64 x1)), (5, (.int .i64 y19))] a → K13 a w14 := by
      intro y17 y18 y19 w14 hF hB15 hS16
      subst hk20
      refine fun a ha => hK13 _ _ ?_ a ha
      refine W.seq fun K22 hK22 => ?_
      refine W.region ?_
      refine wl_move rfl rfl ?_
      refine wl_move rfl rfl ?_
      have h23 : x1 ≠ 0 := fun h23 => noneE (ifP h23 hF)
      replace hF := ifNP h23 hF
      refine wl_rem rfl rfl rfl h23 ?_
      refine wl_assign rfl rfl ?_
      refine WL.nil ?_
      refine fun a ha => hK22 _ _ ?_ a ha
      refine W.ret ?_
      have hr := Option.some.inj hF
      subst hr
      exact rets (vs := [(.int .i64 (Int.tmod y19 x1))]) hQ rfl ⟨rv_tmp rfl, trivial⟩ ⟨rfl, hB15, hS16.sel [0, 1] rfl⟩
    refine W.seq fun K24 hK24 => ?_
    refine W.region ?_
    refine wl_move rfl rfl ?_
    refine wl_gtr rfl rfl rfl ?_
    refine WL.nil ?_
    refine fun a ha => hK24 _ _ ?_ a ha
    refine W.cond rfl (fun h25 => ?_) (fun h25 => ?_)
    · replace hF := ifP h25 hF
      refine W.region ?_
      refine wl_move rfl rfl ?_
      refine wl_mul rfl rfl rfl ?_
      refine wl_move rfl rfl ?_
      obtain ⟨u26, hu26, hF⟩ := bindE hF
      refine wl_call rfl Try.call221 (C_spec_l1Cur__next__mut__box w8 (x0.1, u7.2.2.1, u7.2.2.2) b0 v0_0 (h0_0.rsto (hS12.sel [1, 0] rfl)) (hS12.sel [0] rfl).base0 _ hu26) rfl ?_
      rintro _ w27 ⟨rfl, hE28, hM29⟩
      refine ⟨_, rfl, ?_⟩
      have hB30 := hS12.takeB [0] rfl (M := [R.blk b0 131 [v0_0, (.int .i64 u7.2.2.1), (.int .u64 u7.2.2.2)]]) rfl hB11 hE28 hM29
      have hS31 : Sep (wE w0).heap.size w27 [R.blk b0 131 [v0_0, (.int .i64 u26.2.2.1), (.int .u64 u26.2.2.2)], R.rest w0 (fps [R.blk b0 131 [v0_0, (.int .i64 x0.2.1), (.int .u64 x0.2.2)]])] := hS12.take [0] [1] rfl (M := [R.blk b0 131 [v0_0, (.int .i64 u7.2.2.1), (.int .u64 u7.2.2.2)]]) rfl hM29 hB11.size
      refine wl_add rfl rfl rfl ?_
      refine wl_assign rfl rfl ?_
      refine WL.nil ?_
      exact fun a ha => hJ21 (u26.2.2.1) (u26.2.2.2) ((w64 ((w64 (u7.1 * 256)) + u26.1))) _ hF hB30 (hS31.sel [1, 0] rfl) a (ha.sub ⟨rfl, rfl, trivial⟩)
    · replace hF := ifN h25 hF
      refine W.skip ?_
      exact fun a ha => hJ21 (u7.2.2.1) (u7.2.2.2) (u7.1) _ hF hB11 (hS12.sel [1, 0] rfl) a (ha.sub ⟨rfl, rfl, trivial⟩)
theorem C_spec_l1Cur__one__mut__box (w0 : World) (x0 : ((List Int) × Int × Int)) (b0 : Nat) (v0_0 : Value) (h0_0 : rdS ty_5 (Out (fps [R.blk b0 131 [v0_0, (.int .i64 x0.2.1), (.int .u64 x0.2.2)]]) w0) w0 v0_0 x0.1) (x1 : Int) (hS0 : Sep 0 w0 [R.blk b0 131 [v0_0, (.int .i64 x0.2.1), (.int .u64 x0.2.2)]]) (r : (Bool × ((List Int) × Int × Int))) (hF : F_spec_l1Cur__one__mut__box x0 x1 = some r) :
    Calls Try.prog 130 [(.pointer (some ⟨b0, 0, none⟩)), (.int .i64 x1)].toArray w0 fun e w' => e = .returned (.bool r.1) ∧ Below 0 (wE w0) w' ∧ Sep 0 w' [R.rest w0 (fps [R.blk b0 131 [v0_0, (.int .i64 x0.2.1), (.int .u64 x0.2.2)]]), R.blk b0 131 [v0_0, (.int .i64 r.2.2.1), (.int .u64 r.2.2.2)]] := by
  refine calls_mk' Try.func130 rfl Try.ntmps130 rfl rfl fun Q hQ hP => ?_
  have hB : Below (wE w0).heap.size (wE w0) w0 := wE_below w0
  have hS : Sep (wE w0).heap.size w0 [R.rest w0 (fps [R.blk b0 131 [v0_0, (.int .i64 x0.2.1), (.int .u64 x0.2.2)]]), R.blk b0 131 [v0_0, (.int .i64 x0.2.1), (.int .u64 x0.2.2)]] := hS0.rest
  unfold F_spec_l1Cur__one__mut__box at hF
  refine W.seq fun K1 hK1 => ?_
  refine W.region ?_
  refine wl_assign rfl rfl ?_
  refine WL.nil ?_
  refine fun a ha => hK1 _ _ ?_ a ha
  refine W.seq fun K2 hK2 => ?_
  refine W.region ?_
  refine wl_move rfl rfl ?_
  refine wl_move rfl rfl ?_
  obtain ⟨u3, hu3, hF⟩ := bindE hF
  refine wl_call rfl Try.call132 (C_spec_l1Cur__pick__mut__box w0 x0 b0 v0_0 (h0_0.rsto (hS.sel [0, 1] rfl)) x1 (hS.sel [1] rfl).base0 _ hu3) rfl ?_
  rintro _ w4 ⟨rfl, hE5, hM6⟩
  refine ⟨_, rfl, ?_⟩
  have hB7 := hS.takeB [1] rfl (M := [R.blk b0 131 [v0_0, (.int .i64 x0.2.1), (.int .u64 x0.2.2)]]) rfl hB hE5 hM6
  have hS8 : Sep (wE w0).heap.size w4 [R.blk b0 131 [v0_0, (.int .i64 u3.2.2.1), (.int .u64 u3.2.2.2)], R.rest w0 (fps [R.blk b0 131 [v0_0, (.int .i64 x0.2.1), (.int .u64 x0.2.2)]])] := hS.take [1] [0] rfl (M := [R.blk b0 131 [v0_0, (.int .i64 x0.2.1), (.int .u64 x0.2.2)]]) rfl hM6 hB.size
  refine wl_eql rfl rfl rfl ?_
  refine wl_assign rfl rfl ?_
  refine WL.nil ?_
  refine fun a ha => hK2 _ _ ?_ a ha
  refine W.ret ?_
  have hr := Option.some.inj hF
  subst hr
  exact rets (vs := [(.bool (u3.1 == 0))]) hQ rfl ⟨rv_tmp rfl, trivial⟩ ⟨rfl, hB7, hS8.sel [1, 0] rfl⟩
theorem C_spec_l1Cur__among__mut__box (w0 : World) (x0 : ((List Int) × Int × Int)) (b0 : Nat) (v0_0 : Value) (h0_0 : rdS ty_5 (Out (fps [R.blk b0 131 [v0_0, (.int .i64 x0.2.1), (.int .u64 x0.2.2)]]) w0) w0 v0_0 x0.1) (x1 : (List Int)) (v1_0 : Value) (h1_0 : rdS ty_3 (Out (fps [R.blk b0 131 [v0_0, (.int .i64 x0.2.1), (.int .u64 x0.2.2)]]) w0) w0 v1_0 x1) (hS0 : Sep 0 w0 [R.blk b0 131 [v0_0, (.int .i64 x0.2.1), (.int .u64 x0.2.2)]]) (r : (Int × ((List Int) × Int × Int))) (hF : F_spec_l1Cur__among__mut__box x0 x1 = some r) :
    Calls Try.prog 136 [(.pointer (some ⟨b0, 0, none⟩)), v1_0].toArray w0 fun e w' => e = .returned (.int .i64 r.1) ∧ Below 0 (wE w0) w' ∧ Sep 0 w' [R.rest w0 (fps [R.blk b0 131 [v0_0, (.int .i64 x0.2.1), (.int .u64 x0.2.2)]]), R.blk b0 131 [v0_0, (.int .i64 r.2.2.1), (.int .u64 r.2.2.2)]] := by
  refine calls_mk' Try.func136 rfl Try.ntmps136 rfl rfl fun Q hQ hP => ?_
  have hB : Below (wE w0).heap.size (wE w0) w0 := wE_below w0
  have hS : Sep (wE w0).heap.size w0 [R.rest w0 (fps [R.blk b0 131 [v0_0, (.int .i64 x0.2.1), (.int .u64 x0.2.2)]]), R.blk b0 131 [v0_0, (.int .i64 x0.2.1), (.int .u64 x0.2.2)]] := hS0.rest
  unfold F_spec_l1Cur__among__mut__box at hF
  refine W.seq fun K1 hK1 => ?_
  refine W.region ?_
  refine wl_assign rfl rfl ?_
  refine WL.nil ?_
  refine fun a ha => hK1 _ _ ?_ a ha
  refine W.seq fun K2 hK2 => ?_
  refine W.region ?_
  refine wl_move rfl rfl ?_
  refine wl_move rfl rfl ?_
  refine wl_move rfl rfl ?_
  refine wl_lenr (e := ty_3) (l := x1) Try.underlying29 rfl rfl h1_0 ?_
  obtain ⟨u3, hu3, hF⟩ := bindE hF
  refine wl_call rfl Try.call132 (C_spec_l1Cur__pick__mut__box w0 x0 b0 v0_0 (h0_0.rsto (hS.sel [0, 1] rfl)) (List.length x1 : Int) (hS.sel [1] rfl).base0 _ hu3) rfl ?_
  rintro _ w4 ⟨rfl, hE5, hM6⟩
  refine ⟨_, rfl, ?_⟩
  have hB7 := hS.takeB [1] rfl (M := [R.blk b0 131 [v0_0, (.int .i64 x0.2.1), (.int .u64 x0.2.2)]]) rfl hB hE5 hM6
  have hS8 : Sep (wE w0).heap.size w4 [R.blk b0 131 [v0_0, (.int .i64 u3.2.2.1), (.int .u64 u3.2.2.2)], R.rest w0 (fps [R.blk b0 131 [v0_0, (.int .i64 x0.2.1), (.int .u64 x0.2.2)]])] := hS.take [1] [0] rfl (M := [R.blk b0 131 [v0_0, (.int .i64 x0.2.1), (.int .u64 x0.2.2)]]) rfl hM6 hB.size
  obtain ⟨u9, hu9, hF⟩ := bindE hF
  refine wl_index (e := ty_3) Try.underlying29 rfl rfl rfl h1_0 hu9 ?_
  rintro p10 _ rfl hp11
  refine wl_load_p (vs := [(.int .i64 u9)]) (v := (.int .i64 u9)) tf_3 rfl rfl (hp11.rst (i := 1) hS8 rfl) rfl rfl ?_
  refine wl_assign rfl rfl ?_
  refine WL.nil ?_
  refine fun a ha => hK2 _ _ ?_ a ha
  refine W.ret ?_
  have hr := Option.some.inj hF
  subst hr
  exact rets (vs := [(.int .i64 u9)]) hQ rfl ⟨rv_tmp rfl, trivial⟩ ⟨rfl, hB7, hS8.sel [1, 0] rfl⟩
theorem C_spec_l1Cur__music__mut__box (w0 : World) (x0 : ((List Int) × Int × Int)) (b0 : Nat) (v0_0 : Value) (h0_0 : rdS ty_5 (Out (fps [R.blk b0 131 [v0_0, (.int .i64 x0.2.1), (.int .u64 x0.2.2)]]) w0) w0 v0_0 x0.1) (hS0 : Sep 0 w0 [R.blk b0 131 [v0_0, (.int .i64 x0.2.1), (.int .u64 x0.2.2)]]) (r : ((List (Int × Int)) × ((List Int) × Int × Int))) (hF : F_spec_l1Cur__music__mut__box x0 = some r) :
    Calls Try.prog 255 [(.pointer (some ⟨b0, 0, none⟩))].toArray w0 fun e w' => ∃ (q0 : Value) (G0 : List Nat), e = .returned q0 ∧ Below 0 (wE w0) w' ∧ Sep 0 w' [R.rest w0 (fps [R.blk b0 131 [v0_0, (.int .i64 x0.2.1), (.int .u64 x0.2.2)]]), R.blk b0 131 [v0_0, (.int .i64 r.2.2.1), (.int .u64 r.2.2.2)], R.own ty_183 G0 q0 r.1] := by
  refine calls_mk' Try.func255 rfl Try.ntmps255 rfl rfl fun Q hQ hP => ?_
  have hB : Below (wE w0).heap.size (wE w0) w0 := wE_below w0
  have hS : Sep (wE w0).heap.size w0 [R.rest w0 (fps [R.blk b0 131 [v0_0, (.int .i64 x0.2.1), (.int .u64 x0.2.2)]]), R.blk b0 131 [v0_0, (.int .i64 x0.2.1), (.int .u64 x0.2.2)]] := hS0.rest
  unfold F_spec_l1Cur__music__mut__box at hF
  refine W.seq fun K1 hK1 => ?_
  refine W.region ?_
  refine wl_assign rfl rfl ?_
  refine WL.nil ?_
  refine fun a ha => hK1 _ _ ?_ a ha
  refine W.seq fun K2 hK2 => ?_
  refine W.region ?_
  refine wl_assign rfl rfl ?_
  refine WL.nil ?_
  refine fun a ha => hK2 _ _ ?_ a ha
  refine W.seq fun K3 hK3 => ?_
  refine W.region ?_
  refine wl_move rfl rfl ?_
  obtain ⟨u4, hu4, hF⟩ := bindE hF
  refine wl_call rfl Try.call132 (C_spec_l1Cur__pick__mut__box w0 x0 b0 v0_0 (h0_0.rsto (hS.sel [0, 1] rfl)) 6 (hS.sel [1] rfl).base0 _ hu4) rfl ?_
  rintro _ w5 ⟨rfl, hE6, hM7⟩
  refine ⟨_, rfl, ?_⟩
  have hB8 := hS.takeB [1] rfl (M := [R.blk b0 131 [v0_0, (.int .i64 x0.2.1), (.int .u64 x0.2.2)]]) rfl hB hE6 hM7
  have hS9 : Sep (wE w0).heap.size w5 [R.blk b0 131 [v0_0, (.int .i64 u4.2.2.1), (.int .u64 u4.2.2.2)], R.rest w0 (fps [R.blk b0 131 [v0_0, (.int .i64 x0.2.1), (.int .u64 x0.2.2)]])] := hS.take [1] [0] rfl (M := [R.blk b0 131 [v0_0, (.int .i64 x0.2.1), (.int .u64 x0.2.2)]]) rfl hM7 hB.size
  refine wl_add rfl rfl rfl ?_
  refine wl_assign rfl rfl ?_
  refine WL.nil ?_
  refine fun a ha => hK3 _ _ ?_ a ha
  refine W.seq fun K10 hK10 => ?_
  obtain ⟨k17, hk17, hF⟩ := jE3 hF
  have hJ18 : ∀ (y14 : Int) (y15 : Int) (y16 : Int) (w11 : World) (_ : k17 y14 y15 y16 = some r) (_ : Below (wE w0).heap.size (wE w0) w11) (_ : Sep (wE w0).heap.size w11 [R.rest w0 (fps [R.blk b0 131 [v0_0, (.int .i64 x0.2.1), (.int .u64 x0.2.2)]]), R.blk b0 131 [v0_0, (.int .i64 y14), (.int .u64 y15)]]), ∀ a, St 38 [(0, (.pointer (some ⟨b0, 0, none⟩))), (3, (.slice none 0 0)), (4, (.int .i64 y16))] a → K10 a w11 := by
    intro y14 y15 y16 w11 hF hB12 hS13
    subst hk17
    refine fun a ha => hK10 _ _ ?_ a ha
    refine W.seq fun K19 hK19 => ?_
    refine W.region ?_
    refine wl_move rfl rfl ?_
    refine wl_move rfl rfl ?_
    obtain ⟨u20, hu20, hF⟩ := bindE hF
    refine wl_call rfl Try.call132 (C_spec_l1Cur__pick__mut__box w11 (x0.1, y14, y15) b0 v0_0 (h0_0.rsto (hS13.sel [0, 1] rfl)) 181 (hS13.sel [1] rfl).base0 _ hu20) rfl ?_
    rintro _ w21 ⟨rfl, hE22, hM23⟩
    refine ⟨_, rfl, ?_⟩
    have hB24 := hS13.takeB [1] rfl (M := [R.blk b0 131 [v0_0, (.int .i64 y14), (.int .u64 y15)]]) rfl hB12 hE22 hM23
    have hS25 : Sep (wE w0).heap.size w21 [R.blk b0 131 [v0_0, (.int .i64 u20.2.2.1), (.int .u64 u20.2.2.2)], R.rest w0 (fps [R.blk b0 131 [v0_0, (.int .i64 x0.2.1), (.int .u64 x0.2.2)]])] := hS13.take [1] [0] rfl (M := [R.blk b0 131 [v0_0, (.int .i64 y14), (.int .u64 y15)]]) rfl hM23 hB12.size
    refine wl_add rfl rfl rfl ?_
    refine wl_lit (vs := [(.int .i64 60), (.int .i64 96), (.int .i64 120), (.int .i64 140), (.int .i64 (w64 (40 + u20.1)))]) (l := [60, 96, 120, 140, (w64 (40 + u20.1))]) fl_3 Try.underlying29 rfl rfl rfl rfl rfl rfl hB24 hS25 ?_
    intro v26 F27 w28 hb29 hB30 hS31
    obtain ⟨u32, hu32, hF⟩ := bindE hF
    refine wl_call rfl Try.call136 (C_spec_l1Cur__among__mut__box w28 (x0.1, u20.2.2.1, u20.2.2.2) b0 v0_0 (h0_0.rsto (hS31.sel [2, 1] rfl)) [60, 96, 120, 140, (w64 (40 + u20.1))] v26 (own_out (hS31.sel [0, 1] rfl)) (hS31.sel [1] rfl).base0 _ hu32) rfl ?_
    rintro _ w33 ⟨rfl, hE34, hM35⟩
    refine ⟨_, rfl, ?_⟩
    have hB36 := hS31.takeB [1] rfl (M := [R.blk b0 131 [v0_0, (.int .i64 u20.2.2.1), (.int .u64 u20.2.2.2)]]) rfl hB30 hE34 hM35
    have hS37 : Sep (wE w0).heap.size w33 [R.blk b0 131 [v0_0, (.int .i64 u32.2.2.1), (.int .u64 u32.2.2.2)], R.own ty_3 F27 v26 [60, 96, 120, 140, (w64 (40 + u20.1))], R.rest w0 (fps [R.blk b0 131 [v0_0, (.int .i64 x0.2.1), (.int .u64 x0.2.2)]])] := hS31.take [1] [0, 2] rfl (M := [R.blk b0 131 [v0_0, (.int .i64 u20.2.2.1), (.int .u64 u20.2.2.2)]]) rfl hM35 hB30.size
    refine wl_assign rfl rfl ?_
    refine WL.nil ?_
    refine fun a ha => hK19 _ _ ?_ a ha
    refine W.seq fun K38 hK38 => ?_
    refine W.block ?_
    refine W.loopk (fun m a w39 => ∃ (y42 : Int) (y43 : Int) (l44 : (List (Int × Int))) (y47 : Int) (v45 : Value) (F46 : List Nat), St 38 [(0, (.pointer (some ⟨b0, 0, none⟩))), (3, v45), (4, (.int .i64 y16)), (5, (.int .i64 y47))] a ∧ Below (wE w0).heap.size (wE w0) w39 ∧ Sep (wE w0).heap.size w39 [R.rest w0 (fps [R.blk b0 131 [v0_0, (.int .i64 x0.2.1), (.int .u64 x0.2.2)]]), R.blk b0 131 [v0_0, (.int .i64 y42), (.int .u64 y43)], R.own ty_183 F46 v45 l44] ∧ F_spec_l1Cur__music__mut__box_L1 y16 x0 m y42 y43 l44 y47 = some r) FU ?_ ?_
    ·
      have hS49 := hS37.push0 (r := R.own ty_183 [] (.slice none 0 0) []) rfl fun _ => .inl ⟨rfl, rfl, rfl⟩
      exact fun a ha => ⟨u32.2.2.1, u32.2.2.2, [], u32.1, (.slice none 0 0), [], ha.sub ⟨rfl, rfl, rfl, rfl, trivial⟩, hB36, (hS49.sel [3, 1, 0] rfl), hF⟩
    ·
      rintro m51 a w39 ⟨y42, y43, l44, y47, v45, F46, ha, hB40, hS41, hF⟩ KL50 hKL50
      refine W.at ?_ ha
      cases m51 with
      | zero => exact noneE hF
      | succ m51 =>
        obtain ⟨nx48, hnx48⟩ : ∃ k, k = F_spec_l1Cur__music__mut__box_L1 y16 x0 m51 := ⟨_, rfl⟩
        rw [F_spec_l1Cur__music__mut__box_L1, ← hnx48] at hF
        refine W.seq fun K52 hK52 => ?_
        refine W.seq fun K53 hK53 => ?_
        refine W.region ?_
        refine wl_move rfl rfl ?_
        refine wl_lenr (e := ty_183) (l := l44) Try.underlying23 rfl rfl (hS41.own_ro (i := 2) rfl) ?_
        refine wl_move rfl rfl ?_
        refine wl_lss rfl rfl rfl ?_
        refine WL.nil ?_
        refine fun a ha => hK53 _ _ ?_ a ha
        refine W.cond rfl (fun h54 => ?_) (fun h54 => ?_)
        · replace hF := ifP h54 hF
          refine W.skip ?_
          refine fun a ha => hK52 _ _ ?_ a ha
          refine W.block ?_
          refine W.seq fun K55 hK55 => ?_
          obtain ⟨k62, hk62, hF⟩ := jE3 hF
          have hJ63 : ∀ (y59 : Int) (y60 : Int) (y61 : Int) (w56 : World) (_ : k62 y59 y60 y61 = some r) (_ : Below (wE w0).heap.size (wE w0) w56) (_ : Sep (wE w0).heap.size w56 [R.rest w0 (fps [R.blk b0 131 [v0_0, (.int .i64 x0.2.1), (.int .u64 x0.2.2)]]), R.blk b0 131 [v0_0, (.int .i64 y59), (.int .u64 y60)], R.own ty_183 F46 v45 l44]), ∀ a, St 38 [(0, (.pointer (some ⟨b0, 0, none⟩))), (3, v45), (4, (.int .i64 y16)), (5, (.int .i64 y61))] a → K55 a w56 := by
            intro y59 y60 y61 w56 hF hB57 hS58
            subst hk62
            refine fun a ha => hK55 _ _ ?_ a ha
            refine W.region ?_
            refine wl_move rfl rfl ?_
            refine wl_move rfl rfl ?_
            refine wl_lit (vs := [(.int .i64 4), (.int .i64 4), (.int .i64 3), (.int .i64 6), (.int .i64 1), (.int .i64 12)]) (l := [4, 4, 3, 6, 1, 12]) fl_3 Try.underlying29 rfl rfl rfl rfl rfl rfl hB57 hS58 ?_
            intro v64 F65 w66 hb67 hB68 hS69
            obtain ⟨u70, hu70, hF⟩ := bindE hF
            refine wl_call rfl Try.call136 (C_spec_l1Cur__among__mut__box w66 (x0.1, y59, y60) b0 v0_0 (h0_0.rsto (hS69.sel [1, 2] rfl)) [4, 4, 3, 6, 1, 12] v64 (own_out (hS69.sel [0, 2] rfl)) (hS69.sel [2] rfl).base0 _ hu70) rfl ?_
            rintro _ w71 ⟨rfl, hE72, hM73⟩
            refine ⟨_, rfl, ?_⟩
            have hB74 := hS69.takeB [2] rfl (M := [R.blk b0 131 [v0_0, (.int .i64 y59), (.int .u64 y60)]]) rfl hB68 hE72 hM73
            have hS75 : Sep (wE w0).heap.size w71 [R.blk b0 131 [v0_0, (.int .i64 u70.2.2.1), (.int .u64 u70.2.2.2)], R.own ty_3 F65 v64 [4, 4, 3, 6, 1, 12], R.rest w0 (fps [R.blk b0 131 [v0_0, (.int .i64 x0.2.1), (.int .u64 x0.2.2)]]), R.own ty_183 F46 v45 l44] := hS69.take [2] [0, 1, 3] rfl (M := [R.blk b0 131 [v0_0, (.int .i64 y59), (.int .u64 y60)]]) rfl hM73 hB68.size
            refine wl_move rfl rfl ?_
            refine wl_build (zs := [(.int .i64 0), (.int .i64 0)]) (out := [(.int .i64 u70.1), (.int .i64 y61)]) (vs := [(.int .i64 u70.1), (.int .i64 y61)]) (css := [[(.int .i64 u70.1)], [(.int .i64 y61)]]) tf_183 pl_183 rfl rfl rfl rfl rfl ?_
            refine wl_lit (vs := [(.agg #[(.int .i64 u70.1), (.int .i64 y61)])]) (l := [(u70.1, y61)]) fl_183 Try.underlying23 rfl rfl rfl rfl rfl rfl hB74 hS75 ?_
            intro v76 F77 w78 hb79 hB80 hS81
            obtain ⟨u82, hu82, hF⟩ := bindE hF
            refine wl_append (i := 4) (S := (· < w78.heap.size)) fl_183 Try.underlying23 rfl rfl rfl hB80 hS81 rfl (hS81.own_ro (i := 0) rfl) hu82 ?_
            intro v83 F84 w85 hk86 hB87 hS88
            refine wl_assign rfl rfl ?_
            refine WL.nil ?_
            rw [hnx48] at hF
            exact fun a ha => hKL50 a _ m51 (Nat.lt_succ_self m51) ⟨u70.2.2.1, u70.2.2.2, u82, y61, v83, F84, ha.sub ⟨rfl, rfl, rfl, rfl, trivial⟩, hB87, (hS88.sel [3, 1, 4] rfl), hF⟩
          refine W.seq fun K89 hK89 => ?_
          refine W.region ?_
          refine wl_move rfl rfl ?_
          obtain ⟨u90, hu90, hF⟩ := bindE hF
          refine wl_call rfl Try.call130 (C_spec_l1Cur__one__mut__box w39 (x0.1, y42, y43) b0 v0_0 (h0_0.rsto (hS41.sel [0, 1] rfl)) 4 (hS41.sel [1] rfl).base0 _ hu90) rfl ?_
          rintro _ w91 ⟨rfl, hE92, hM93⟩
          refine ⟨_, rfl, ?_⟩
          have hB94 := hS41.takeB [1] rfl (M := [R.blk b0 131 [v0_0, (.int .i64 y42), (.int .u64 y43)]]) rfl hB40 hE92 hM93
          have hS95 : Sep (wE w0).heap.size w91 [R.blk b0 131 [v0_0, (.int .i64 u90.2.2.1), (.int .u64 u90.2.2.2)], R.rest w0 (fps [R.blk b0 131 [v0_0, (.int .i64 x0.2.1), (.int .u64 x0.2.2)]]), R.own ty_183 F46 v45 l44] := hS41.take [1] [0, 2] rfl (M := [R.blk b0 131 [v0_0, (.int .i64 y42), (.int .u64 y43)]]) rfl hM93 hB40.size
          refine WL.nil ?_
          refine fun a ha => hK89 _ _ ?_ a ha
          refine W.cond rfl (fun h96 => ?_) (fun h96 => ?_)
          · replace hF := ifP h96 hF
            refine W.region ?_
            refine wl_move rfl rfl ?_
            refine wl_move rfl rfl ?_
            obtain ⟨u97, hu97, hF⟩ := bindE hF
            refine wl_call rfl Try.call132 (C_spec_l1Cur__pick__mut__box w91 (x0.1, u90.2.2.1, u90.2.2.2) b0 v0_0 (h0_0.rsto (hS95.sel [1, 0] rfl)) 181 (hS95.sel [0] rfl).base0 _ hu97) rfl ?_
            rintro _ w98 ⟨rfl, hE99, hM100⟩
            refine ⟨_, rfl, ?_⟩
            have hB101 := hS95.takeB [0] rfl (M := [R.blk b0 131 [v0_0, (.int .i64 u90.2.2.1), (.int .u64 u90.2.2.2)]]) rfl hB94 hE99 hM100
            have hS102 : Sep (wE w0).heap.size w98 [R.blk b0 131 [v0_0, (.int .i64 u97.2.2.1), (.int .u64 u97.2.2.2)], R.rest w0 (fps [R.blk b0 131 [v0_0, (.int .i64 x0.2.1), (.int .u64 x0.2.2)]]), R.own ty_183 F46 v45 l44] := hS95.take [0] [1, 2] rfl (M := [R.blk b0 131 [v0_0, (.int .i64 u90.2.2.1), (.int .u64 u90.2.2.2)]]) rfl hM100 hB94.size
            refine wl_add rfl rfl rfl ?_
            refine wl_lit (vs := [(.int .i64 40), (.int .i64 90), (.int .i64 220), (.int .i64 (w64 (40 + u97.1)))]) (l := [40, 90, 220, (w64 (40 + u97.1))]) fl_3 Try.underlying29 rfl rfl rfl rfl rfl rfl hB101 hS102 ?_
            intro v103 F104 w105 hb106 hB107 hS108
            obtain ⟨u109, hu109, hF⟩ := bindE hF
            refine wl_call rfl Try.call136 (C_spec_l1Cur__among__mut__box w105 (x0.1, u97.2.2.1, u97.2.2.2) b0 v0_0 (h0_0.rsto (hS108.sel [2, 1] rfl)) [40, 90, 220, (w64 (40 + u97.1))] v103 (own_out (hS108.sel [0, 1] rfl)) (hS108.sel [1] rfl).base0 _ hu109) rfl ?_
            rintro _ w110 ⟨rfl, hE111, hM112⟩
            refine ⟨_, rfl, ?_⟩
            have hB113 := hS108.takeB [1] rfl (M := [R.blk b0 131 [v0_0, (.int .i64 u97.2.2.1), (.int .u64 u97.2.2.2)]]) rfl hB107 hE111 hM112
            have hS114 : Sep (wE w0).heap.size w110 [R.blk b0 131 [v0_0, (.int .i64 u109.2.2.1), (.int .u64 u109.2.2.2)], R.own ty_3 F104 v103 [40, 90, 220, (w64 (40 + u97.1))], R.rest w0 (fps [R.blk b0 131 [v0_0, (.int .i64 x0.2.1), (.int .u64 x0.2.2)]]), R.own ty_183 F46 v45 l44] := hS108.take [1] [0, 2, 3] rfl (M := [R.blk b0 131 [v0_0, (.int .i64 u97.2.2.1), (.int .u64 u97.2.2.2)]]) rfl hM112 hB107.size
            refine wl_assign rfl rfl ?_
            refine WL.nil ?_
            exact fun a ha => hJ63 (u109.2.2.1) (u109.2.2.2) (u109.1) _ hF hB113 (hS114.sel [2, 0, 3] rfl) a (ha.sub ⟨rfl, rfl, rfl, rfl, trivial⟩)
          · replace hF := ifN h96 hF
            refine W.skip ?_
            exact fun a ha => hJ63 (u90.2.2.1) (u90.2.2.2) (y47) _ hF hB94 (hS95.sel [1, 0, 2] rfl) a (ha.sub ⟨rfl, rfl, rfl, rfl, trivial⟩)
        · replace hF := ifN h54 hF
          refine W.exit ?_
          refine fun a ha => hK38 _ _ ?_ a ha
          refine W.seq fun K115 hK115 => ?_
          refine W.region ?_
          refine wl_move rfl rfl ?_
          refine wl_assign rfl rfl ?_
          refine WL.nil ?_
          refine fun a ha => hK115 _ _ ?_ a ha
          refine W.ret ?_
          have hr := Option.some.inj hF
          subst hr
          exact rets (vs := [v45]) hQ rfl ⟨rv_tmp rfl, trivial⟩ ⟨v45, F46, rfl, hB40, hS41.sel [0, 1, 2] rfl⟩
  refine W.seq fun K116 hK116 => ?_
  refine W.region ?_
  refine wl_move rfl rfl ?_
  obtain ⟨u117, hu117, hF⟩ := bindE hF
  refine wl_call rfl Try.call130 (C_spec_l1Cur__one__mut__box w5 (x0.1, u4.2.2.1, u4.2.2.2) b0 v0_0 (h0_0.rsto (hS9.sel [1, 0] rfl)) 16 (hS9.sel [0] rfl).base0 _ hu117) rfl ?_
  rintro _ w118 ⟨rfl, hE119, hM120⟩
  refine ⟨_, rfl, ?_⟩
  have hB121 := hS9.takeB [0] rfl (M := [R.blk b0 131 [v0_0, (.int .i64 u4.2.2.1), (.int .u64 u4.2.2.2)]]) rfl hB8 hE119 hM120
  have hS122 : Sep (wE w0).heap.size w118 [R.blk b0 131 [v0_0, (.int .i64 u117.2.2.1), (.int .u64 u117.2.2.2)], R.rest w0 (fps [R.blk b0 131 [v0_0, (.int .i64 x0.2.1), (.int .u64 x0.2.2)]])] := hS9.take [0] [1] rfl (M := [R.blk b0 131 [v0_0, (.int .i64 u4.2.2.1), (.int .u64 u4.2.2.2)]]) rfl hM120 hB8.size
  refine WL.nil ?_
  refine fun a ha => hK116 _ _ ?_ a ha
  refine W.cond rfl (fun h123 => ?_) (fun h123 => ?_)
  · replace hF := ifP h123 hF
    refine W.region ?_
    refine wl_assign rfl rfl ?_
    refine WL.nil ?_
    exact fun a ha => hJ18 (u117.2.2.1) (u117.2.2.2) (40) _ hF hB121 (hS122.sel [1, 0] rfl) a (ha.sub ⟨rfl, rfl, rfl, trivial⟩)
  · replace hF := ifN h123 hF
    refine W.skip ?_
    exact fun a ha => hJ18 (u117.2.2.1) (u117.2.2.2) ((w64 (1 + u4.1))) _ hF hB121 (hS122.sel [1, 0] rfl) a (ha.sub ⟨rfl, rfl, rfl, trivial⟩)
theorem C_spec_l1Cur__anyMusic__mut__box (w0 : World) (x0 : ((List Int) × Int × Int)) (b0 : Nat) (v0_0 : Value) (h0_0 : rdS ty_5 (Out (fps [R.blk b0 131 [v0_0, (.int .i64 x0.2.1), (.int .u64 x0.2.2)]]) w0) w0 v0_0 x0.1) (hS0 : Sep 0 w0 [R.blk b0 131 [v0_0, (.int .i64 x0.2.1), (.int .u64 x0.2.2)]]) (r : ((List (Int × Int)) × ((List Int) × Int × Int))) (hF : F_spec_l1Cur__anyMusic__mut__box x0 = some r) :
    Calls Try.prog 219 [(.pointer (some ⟨b0, 0, none⟩))].toArray w0 fun e w' => ∃ (q0 : Value) (G0 : List Nat), e = .returned q0 ∧ Below 0 (wE w0) w' ∧ Sep 0 w' [R.rest w0 (fps [R.blk b0 131 [v0_0, (.int .i64 x0.2.1), (.int .u64 x0.2.2)]]), R.blk b0 131 [v0_0, (.int .i64 r.2.2.1), (.int .u64 r.2.2.2)], R.own ty_183 G0 q0 r.1] := by
  refine calls_mk' Try.func219 rfl Try.ntmps219 rfl rfl fun Q hQ hP => ?_
  have hB : Below (wE w0).heap.size (wE w0) w0 := wE_below w0
  have hS : Sep (wE w0).heap.size w0 [R.rest w0 (fps [R.blk b0 131 [v0_0, (.int .i64 x0.2.1), (.int .u64 x0.2.2)]]), R.blk b0 131 [v0_0, (.int .i64 x0.2.1), (.int .u64 x0.2.2)]] := hS0.rest
  unfold F_spec_l1Cur__anyMusic__mut__box at hF
  refine W.seq fun K1 hK1 => ?_
  refine W.region ?_
  refine wl_assign rfl rfl ?_
  refine WL.nil ?_
  refine fun a ha => hK1 _ _ ?_ a ha
  refine W.seq fun K2 hK2 => ?_
  refine W.region ?_
  refine wl_move rfl rfl ?_
  obtain ⟨u3, hu3, hF⟩ := bindE hF
  refine wl_call rfl Try.call255 (C_spec_l1Cur__music__mut__box w0 x0 b0 v0_0 (h0_0.rsto (hS.sel [0, 1] rfl)) (hS.sel [1] rfl).base0 _ hu3) rfl ?_
  rintro _ w4 ⟨v9, F10, rfl, hE5, hM6⟩
  refine ⟨_, rfl, ?_⟩
  have hB7 := hS.takeB [1] rfl (M := [R.blk b0 131 [v0_0, (.int .i64 x0.2.1), (.int .u64 x0.2.2)]]) rfl hB hE5 hM6
  have hS8 : Sep (wE w0).heap.size w4 [R.blk b0 131 [v0_0, (.int .i64 u3.2.2.1), (.int .u64 u3.2.2.2)], R.own ty_183 F10 v9 u3.1, R.rest w0 (fps [R.blk b0 131 [v0_0, (.int .i64 x0.2.1), (.int .u64 x0.2.2)]])] := hS.take [1] [0] rfl (M := [R.blk b0 131 [v0_0, (.int .i64 x0.2.1), (.int .u64 x0.2.2)]]) rfl hM6 hB.size
  refine wl_assign rfl rfl ?_
  refine WL.nil ?_
  refine fun a ha => hK2 _ _ ?_ a ha
  refine W.seq fun K11 hK11 => ?_
  refine W.region ?_
  refine wl_move rfl rfl ?_
  refine wl_move rfl rfl ?_
  refine wl_move rfl rfl ?_
  refine wl_lenr (e := ty_183) (l := u3.1) Try.underlying23 rfl rfl (hS8.own_ro (i := 1) rfl) ?_
  obtain ⟨u12, hu12, hF⟩ := bindE hF
  refine wl_call rfl Try.call132 (C_spec_l1Cur__pick__mut__box w4 (x0.1, u3.2.2.1, u3.2.2.2) b0 v0_0 (h0_0.rsto (hS8.sel [2, 0] rfl)) (List.length u3.1 : Int) (hS8.sel [0] rfl).base0 _ hu12) rfl ?_
  rintro _ w13 ⟨rfl, hE14, hM15⟩
  refine ⟨_, rfl, ?_⟩
  have hB16 := hS8.takeB [0] rfl (M := [R.blk b0 131 [v0_0, (.int .i64 u3.2.2.1), (.int .u64 u3.2.2.2)]]) rfl hB7 hE14 hM15
  have hS17 : Sep (wE w0).heap.size w13 [R.blk b0 131 [v0_0, (.int .i64 u12.2.2.1), (.int .u64 u12.2.2.2)], R.own ty_183 F10 v9 u3.1, R.rest w0 (fps [R.blk b0 131 [v0_0, (.int .i64 x0.2.1), (.int .u64 x0.2.2)]])] := hS8.take [0] [1, 2] rfl (M := [R.blk b0 131 [v0_0, (.int .i64 u3.2.2.1), (.int .u64 u3.2.2.2)]]) rfl hM15 hB7.size
  obtain ⟨u18, hu18, hF⟩ := bindE hF
  refine wl_indexoF (e := ty_183) (i := 1) Try.underlying23 rfl rfl rfl hS17 rfl hu18 ?_
  rintro p19 _ rfl hp20 ho21
  refine wl_assign rfl rfl ?_
  refine WL.nil ?_
  refine fun a ha => hK11 _ _ ?_ a ha
  refine W.seq fun K22 hK22 => ?_
  obtain ⟨k31, hk31, hF⟩ := jE3 hF
  have hJ32 : ∀ (y26 : Int) (y27 : Int) (l28 : (List (Int × Int))) (v29 : Value) (F30 : List Nat) (w23 : World) (_ : k31 y26 y27 l28 = some r) (_ : Below (wE w0).heap.size (wE w0) w23) (_ : Sep (wE w0).heap.size w23 [R.rest w0 (fps [R.blk b0 131 [v0_0, (.int .i64 x0.2.1), (.int .u64 x0.2.2)]]), R.blk b0 131 [v0_0, (.int .i64 y26), (.int .u64 y27)], R.own ty_183 F30 v29 l28]), ∀ a, St 48 [(3, v29)] a → K22 a w23 := by
    intro y26 y27 l28 v29 F30 w23 hF hB24 hS25
    subst hk31
    refine fun a ha => hK22 _ _ ?_ a ha
    refine W.seq fun K33 hK33 => ?_
    refine W.region ?_
    refine wl_move rfl rfl ?_
    refine wl_assign rfl rfl ?_
    refine WL.nil ?_
    refine fun a ha => hK33 _ _ ?_ a ha
    refine W.ret ?_
    have hr := Option.some.inj hF
    subst hr
    exact rets (vs := [v29]) hQ rfl ⟨rv_tmp rfl, trivial⟩ ⟨v29, F30, rfl, hB24, hS25.sel [0, 1, 2] rfl⟩
  refine W.seq fun K34 hK34 => ?_
  refine W.region ?_
  refine wl_move rfl rfl ?_
  obtain ⟨u35, hu35, hF⟩ := bindE hF
  refine wl_call rfl Try.call132 (C_spec_l1Cur__pick__mut__box w13 (x0.1, u12.2.2.1, u12.2.2.2) b0 v0_0 (h0_0.rsto (hS17.sel [2, 0] rfl)) 30 (hS17.sel [0] rfl).base0 _ hu35) rfl ?_
  rintro _ w36 ⟨rfl, hE37, hM38⟩
  refine ⟨_, rfl, ?_⟩
  have hB39 := hS17.takeB [0] rfl (M := [R.blk b0 131 [v0_0, (.int .i64 u12.2.2.1), (.int .u64 u12.2.2.2)]]) rfl hB16 hE37 hM38
  have hS40 : Sep (wE w0).heap.size w36 [R.blk b0 131 [v0_0, (.int .i64 u35.2.2.1), (.int .u64 u35.2.2.2)], R.own ty_183 F10 v9 u3.1, R.rest w0 (fps [R.blk b0 131 [v0_0, (.int .i64 x0.2.1), (.int .u64 x0.2.2)]])] := hS17.take [0] [1, 2] rfl (M := [R.blk b0 131 [v0_0, (.int .i64 u12.2.2.1), (.int .u64 u12.2.2.2)]]) rfl hM38 hB16.size
  have hp20 := hp20.keepS (fun b hb => mut_kept hM38 b (((hS17.get (i := 1) rfl).2.1 b hb).2) (nf_cons (hS17.disj (i := 1) (j := 0) rfl rfl rfl b hb) nf_nil)) (fun _ h => h)
  refine WL.nil ?_
  refine fun a ha => hK34 _ _ ?_ a ha
  refine W.block ?_
  refine W.seq fun K41 hK41 => ?_
  refine W.region ?_
  refine wl_eql rfl rfl rfl ?_
  refine wl_assign rfl rfl ?_
  refine WL.nil ?_
  refine fun a ha => hK41 _ _ ?_ a ha
  refine W.cond rfl (fun h42 => ?_) (fun h42 => ?_)
  · replace hF := ifP h42 hF
    refine W.region ?_
    refine wl_move rfl rfl ?_
    refine wl_move rfl rfl ?_
    refine wl_lit (vs := [(.int .i64 0), (.int .i64 12), (.int .i64 13)]) (l := [0, 12, 13]) fl_3 Try.underlying29 rfl rfl rfl rfl rfl rfl hB39 hS40 ?_
    intro v43 F44 w45 hb46 hB47 hS48
    have hp20 := hp20.keepS (fun b hb => hb46.block b (((hS40.get (i := 1) rfl).2.1 b hb).2)) (fun _ h => h)
    obtain ⟨u49, hu49, hF⟩ := bindE hF
    refine wl_call rfl Try.call136 (C_spec_l1Cur__among__mut__box w45 (x0.1, u35.2.2.1, u35.2.2.2) b0 v0_0 (h0_0.rsto (hS48.sel [3, 1] rfl)) [0, 12, 13] v43 (own_out (hS48.sel [0, 1] rfl)) (hS48.sel [1] rfl).base0 _ hu49) rfl ?_
    rintro _ w50 ⟨rfl, hE51, hM52⟩
    refine ⟨_, rfl, ?_⟩
    have hB53 := hS48.takeB [1] rfl (M := [R.blk b0 131 [v0_0, (.int .i64 u35.2.2.1), (.int .u64 u35.2.2.2)]]) rfl hB47 hE51 hM52
    have hS54 : Sep (wE w0).heap.size w50 [R.blk b0 131 [v0_0, (.int .i64 u49.2.2.1), (.int .u64 u49.2.2.2)], R.own ty_3 F44 v43 [0, 12, 13], R.own ty_183 F10 v9 u3.1, R.rest w0 (fps [R.blk b0 131 [v0_0, (.int .i64 x0.2.1), (.int .u64 x0.2.2)]])] := hS48.take [1] [0, 2, 3] rfl (M := [R.blk b0 131 [v0_0, (.int .i64 u35.2.2.1), (.int .u64 u35.2.2.2)]]) rfl hM52 hB47.size
    have hp20 := hp20.keepS (fun b hb => mut_kept hM52 b (((hS48.get (i := 2) rfl).2.1 b hb).2) (nf_cons (hS48.disj (i := 2) (j := 1) rfl rfl rfl b hb) nf_nil)) (fun _ h => h)
    refine wl_nilCheck rfl rfl ?_
    refine wl_fieldp (o := 0) ff_183_0 rfl rfl ?_
    refine wl_storeo (i := 2) (o := 0) (vs := [(.int .i64 u49.1)]) (u' := (u49.1, u18.2)) fl_183 tf_3 rfl rfl rfl rfl ho21 hu18 hB53 hS54 rfl rfl ⟨rfl, trivial⟩ rfl ?_
    intro w55 hk58 hB56 hS57
    refine WL.nil ?_
    exact fun a ha => hJ32 (u49.2.2.1) (u49.2.2.2) ((seti u3.1 u12.1 (u49.1, u18.2))) (v9) (F10) _ hF hB56 (hS57.sel [3, 0, 2] rfl) a (ha.sub ⟨rfl, trivial⟩)
  · replace hF := ifN h42 hF
    refine W.seq fun K59 hK59 => ?_
    refine W.region ?_
    refine wl_eql rfl rfl rfl ?_
    refine wl_assign rfl rfl ?_
    refine WL.nil ?_
    refine fun a ha => hK59 _ _ ?_ a ha
    refine W.cond rfl (fun h60 => ?_) (fun h60 => ?_)
    · replace hF := ifP h60 hF
      refine W.region ?_
      refine wl_move rfl rfl ?_
      refine wl_move rfl rfl ?_
      refine wl_lit (vs := [(.int .i64 39), (.int .i64 40), (.int .i64 220), (.int .i64 221)]) (l := [39, 40, 220, 221]) fl_3 Try.underlying29 rfl rfl rfl rfl rfl rfl hB39 hS40 ?_
      intro v61 F62 w63 hb64 hB65 hS66
      have hp20 := hp20.keepS (fun b hb => hb64.block b (((hS40.get (i := 1) rfl).2.1 b hb).2)) (fun _ h => h)
      obtain ⟨u67, hu67, hF⟩ := bindE hF
      refine wl_call rfl Try.call136 (C_spec_l1Cur__among__mut__box w63 (x0.1, u35.2.2.1, u35.2.2.2) b0 v0_0 (h0_0.rsto (hS66.sel [3, 1] rfl)) [39, 40, 220, 221] v61 (own_out (hS66.sel [0, 1] rfl)) (hS66.sel [1] rfl).base0 _ hu67) rfl ?_
      rintro _ w68 ⟨rfl, hE69, hM70⟩
      refine ⟨_, rfl, ?_⟩
      have hB71 := hS66.takeB [1] rfl (M := [R.blk b0 131 [v0_0, (.int .i64 u35.2.2.1), (.int .u64 u35.2.2.2)]]) rfl hB65 hE69 hM70
      have hS72 : Sep (wE w0).heap.size w68 [R.blk b0 131 [v0_0, (.int .i64 u67.2.2.1), (.int .u64 u67.2.2.2)], R.own ty_3 F62 v61 [39, 40, 220, 221], R.own ty_183 F10 v9 u3.1, R.rest w0 (fps [R.blk b0 131 [v0_0, (.int .i64 x0.2.1), (.int .u64 x0.2.2)]])] := hS66.take [1] [0, 2, 3] rfl (M := [R.blk b0 131 [v0_0, (.int .i64 u35.2.2.1), (.int .u64 u35.2.2.2)]]) rfl hM70 hB65.size
      have hp20 := hp20.keepS (fun b hb => mut_kept hM70 b (((hS66.get (i := 2) rfl).2.1 b hb).2) (nf_cons (hS66.disj (i := 2) (j := 1) rfl rfl rfl b hb) nf_nil)) (fun _ h => h)
      refine wl_nilCheck rfl rfl ?_
      refine wl_fieldp (o := 1) ff_183_1 rfl rfl ?_
      refine wl_storeo (i := 2) (o := 1) (vs := [(.int .i64 u67.1)]) (u' := (u18.1, u67.1)) fl_183 tf_3 rfl rfl rfl rfl (ho21.add 1) hu18 hB71 hS72 rfl rfl ⟨rfl, trivial⟩ rfl ?_
      intro w73 hk76 hB74 hS75
      refine WL.nil ?_
      exact fun a ha => hJ32 (u67.2.2.1) (u67.2.2.2) ((seti u3.1 u12.1 (u18.1, u67.1))) (v9) (F10) _ hF hB74 (hS75.sel [3, 0, 2] rfl) a (ha.sub ⟨rfl, trivial⟩)
    · replace hF := ifN h60 hF
      refine W.seq fun K77 hK77 => ?_
      refine W.region ?_
      refine wl_eql rfl rfl rfl ?_
      refine wl_assign rfl rfl ?_
      refine WL.nil ?_
      refine fun a ha => hK77 _ _ ?_ a ha
      refine W.cond rfl (fun h78 => ?_) (fun h78 => ?_)
      · replace hF := ifP h78 hF
        refine W.seq fun K79 hK79 => ?_
        refine W.region ?_
        refine wl_move rfl rfl ?_
        obtain ⟨u80, hu80, hF⟩ := bindE hF
        refine wl_call rfl Try.call132 (C_spec_l1Cur__pick__mut__box w36 (x0.1, u35.2.2.1, u35.2.2.2) b0 v0_0 (h0_0.rsto (hS40.sel [2, 0] rfl)) 2 (hS40.sel [0] rfl).base0 _ hu80) rfl ?_
        rintro _ w81 ⟨rfl, hE82, hM83⟩
        refine ⟨_, rfl, ?_⟩
        have hB84 := hS40.takeB [0] rfl (M := [R.blk b0 131 [v0_0, (.int .i64 u35.2.2.1), (.int .u64 u35.2.2.2)]]) rfl hB39 hE82 hM83
        have hS85 : Sep (wE w0).heap.size w81 [R.blk b0 131 [v0_0, (.int .i64 u80.2.2.1), (.int .u64 u80.2.2.2)], R.own ty_183 F10 v9 u3.1, R.rest w0 (fps [R.blk b0 131 [v0_0, (.int .i64 x0.2.1), (.int .u64 x0.2.2)]])] := hS40.take [0] [1, 2] rfl (M := [R.blk b0 131 [v0_0, (.int .i64 u35.2.2.1), (.int .u64 u35.2.2.2)]]) rfl hM83 hB39.size
        have hp20 := hp20.keepS (fun b hb => mut_kept hM83 b (((hS40.get (i := 1) rfl).2.1 b hb).2) (nf_cons (hS40.disj (i := 1) (j := 0) rfl rfl rfl b hb) nf_nil)) (fun _ h => h)
        refine wl_add rfl rfl rfl ?_
        refine wl_assign rfl rfl ?_
        refine WL.nil ?_
        refine fun a ha => hK79 _ _ ?_ a ha
        refine W.block ?_
        refine W.loopk (fun m a w86 => ∃ (l89 : (List (Int × Int))) (v90 : Value) (F91 : List Nat), St 48 [(3, v90), (5, (.int .i64 (w64 (40 + u80.1))))] a ∧ Below (wE w0).heap.size (wE w0) w86 ∧ Sep (wE w0).heap.size w86 [R.rest w0 (fps [R.blk b0 131 [v0_0, (.int .i64 x0.2.1), (.int .u64 x0.2.2)]]), R.blk b0 131 [v0_0, (.int .i64 u80.2.2.1), (.int .u64 u80.2.2.2)], R.own ty_183 F91 v90 l89] ∧ F_spec_l1Cur__anyMusic__mut__box_L1 u80 k31 m l89 = some r) FU ?_ ?_
        ·
          exact fun a ha => ⟨u3.1, v9, F10, ha.sub ⟨rfl, rfl, trivial⟩, hB84, (hS85.sel [2, 0, 1] rfl), hF⟩
        ·
          rintro m94 a w86 ⟨l89, v90, F91, ha, hB87, hS88, hF⟩ KL93 hKL93
          refine W.at ?_ ha
          cases m94 with
          | zero => exact noneE hF
          | succ m94 =>
            obtain ⟨nx92, hnx92⟩ : ∃ k, k = F_spec_l1Cur__anyMusic__mut__box_L1 u80 k31 m94 := ⟨_, rfl⟩
            rw [F_spec_l1Cur__anyMusic__mut__box_L1, ← hnx92] at hF
            refine W.seq fun K95 hK95 => ?_
            refine W.seq fun K96 hK96 => ?_
            refine W.region ?_
            refine wl_move rfl rfl ?_
            refine wl_lenr (e := ty_183) (l := l89) Try.underlying23 rfl rfl (hS88.own_ro (i := 2) rfl) ?_
            refine wl_move rfl rfl ?_
            refine wl_lss rfl rfl rfl ?_
            refine WL.nil ?_
            refine fun a ha => hK96 _ _ ?_ a ha
            refine W.cond rfl (fun h97 => ?_) (fun h97 => ?_)
            · replace hF := ifP h97 hF
              refine W.skip ?_
              refine fun a ha => hK95 _ _ ?_ a ha
              refine W.block ?_
              refine W.region ?_
              refine wl_move rfl rfl ?_
              refine wl_build (zs := [(.int .i64 0), (.int .i64 0)]) (out := [(.int .i64 4), (.int .i64 120)]) (vs := [(.int .i64 4), (.int .i64 120)]) (css := [[(.int .i64 4)], [(.int .i64 120)]]) tf_183 pl_183 rfl rfl rfl rfl rfl ?_
              refine wl_lit (vs := [(.agg #[(.int .i64 4), (.int .i64 120)])]) (l := [(4, 120)]) fl_183 Try.underlying23 rfl rfl rfl rfl rfl rfl hB87 hS88 ?_
              intro v98 F99 w100 hb101 hB102 hS103
              obtain ⟨u104, hu104, hF⟩ := bindE hF
              refine wl_append (i := 3) (S := (· < w100.heap.size)) fl_183 Try.underlying23 rfl rfl rfl hB102 hS103 rfl (hS103.own_ro (i := 0) rfl) hu104 ?_
              intro v105 F106 w107 hk108 hB109 hS110
              refine wl_assign rfl rfl ?_
              refine WL.nil ?_
              rw [hnx92] at hF
              exact fun a ha => hKL93 a _ m94 (Nat.lt_succ_self m94) ⟨u104, v105, F106, ha.sub ⟨rfl, rfl, trivial⟩, hB109, (hS110.sel [1, 2, 3] rfl), hF⟩
            · replace hF := ifN h97 hF
              refine W.exit ?_
              exact fun a ha => hJ32 (u80.2.2.1) (u80.2.2.2) (l89) (v90) (F91) _ hF hB87 (hS88.sel [0, 1, 2] rfl) a (ha.sub ⟨rfl, trivial⟩)
      · replace hF := ifN h78 hF
        refine W.seq fun K111 hK111 => ?_
        refine W.region ?_
        refine wl_eql rfl rfl rfl ?_
        refine wl_assign rfl rfl ?_
        refine WL.nil ?_
        refine fun a ha => hK111 _ _ ?_ a ha
        refine W.cond rfl (fun h112 => ?_) (fun h112 => ?_)
        · replace hF := ifP h112 hF
          refine W.seq fun K113 hK113 => ?_
          refine W.region ?_
          refine wl_assign rfl rfl ?_
          refine WL.nil ?_
          refine fun a ha => hK113 _ _ ?_ a ha
          refine W.ret ?_
          have hS114 := hS40.push0 (r := R.own ty_183 [] (.slice none 0 0) []) rfl fun _ => .inl ⟨rfl, rfl, rfl⟩
          have hr := Option.some.inj hF
          subst hr
          exact rets (vs := [(.slice none 0 0)]) hQ rfl ⟨rv_tmp rfl, trivial⟩ ⟨(.slice none 0 0), [], rfl, hB39, hS114.sel [3, 1, 0] rfl⟩
        · replace hF := ifN h112 hF
          refine W.skip ?_
          exact fun a ha => hJ32 (u35.2.2.1) (u35.2.2.2) (u3.1) (v9) (F10) _ hF hB39 (hS40.sel [2, 0, 1] rfl) a (ha.sub ⟨rfl, trivial⟩)
theorem C_spec_l1Cur__of__mut__box (w0 : World) (x0 : ((List Int) × Int × Int)) (b0 : Nat) (v0_0 : Value) (h0_0 : rdS ty_5 (Out (fps [R.blk b0 131 [v0_0, (.int .i64 x0.2.1), (.int .u64 x0.2.2)]]) w0) w0 v0_0 x0.1) (x1 : (List (List UInt8))) (v1_0 : Value) (h1_0 : rdS ty_9 (Out (fps [R.blk b0 131 [v0_0, (.int .i64 x0.2.1), (.int .u64 x0.2.2)]]) w0) w0 v1_0 x1) (hS0 : Sep 0 w0 [R.blk b0 131 [v0_0, (.int .i64 x0.2.1), (.int .u64 x0.2.2)]]) (r : ((List UInt8) × ((List Int) × Int × Int))) (hF : F_spec_l1Cur__of__mut__box x0 x1 = some r) :
    Calls Try.prog 220 [(.pointer (some ⟨b0, 0, none⟩)), v1_0].toArray w0 fun e w' => e = .returned (.string (mkS r.1)) ∧ Below 0 (wE w0) w' ∧ Sep 0 w' [R.rest w0 (fps [R.blk b0 131 [v0_0, (.int .i64 x0.2.1), (.int .u64 x0.2.2)]]), R.blk b0 131 [v0_0, (.int .i64 r.2.2.1), (.int .u64 r.2.2.2)]] := by
  refine calls_mk' Try.func220 rfl Try.ntmps220 rfl rfl fun Q hQ hP => ?_
  have hB : Below (wE w0).heap.size (wE w0) w0 := wE_below w0
  have hS : Sep (wE w0).heap.size w0 [R.rest w0 (fps [R.blk b0 131 [v0_0, (.int .i64 x0.2.1), (.int .u64 x0.2.2)]]), R.blk b0 131 [v0_0, (.int .i64 x0.2.1), (.int .u64 x0.2.2)]] := hS0.rest
  unfold F_spec_l1Cur__of__mut__box at hF
  refine W.seq fun K1 hK1 => ?_
  refine W.region ?_
  refine wl_assign rfl rfl ?_
  refine WL.nil ?_
  refine fun a ha => hK1 _ _ ?_ a ha
  refine W.seq fun K2 hK2 => ?_
  refine W.region ?_
  refine wl_move rfl rfl ?_
  refine wl_move rfl rfl ?_
  refine wl_move rfl rfl ?_
  refine wl_lenr (e := ty_9) (l := x1) Try.underlying185 rfl rfl h1_0 ?_
  obtain ⟨u3, hu3, hF⟩ := bindE hF
  refine wl_call rfl Try.call132 (C_spec_l1Cur__pick__mut__box w0 x0 b0 v0_0 (h0_0.rsto (hS.sel [0, 1] rfl)) (List.length x1 : Int) (hS.sel [1] rfl).base0 _ hu3) rfl ?_
  rintro _ w4 ⟨rfl, hE5, hM6⟩
  refine ⟨_, rfl, ?_⟩
  have hB7 := hS.takeB [1] rfl (M := [R.blk b0 131 [v0_0, (.int .i64 x0.2.1), (.int .u64 x0.2.2)]]) rfl hB hE5 hM6
  have hS8 : Sep (wE w0).heap.size w4 [R.blk b0 131 [v0_0, (.int .i64 u3.2.2.1), (.int .u64 u3.2.2.2)], R.rest w0 (fps [R.blk b0 131 [v0_0, (.int .i64 x0.2.1), (.int .u64 x0.2.2)]])] := hS.take [1] [0] rfl (M := [R.blk b0 131 [v0_0, (.int .i64 x0.2.1), (.int .u64 x0.2.2)]]) rfl hM6 hB.size
  obtain ⟨u9, hu9, hF⟩ := bindE hF
  refine wl_index (e := ty_9) Try.underlying185 rfl rfl rfl h1_0 hu9 ?_
  rintro p10 _ rfl hp11
  refine wl_load_p (vs := [(.string (mkS u9))]) (v := (.string (mkS u9))) tf_9 rfl rfl (hp11.rst (i := 1) hS8 rfl) rfl rfl ?_
  refine wl_assign rfl rfl ?_
  refine WL.nil ?_
  refine fun a ha => hK2 _ _ ?_ a ha
  refine W.ret ?_
  have hr := Option.some.inj hF
  subst hr
  exact rets (vs := [(.string (mkS u9))]) hQ rfl ⟨rv_tmp rfl, trivial⟩ ⟨rfl, hB7, hS8.sel [1, 0] rfl⟩
theorem C_spec_l1Cur__cues__mut__box (w0 : World) (x0 : ((List Int) × Int × Int)) (b0 : Nat) (v0_0 : Value) (h0_0 : rdS ty_5 (Out (fps [R.blk b0 131 [v0_0, (.int .i64 x0.2.1), (.int .u64 x0.2.2)]]) w0) w0 v0_0 x0.1) (hS0 : Sep 0 w0 [R.blk b0 131 [v0_0, (.int .i64 x0.2.1), (.int .u64 x0.2.2)]]) (r : ((List (Int × Int)) × (List (Int × (List UInt8))) × ((List Int) × Int × Int))) (hF : F_spec_l1Cur__cues__mut__box x0 = some r) :
    Calls Try.prog 126 [(.pointer (some ⟨b0, 0, none⟩))].toArray w0 fun e w' => ∃ (q0 : Value) (G0 : List Nat) (q1 : Value) (G1 : List Nat), e = .returned (.tuple #[q0, q1]) ∧ Below 0 (wE w0) w' ∧ Sep 0 w' [R.rest w0 (fps [R.blk b0 131 [v0_0, (.int .i64 x0.2.1), (.int .u64 x0.2.2)]]), R.blk b0 131 [v0_0, (.int .i64 r.2.2.2.1), (.int .u64 r.2.2.2.2)], R.own ty_183 G0 q0 r.1, R.own ty_44 G1 q1 r.2.1] := by
  refine calls_mk' Try.func126 rfl Try.ntmps126 rfl rfl fun Q hQ hP => ?_
  have hB : Below (wE w0).heap.size (wE w0) w0 := wE_below w0
  have hS : Sep (wE w0).heap.size w0 [R.rest w0 (fps [R.blk b0 131 [v0_0, (.int .i64 x0.2.1), (.int .u64 x0.2.2)]]), R.blk b0 131 [v0_0, (.int .i64 x0.2.1), (.int .u64 x0.2.2)]] := hS0.rest
  unfold F_spec_l1Cur__cues__mut__box at hF
  refine W.seq fun K1 hK1 => ?_
  refine W.region ?_
  refine wl_assign rfl rfl ?_
  refine wl_assign rfl rfl ?_
  refine WL.nil ?_
  refine fun a ha => hK1 _ _ ?_ a ha
  refine W.seq fun K2 hK2 => ?_
  refine W.region ?_
  refine wl_move rfl rfl ?_
  obtain ⟨u3, hu3, hF⟩ := bindE hF
  refine wl_call rfl Try.call219 (C_spec_l1Cur__anyMusic__mut__box w0 x0 b0 v0_0 (h0_0.rsto (hS.sel [0, 1] rfl)) (hS.sel [1] rfl).base0 _ hu3) rfl ?_
  rintro _ w4 ⟨v9, F10, rfl, hE5, hM6⟩
  refine ⟨_, rfl, ?_⟩
  have hB7 := hS.takeB [1] rfl (M := [R.blk b0 131 [v0_0, (.int .i64 x0.2.1), (.int .u64 x0.2.2)]]) rfl hB hE5 hM6
  have hS8 : Sep (wE w0).heap.size w4 [R.blk b0 131 [v0_0, (.int .i64 u3.2.2.1), (.int .u64 u3.2.2.2)], R.own ty_183 F10 v9 u3.1, R.rest w0 (fps [R.blk b0 131 [v0_0, (.int .i64 x0.2.1), (.int .u64 x0.2.2)]])] := hS.take [1] [0] rfl (M := [R.blk b0 131 [v0_0, (.int .i64 x0.2.1), (.int .u64 x0.2.2)]]) rfl hM6 hB.size
  refine wl_assign rfl rfl ?_
  refine WL.nil ?_
  refine fun a ha => hK2 _ _ ?_ a ha
  refine W.seq fun K11 hK11 => ?_
  refine W.seq fun K12 hK12 => ?_
  refine W.region ?_
  refine wl_move rfl rfl ?_
  obtain ⟨u13, hu13, hF⟩ := bindE hF
  refine wl_call rfl Try.call141 (C_spec_muGood w4 u3.1 v9 (hS8.own_ro (i := 1) rfl) _ hu13) rfl ?_
  rintro _ w14 ⟨rfl, hb15⟩
  refine ⟨_, rfl, ?_⟩
  have hB16 := hB7.trans (hb15.mono hB7.size)
  have hS17 := hS8.below hb15
  refine wl_not rfl rfl ?_
  refine WL.nil ?_
  refine fun a ha => hK12 _ _ ?_ a ha
  refine W.cond rfl (fun h19 => ?_) (fun h19 => ?_)
  · replace hF := ifP h19 hF
    refine W.seq fun K20 hK20 => ?_
    refine W.region ?_
    refine wl_move rfl rfl ?_
    refine wl_build (zs := [(.int .i64 0), (.string (mkS []))]) (out := [(.int .i64 0), (.string (mkS [115, 116, 97, 114, 116]))]) (vs := [(.int .i64 0), (.string (mkS [115, 116, 97, 114, 116]))]) (css := [[(.int .i64 0)], [(.string (mkS [115, 116, 97, 114, 116]))]]) tf_44 pl_44 rfl rfl rfl rfl rfl ?_
    refine wl_lit (vs := [(.agg #[(.int .i64 0), (.string (mkS [115, 116, 97, 114, 116]))])]) (l := [(0, [115, 116, 97, 114, 116])]) fl_44 Try.underlying24 rfl rfl rfl rfl rfl rfl hB16 hS17 ?_
    intro v21 F22 w23 hb24 hB25 hS26
    refine wl_assign rfl rfl ?_
    refine wl_assign rfl rfl ?_
    refine WL.nil ?_
    refine fun a ha => hK20 _ _ ?_ a ha
    refine W.ret ?_
    have hr := Option.some.inj hF
    subst hr
    exact rets (vs := [v9, v21]) hQ rfl ⟨rv_tmp rfl, rv_tmp rfl, trivial⟩ ⟨v9, F10, v21, F22, rfl, hB25, hS26.sel [3, 1, 2, 0] rfl⟩
  · replace hF := ifN h19 hF
    refine W.skip ?_
    refine fun a ha => hK11 _ _ ?_ a ha
    refine W.seq fun K27 hK27 => ?_
    refine W.region ?_
    refine wl_lit (vs := [(.string (mkS [115, 116, 97, 114, 116])), (.string (mkS [116, 117, 114, 110])), (.string (mkS [104, 97, 108, 116])), (.string (mkS [100, 114, 117, 109, 115])), (.string (mkS [98, 114, 97, 115, 115])), (.string (mkS [102, 108, 97, 103, 115])), (.string (mkS [101, 110, 100])), (.string (mkS [97])), (.string (mkS [97, 98, 99, 100, 101, 102, 103, 104]))]) (l := [[115, 116, 97, 114, 116], [116, 117, 114, 110], [104, 97, 108, 116], [100, 114, 117, 109, 115], [98, 114, 97, 115, 115], [102, 108, 97, 103, 115], [101, 110, 100], [97], [97, 98, 99, 100, 101, 102, 103, 104]]) fl_9 Try.underlying185 rfl rfl rfl rfl rfl rfl hB16 hS17 ?_
    intro v28 F29 w30 hb31 hB32 hS33
    refine wl_assign rfl rfl ?_
    refine WL.nil ?_
    refine fun a ha => hK27 _ _ ?_ a ha
    refine W.seq fun K34 hK34 => ?_
    refine W.region ?_
    refine wl_assign rfl rfl ?_
    refine WL.nil ?_
    refine fun a ha => hK34 _ _ ?_ a ha
    refine W.seq fun K35 hK35 => ?_
    refine W.region ?_
    refine wl_move rfl rfl ?_
    obtain ⟨u36, hu36, hF⟩ := bindE hF
    refine wl_call rfl Try.call125 (C_spec_muCounts w30 u3.1 v9 (hS33.own_ro (i := 2) rfl) _ hu36) rfl ?_
    rintro _ w37 ⟨rfl, hb38⟩
    refine ⟨_, rfl, ?_⟩
    have hB39 := hB32.trans (hb38.mono hB32.size)
    have hS40 := hS33.below hb38
    refine wl_quo rfl rfl rfl (by decide) ?_
    refine wl_add rfl rfl rfl ?_
    refine wl_assign rfl rfl ?_
    refine WL.nil ?_
    refine fun a ha => hK35 _ _ ?_ a ha
    refine W.seq fun K42 hK42 => ?_
    refine W.seq fun K43 hK43 => ?_
    refine W.region ?_
    refine wl_move rfl rfl ?_
    refine wl_move rfl rfl ?_
    obtain ⟨u44, hu44, hF⟩ := bindE hF
    refine wl_call rfl Try.call132 (C_spec_l1Cur__pick__mut__box w37 (x0.1, u3.2.2.1, u3.2.2.2) b0 v0_0 (h0_0.rsto (hS40.sel [3, 1] rfl)) (w64 (1 + (w64 (Int.tdiv u36 6)))) (hS40.sel [1] rfl).base0 _ hu44) rfl ?_
    rintro _ w45 ⟨rfl, hE46, hM47⟩
    refine ⟨_, rfl, ?_⟩
    have hB48 := hS40.takeB [1] rfl (M := [R.blk b0 131 [v0_0, (.int .i64 u3.2.2.1), (.int .u64 u3.2.2.2)]]) rfl hB39 hE46 hM47
    have hS49 : Sep (wE w0).heap.size w45 [R.blk b0 131 [v0_0, (.int .i64 u44.2.2.1), (.int .u64 u44.2.2.2)], R.own ty_9 F29 v28 [[115, 116, 97, 114, 116], [116, 117, 114, 110], [104, 97, 108, 116], [100, 114, 117, 109, 115], [98, 114, 97, 115, 115], [102, 108, 97, 103, 115], [101, 110, 100], [97], [97, 98, 99, 100, 101, 102, 103, 104]], R.own ty_183 F10 v9 u3.1, R.rest w0 (fps [R.blk b0 131 [v0_0, (.int .i64 x0.2.1), (.int .u64 x0.2.2)]])] := hS40.take [1] [0, 2, 3] rfl (M := [R.blk b0 131 [v0_0, (.int .i64 u3.2.2.1), (.int .u64 u3.2.2.2)]]) rfl hM47 hB39.size
    refine wl_assign rfl rfl ?_
    refine WL.nil ?_
    refine fun a ha => hK43 _ _ ?_ a ha
    refine W.block ?_
    refine W.loopk (fun m a w50 => ∃ (y53 : Int) (y54 : Int) (l55 : (List (Int × (List UInt8)))) (y58 : Int) (v56 : Value) (F57 : List Nat), St 122 [(0, (.pointer (some ⟨b0, 0, none⟩))), (4, v9), (5, v28), (6, v56), (7, (.int .i64 (w64 (1 + (w64 (Int.tdiv u36 6)))))), (8, (.int .i64 y58))] a ∧ Below (wE w0).heap.size (wE w0) w50 ∧ Sep (wE w0).heap.size w50 [R.rest w0 (fps [R.blk b0 131 [v0_0, (.int .i64 x0.2.1), (.int .u64 x0.2.2)]]), R.blk b0 131 [v0_0, (.int .i64 y53), (.int .u64 y54)], R.own ty_183 F10 v9 u3.1, R.own ty_9 F29 v28 [[115, 116, 97, 114, 116], [116, 117, 114, 110], [104, 97, 108, 116], [100, 114, 117, 109, 115], [98, 114, 97, 115, 115], [102, 108, 97, 103, 115], [101, 110, 100], [97], [97, 98, 99, 100, 101, 102, 103, 104]], R.own ty_44 F57 v56 l55] ∧ F_spec_l1Cur__cues__mut__box_L1 x0 u36 u3 m y53 y54 l55 y58 = some r) FU ?_ ?_
    ·
      have hS60 := hS49.push0 (r := R.own ty_44 [] (.slice none 0 0) []) rfl fun _ => .inl ⟨rfl, rfl, rfl⟩
      exact fun a ha => ⟨u44.2.2.1, u44.2.2.2, [], u44.1, (.slice none 0 0), [], ha.sub ⟨rfl, rfl, rfl, rfl, rfl, rfl, trivial⟩, hB48, (hS60.sel [4, 1, 3, 2, 0] rfl), hF⟩
    ·
      rintro m62 a w50 ⟨y53, y54, l55, y58, v56, F57, ha, hB51, hS52, hF⟩ KL61 hKL61
      refine W.at ?_ ha
      cases m62 with
      | zero => exact noneE hF
      | succ m62 =>
        obtain ⟨nx59, hnx59⟩ : ∃ k, k = F_spec_l1Cur__cues__mut__box_L1 x0 u36 u3 m62 := ⟨_, rfl⟩
        rw [F_spec_l1Cur__cues__mut__box_L1, ← hnx59] at hF
        refine W.seq fun K63 hK63 => ?_
        refine W.seq fun K64 hK64 => ?_
        obtain ⟨k69, hk69, hF⟩ := jE1 hF
        have hJ70 : ∀ (y68 : Bool) (w65 : World) (_ : k69 y68 = some r) (_ : Below (wE w0).heap.size (wE w0) w65) (_ : Sep (wE w0).heap.size w65 [R.rest w0 (fps [R.blk b0 131 [v0_0, (.int .i64 x0.2.1), (.int .u64 x0.2.2)]]), R.blk b0 131 [v0_0, (.int .i64 y53), (.int .u64 y54)], R.own ty_183 F10 v9 u3.1, R.own ty_9 F29 v28 [[115, 116, 97, 114, 116], [116, 117, 114, 110], [104, 97, 108, 116], [100, 114, 117, 109, 115], [98, 114, 97, 115, 115], [102, 108, 97, 103, 115], [101, 110, 100], [97], [97, 98, 99, 100, 101, 102, 103, 104]], R.own ty_44 F57 v56 l55]), ∀ a, St 122 [(0, (.pointer (some ⟨b0, 0, none⟩))), (4, v9), (5, v28), (6, v56), (7, (.int .i64 (w64 (1 + (w64 (Int.tdiv u36 6)))))), (8, (.int .i64 y58)), (37, (.bool y68))] a → K64 a w65 := by
          intro y68 w65 hF hB66 hS67
          subst hk69
          refine fun a ha => hK64 _ _ ?_ a ha
          refine W.cond rfl (fun h71 => ?_) (fun h71 => ?_)
          · replace hF := ifP h71 hF
            refine W.skip ?_
            refine fun a ha => hK63 _ _ ?_ a ha
            refine W.seq fun K72 hK72 => ?_
            refine W.block ?_
            refine W.region ?_
            refine wl_move rfl rfl ?_
            refine wl_move rfl rfl ?_
            refine wl_move rfl rfl ?_
            refine wl_move rfl rfl ?_
            refine wl_lenr (e := ty_44) (l := l55) Try.underlying24 rfl rfl (hS67.own_ro (i := 4) rfl) ?_
            obtain ⟨u73, hu73, hF⟩ := bindE hF
            refine wl_indexoF (e := ty_9) (i := 3) Try.underlying185 rfl rfl rfl hS67 rfl hu73 ?_
            rintro p74 _ rfl hp75 ho76
            refine wl_load_p (vs := [(.string (mkS u73))]) (v := (.string (mkS u73))) tf_9 rfl rfl hp75 rfl rfl ?_
            refine wl_build (zs := [(.int .i64 0), (.string (mkS []))]) (out := [(.int .i64 y58), (.string (mkS u73))]) (vs := [(.int .i64 y58), (.string (mkS u73))]) (css := [[(.int .i64 y58)], [(.string (mkS u73))]]) tf_44 pl_44 rfl rfl rfl rfl rfl ?_
            refine wl_lit (vs := [(.agg #[(.int .i64 y58), (.string (mkS u73))])]) (l := [(y58, u73)]) fl_44 Try.underlying24 rfl rfl rfl rfl rfl rfl hB66 hS67 ?_
            intro v77 F78 w79 hb80 hB81 hS82
            have hp75 := hp75.keepS (fun b hb => hb80.block b (((hS67.get (i := 3) rfl).2.1 b hb).2)) (fun _ h => h)
            obtain ⟨u83, hu83, hF⟩ := bindE hF
            refine wl_append (i := 5) (S := (· < w79.heap.size)) fl_44 Try.underlying24 rfl rfl rfl hB81 hS82 rfl (hS82.own_ro (i := 0) rfl) hu83 ?_
            intro v84 F85 w86 hk87 hB88 hS89
            have hp75 := hp75.keepS (fun b hb => hk87.2.1 b (((hS82.get (i := 4) rfl).2.1 b hb).2) (hS82.disj (i := 4) (j := 5) rfl rfl rfl b hb)) (fun _ h => h)
            refine wl_assign rfl rfl ?_
            refine WL.nil ?_
            refine fun a ha => hK72 _ _ ?_ a ha
            refine W.region ?_
            refine wl_move rfl rfl ?_
            refine wl_move rfl rfl ?_
            refine wl_move rfl rfl ?_
            obtain ⟨u90, hu90, hF⟩ := bindE hF
            refine wl_call rfl Try.call132 (C_spec_l1Cur__pick__mut__box w86 (x0.1, y53, y54) b0 v0_0 (h0_0.rsto (hS89.sel [1, 2] rfl)) (w64 (1 + (w64 (Int.tdiv u36 6)))) (hS89.sel [2] rfl).base0 _ hu90) rfl ?_
            rintro _ w91 ⟨rfl, hE92, hM93⟩
            refine ⟨_, rfl, ?_⟩
            have hB94 := hS89.takeB [2] rfl (M := [R.blk b0 131 [v0_0, (.int .i64 y53), (.int .u64 y54)]]) rfl hB88 hE92 hM93
            have hS95 : Sep (wE w0).heap.size w91 [R.blk b0 131 [v0_0, (.int .i64 u90.2.2.1), (.int .u64 u90.2.2.2)], R.own ty_44 F78 v77 [(y58, u73)], R.rest w0 (fps [R.blk b0 131 [v0_0, (.int .i64 x0.2.1), (.int .u64 x0.2.2)]]), R.own ty_183 F10 v9 u3.1, R.own ty_9 F29 v28 [[115, 116, 97, 114, 116], [116, 117, 114, 110], [104, 97, 108, 116], [100, 114, 117, 109, 115], [98, 114, 97, 115, 115], [102, 108, 97, 103, 115], [101, 110, 100], [97], [97, 98, 99, 100, 101, 102, 103, 104]], R.own ty_44 F85 v84 u83] := hS89.take [2] [0, 1, 3, 4, 5] rfl (M := [R.blk b0 131 [v0_0, (.int .i64 y53), (.int .u64 y54)]]) rfl hM93 hB88.size
            have hp75 := hp75.keepS (fun b hb => mut_kept hM93 b (((hS89.get (i := 4) rfl).2.1 b hb).2) (nf_cons (hS89.disj (i := 4) (j := 2) rfl rfl rfl b hb) nf_nil)) (fun _ h => h)
            refine wl_add rfl rfl rfl ?_
            refine wl_add rfl rfl rfl ?_
            refine wl_assign rfl rfl ?_
            refine WL.nil ?_
            rw [hnx59] at hF
            exact fun a ha => hKL61 a _ m62 (Nat.lt_succ_self m62) ⟨u90.2.2.1, u90.2.2.2, u83, (w64 (y58 + (w64 (1 + u90.1)))), v84, F85, ha.sub ⟨rfl, rfl, rfl, rfl, rfl, rfl, trivial⟩, hB94, (hS95.sel [2, 0, 3, 4, 5] rfl), hF⟩
          · replace hF := ifN h71 hF
            refine W.exit ?_
            refine fun a ha => hK42 _ _ ?_ a ha
            refine W.seq fun K96 hK96 => ?_
            obtain ⟨k108, hk108, hF⟩ := jE4 hF
            have hJ109 : ∀ (y100 : Int) (y101 : Int) (l102 : (List (Int × Int))) (l105 : (List (Int × (List UInt8)))) (v103 : Value) (F104 : List Nat) (v106 : Value) (F107 : List Nat) (w97 : World) (_ : k108 y100 y101 l102 l105 = some r) (_ : Below (wE w0).heap.size (wE w0) w97) (_ : Sep (wE w0).heap.size w97 [R.rest w0 (fps [R.blk b0 131 [v0_0, (.int .i64 x0.2.1), (.int .u64 x0.2.2)]]), R.blk b0 131 [v0_0, (.int .i64 y100), (.int .u64 y101)], R.own ty_183 F104 v103 l102, R.own ty_44 F107 v106 l105]), ∀ a, St 122 [(0, (.pointer (some ⟨b0, 0, none⟩))), (4, v103), (6, v106)] a → K96 a w97 := by
              intro y100 y101 l102 l105 v103 F104 v106 F107 w97 hF hB98 hS99
              subst hk108
              refine fun a ha => hK96 _ _ ?_ a ha
              refine W.seq fun K110 hK110 => ?_
              obtain ⟨k119, hk119, hF⟩ := jE3 hF
              have hJ120 : ∀ (y114 : Int) (y115 : Int) (l116 : (List (Int × (List UInt8)))) (v117 : Value) (F118 : List Nat) (w111 : World) (_ : k119 y114 y115 l116 = some r) (_ : Below (wE w0).heap.size (wE w0) w111) (_ : Sep (wE w0).heap.size w111 [R.rest w0 (fps [R.blk b0 131 [v0_0, (.int .i64 x0.2.1), (.int .u64 x0.2.2)]]), R.blk b0 131 [v0_0, (.int .i64 y114), (.int .u64 y115)], R.own ty_183 F104 v103 l102, R.own ty_44 F118 v117 l116]), ∀ a, St 122 [(4, v103), (6, v117)] a → K110 a w111 := by
                intro y114 y115 l116 v117 F118 w111 hF hB112 hS113
                subst hk119
                refine fun a ha => hK110 _ _ ?_ a ha
                refine W.seq fun K121 hK121 => ?_
                refine W.region ?_
                refine wl_move rfl rfl ?_
                refine wl_move rfl rfl ?_
                refine wl_assign rfl rfl ?_
                refine wl_assign rfl rfl ?_
                refine WL.nil ?_
                refine fun a ha => hK121 _ _ ?_ a ha
                refine W.ret ?_
                have hr := Option.some.inj hF
                subst hr
                exact rets (vs := [v103, v117]) hQ rfl ⟨rv_tmp rfl, rv_tmp rfl, trivial⟩ ⟨v103, F104, v117, F118, rfl, hB112, hS113.sel [0, 1, 2, 3] rfl⟩
              refine W.seq fun K122 hK122 => ?_
              refine W.region ?_
              refine wl_move rfl rfl ?_
              refine wl_lenr (e := ty_44) (l := l105) Try.underlying24 rfl rfl (hS99.own_ro (i := 3) rfl) ?_
              refine wl_gtr rfl rfl rfl ?_
              refine WL.nil ?_
              refine fun a ha => hK122 _ _ ?_ a ha
              refine W.cond rfl (fun h123 => ?_) (fun h123 => ?_)
              · replace hF := ifP h123 hF
                refine W.seq fun K124 hK124 => ?_
                refine W.region ?_
                refine wl_move rfl rfl ?_
                refine wl_move rfl rfl ?_
                refine wl_move rfl rfl ?_
                refine wl_lenr (e := ty_44) (l := l105) Try.underlying24 rfl rfl (hS99.own_ro (i := 3) rfl) ?_
                obtain ⟨u125, hu125, hF⟩ := bindE hF
                refine wl_call rfl Try.call132 (C_spec_l1Cur__pick__mut__box w97 (x0.1, y100, y101) b0 v0_0 (h0_0.rsto (hS99.sel [0, 1] rfl)) (List.length l105 : Int) (hS99.sel [1] rfl).base0 _ hu125) rfl ?_
                rintro _ w126 ⟨rfl, hE127, hM128⟩
                refine ⟨_, rfl, ?_⟩
                have hB129 := hS99.takeB [1] rfl (M := [R.blk b0 131 [v0_0, (.int .i64 y100), (.int .u64 y101)]]) rfl hB98 hE127 hM128
                have hS130 : Sep (wE w0).heap.size w126 [R.blk b0 131 [v0_0, (.int .i64 u125.2.2.1), (.int .u64 u125.2.2.2)], R.rest w0 (fps [R.blk b0 131 [v0_0, (.int .i64 x0.2.1), (.int .u64 x0.2.2)]]), R.own ty_183 F104 v103 l102, R.own ty_44 F107 v106 l105] := hS99.take [1] [0, 2, 3] rfl (M := [R.blk b0 131 [v0_0, (.int .i64 y100), (.int .u64 y101)]]) rfl hM128 hB98.size
                obtain ⟨u131, hu131, hF⟩ := bindE hF
                refine wl_indexoF (e := ty_44) (i := 3) Try.underlying24 rfl rfl rfl hS130 rfl hu131 ?_
                rintro p132 _ rfl hp133 ho134
                refine wl_assign rfl rfl ?_
                refine WL.nil ?_
                refine fun a ha => hK124 _ _ ?_ a ha
                refine W.seq fun K135 hK135 => ?_
                refine W.region ?_
                refine wl_move rfl rfl ?_
                obtain ⟨u136, hu136, hF⟩ := bindE hF
                refine wl_call rfl Try.call132 (C_spec_l1Cur__pick__mut__box w126 (x0.1, u125.2.2.1, u125.2.2.2) b0 v0_0 (h0_0.rsto (hS130.sel [1, 0] rfl)) 24 (hS130.sel [0] rfl).base0 _ hu136) rfl ?_
                rintro _ w137 ⟨rfl, hE138, hM139⟩
                refine ⟨_, rfl, ?_⟩
                have hB140 := hS130.takeB [0] rfl (M := [R.blk b0 131 [v0_0, (.int .i64 u125.2.2.1), (.int .u64 u125.2.2.2)]]) rfl hB129 hE138 hM139
                have hS141 : Sep (wE w0).heap.size w137 [R.blk b0 131 [v0_0, (.int .i64 u136.2.2.1), (.int .u64 u136.2.2.2)], R.rest w0 (fps [R.blk b0 131 [v0_0, (.int .i64 x0.2.1), (.int .u64 x0.2.2)]]), R.own ty_183 F104 v103 l102, R.own ty_44 F107 v106 l105] := hS130.take [0] [1, 2, 3] rfl (M := [R.blk b0 131 [v0_0, (.int .i64 u125.2.2.1), (.int .u64 u125.2.2.2)]]) rfl hM139 hB129.size
                have hp133 := hp133.keepS (fun b hb => mut_kept hM139 b (((hS130.get (i := 3) rfl).2.1 b hb).2) (nf_cons (hS130.disj (i := 3) (j := 0) rfl rfl rfl b hb) nf_nil)) (fun _ h => h)
                refine WL.nil ?_
                refine fun a ha => hK135 _ _ ?_ a ha
                refine W.block ?_
                refine W.seq fun K142 hK142 => ?_
                refine W.region ?_
                refine wl_eql rfl rfl rfl ?_
                refine wl_assign rfl rfl ?_
                refine WL.nil ?_
                refine fun a ha => hK142 _ _ ?_ a ha
                refine W.cond rfl (fun h143 => ?_) (fun h143 => ?_)
                · replace hF := ifP h143 hF
                  refine W.region ?_
                  refine wl_move rfl rfl ?_
                  refine wl_move rfl rfl ?_
                  refine wl_move rfl rfl ?_
                  obtain ⟨u144, hu144, hF⟩ := bindE hF
                  refine wl_call rfl Try.call125 (C_spec_muCounts w137 l102 v103 (hS141.own_ro (i := 2) rfl) _ hu144) rfl ?_
                  rintro _ w145 ⟨rfl, hb146⟩
                  refine ⟨_, rfl, ?_⟩
                  have hB147 := hB140.trans (hb146.mono hB140.size)
                  have hS148 := hS141.below hb146
                  have hp133 := hp133.keepS (fun b hb => hb146.block b (((hS141.get (i := 3) rfl).2.1 b hb).2)) (fun _ h => h)
                  refine wl_sub rfl rfl rfl ?_
                  refine wl_move rfl rfl ?_
                  obtain ⟨u150, hu150, hF⟩ := bindE hF
                  refine wl_call rfl Try.call125 (C_spec_muCounts w145 l102 v103 (hS148.own_ro (i := 2) rfl) _ hu150) rfl ?_
                  rintro _ w151 ⟨rfl, hb152⟩
                  refine ⟨_, rfl, ?_⟩
                  have hB153 := hB147.trans (hb152.mono hB147.size)
                  have hS154 := hS148.below hb152
                  have hp133 := hp133.keepS (fun b hb => hb152.block b (((hS148.get (i := 3) rfl).2.1 b hb).2)) (fun _ h => h)
                  refine wl_lit (vs := [(.int .i64 (-1)), (.int .i64 (w64 (u144 - 1))), (.int .i64 u150)]) (l := [(-1), (w64 (u144 - 1)), u150]) fl_3 Try.underlying29 rfl rfl rfl rfl rfl rfl hB153 hS154 ?_
                  intro v156 F157 w158 hb159 hB160 hS161
                  have hp133 := hp133.keepS (fun b hb => hb159.block b (((hS154.get (i := 3) rfl).2.1 b hb).2)) (fun _ h => h)
                  obtain ⟨u162, hu162, hF⟩ := bindE hF
                  refine wl_call rfl Try.call136 (C_spec_l1Cur__among__mut__box w158 (x0.1, u136.2.2.1, u136.2.2.2) b0 v0_0 (h0_0.rsto (hS161.sel [2, 1] rfl)) [(-1), (w64 (u144 - 1)), u150] v156 (own_out (hS161.sel [0, 1] rfl)) (hS161.sel [1] rfl).base0 _ hu162) rfl ?_
                  rintro _ w163 ⟨rfl, hE164, hM165⟩
                  refine ⟨_, rfl, ?_⟩
                  have hB166 := hS161.takeB [1] rfl (M := [R.blk b0 131 [v0_0, (.int .i64 u136.2.2.1), (.int .u64 u136.2.2.2)]]) rfl hB160 hE164 hM165
                  have hS167 : Sep (wE w0).heap.size w163 [R.blk b0 131 [v0_0, (.int .i64 u162.2.2.1), (.int .u64 u162.2.2.2)], R.own ty_3 F157 v156 [(-1), (w64 (u144 - 1)), u150], R.rest w0 (fps [R.blk b0 131 [v0_0, (.int .i64 x0.2.1), (.int .u64 x0.2.2)]]), R.own ty_183 F104 v103 l102, R.own ty_44 F107 v106 l105] := hS161.take [1] [0, 2, 3, 4] rfl (M := [R.blk b0 131 [v0_0, (.int .i64 u136.2.2.1), (.int .u64 u136.2.2.2)]]) rfl hM165 hB160.size
                  have hp133 := hp133.keepS (fun b hb => mut_kept hM165 b (((hS161.get (i := 4) rfl).2.1 b hb).2) (nf_cons (hS161.disj (i := 4) (j := 1) rfl rfl rfl b hb) nf_nil)) (fun _ h => h)
                  refine wl_nilCheck rfl rfl ?_
                  refine wl_fieldp (o := 0) ff_44_0 rfl rfl ?_
                  refine wl_storeo (i := 4) (o := 0) (vs := [(.int .i64 u162.1)]) (u' := (u162.1, u131.2)) fl_44 tf_3 rfl rfl rfl rfl ho134 hu131 hB166 hS167 rfl rfl ⟨rfl, trivial⟩ rfl ?_
                  intro w168 hk171 hB169 hS170
                  refine WL.nil ?_
                  exact fun a ha => hJ120 (u162.2.2.1) (u162.2.2.2) ((seti l105 u125.1 (u162.1, u131.2))) (v106) (F107) _ hF hB169 (hS170.sel [2, 0, 3, 4] rfl) a (ha.sub ⟨rfl, rfl, trivial⟩)
                · replace hF := ifN h143 hF
                  refine W.seq fun K172 hK172 => ?_
                  refine W.region ?_
                  refine wl_eql rfl rfl rfl ?_
                  refine wl_assign rfl rfl ?_
                  refine WL.nil ?_
                  refine fun a ha => hK172 _ _ ?_ a ha
                  refine W.cond rfl (fun h173 => ?_) (fun h173 => ?_)
                  · replace hF := ifP h173 hF
                    refine W.region ?_
                    refine wl_move rfl rfl ?_
                    refine wl_move rfl rfl ?_
                    refine wl_lit (vs := [(.string (mkS [])), (.string (mkS [65])), (.string (mkS [97, 98, 99, 100, 101, 102, 103, 104, 105])), (.string (mkS [97, 32, 98])), (.string (mkS [115, 116, 97, 114, 116]))]) (l := [[], [65], [97, 98, 99, 100, 101, 102, 103, 104, 105], [97, 32, 98], [115, 116, 97, 114, 116]]) fl_9 Try.underlying185 rfl rfl rfl rfl rfl rfl hB140 hS141 ?_
                    intro v174 F175 w176 hb177 hB178 hS179
                    have hp133 := hp133.keepS (fun b hb => hb177.block b (((hS141.get (i := 3) rfl).2.1 b hb).2)) (fun _ h => h)
                    obtain ⟨u180, hu180, hF⟩ := bindE hF
                    refine wl_call rfl Try.call220 (C_spec_l1Cur__of__mut__box w176 (x0.1, u136.2.2.1, u136.2.2.2) b0 v0_0 (h0_0.rsto (hS179.sel [2, 1] rfl)) [[], [65], [97, 98, 99, 100, 101, 102, 103, 104, 105], [97, 32, 98], [115, 116, 97, 114, 116]] v174 (own_out (hS179.sel [0, 1] rfl)) (hS179.sel [1] rfl).base0 _ hu180) rfl ?_
                    rintro _ w181 ⟨rfl, hE182, hM183⟩
                    refine ⟨_, rfl, ?_⟩
                    have hB184 := hS179.takeB [1] rfl (M := [R.blk b0 131 [v0_0, (.int .i64 u136.2.2.1), (.int .u64 u136.2.2.2)]]) rfl hB178 hE182 hM183
                    have hS185 : Sep (wE w0).heap.size w181 [R.blk b0 131 [v0_0, (.int .i64 u180.2.2.1), (.int .u64 u180.2.2.2)], R.own ty_9 F175 v174 [[], [65], [97, 98, 99, 100, 101, 102, 103, 104, 105], [97, 32, 98], [115, 116, 97, 114, 116]], R.rest w0 (fps [R.blk b0 131 [v0_0, (.int .i64 x0.2.1), (.int .u64 x0.2.2)]]), R.own ty_183 F104 v103 l102, R.own ty_44 F107 v106 l105] := hS179.take [1] [0, 2, 3, 4] rfl (M := [R.blk b0 131 [v0_0, (.int .i64 u136.2.2.1), (.int .u64 u136.2.2.2)]]) rfl hM183 hB178.size
                    have hp133 := hp133.keepS (fun b hb => mut_kept hM183 b (((hS179.get (i := 4) rfl).2.1 b hb).2) (nf_cons (hS179.disj (i := 4) (j := 1) rfl rfl rfl b hb) nf_nil)) (fun _ h => h)
                    refine wl_nilCheck rfl rfl ?_
                    refine wl_fieldp (o := 1) ff_44_1 rfl rfl ?_
                    refine wl_storeo (i := 4) (o := 1) (vs := [(.string (mkS u180.1))]) (u' := (u131.1, u180.1)) fl_44 tf_9 rfl rfl rfl rfl (ho134.add 1) hu131 hB184 hS185 rfl rfl ⟨rfl, trivial⟩ rfl ?_
                    intro w186 hk189 hB187 hS188
                    refine WL.nil ?_
                    exact fun a ha => hJ120 (u180.2.2.1) (u180.2.2.2) ((seti l105 u125.1 (u131.1, u180.1))) (v106) (F107) _ hF hB187 (hS188.sel [2, 0, 3, 4] rfl) a (ha.sub ⟨rfl, rfl, trivial⟩)
                  · replace hF := ifN h173 hF
                    refine W.skip ?_
                    exact fun a ha => hJ120 (u136.2.2.1) (u136.2.2.2) (l105) (v106) (F107) _ hF hB140 (hS141.sel [1, 0, 2, 3] rfl) a (ha.sub ⟨rfl, rfl, trivial⟩)
              · replace hF := ifN h123 hF
                refine W.skip ?_
                exact fun a ha => hJ120 (y100) (y101) (l105) (v106) (F107) _ hF hB98 (hS99.sel [0, 1, 2, 3] rfl) a (ha.sub ⟨rfl, rfl, trivial⟩)
            refine W.seq fun K190 hK190 => ?_
            refine W.region ?_
            refine wl_move rfl rfl ?_
            obtain ⟨u191, hu191, hF⟩ := bindE hF
            refine wl_call rfl Try.call130 (C_spec_l1Cur__one__mut__box w65 (x0.1, y53, y54) b0 v0_0 (h0_0.rsto (hS67.sel [0, 1] rfl)) 24 (hS67.sel [1] rfl).base0 _ hu191) rfl ?_
            rintro _ w192 ⟨rfl, hE193, hM194⟩
            refine ⟨_, rfl, ?_⟩
            have hB195 := hS67.takeB [1] rfl (M := [R.blk b0 131 [v0_0, (.int .i64 y53), (.int .u64 y54)]]) rfl hB66 hE193 hM194
            have hS196 : Sep (wE w0).heap.size w192 [R.blk b0 131 [v0_0, (.int .i64 u191.2.2.1), (.int .u64 u191.2.2.2)], R.rest w0 (fps [R.blk b0 131 [v0_0, (.int .i64 x0.2.1), (.int .u64 x0.2.2)]]), R.own ty_183 F10 v9 u3.1, R.own ty_9 F29 v28 [[115, 116, 97, 114, 116], [116, 117, 114, 110], [104, 97, 108, 116], [100, 114, 117, 109, 115], [98, 114, 97, 115, 115], [102, 108, 97, 103, 115], [101, 110, 100], [97], [97, 98, 99, 100, 101, 102, 103, 104]], R.own ty_44 F57 v56 l55] := hS67.take [1] [0, 2, 3, 4] rfl (M := [R.blk b0 131 [v0_0, (.int .i64 y53), (.int .u64 y54)]]) rfl hM194 hB66.size
            refine WL.nil ?_
            refine fun a ha => hK190 _ _ ?_ a ha
            refine W.cond rfl (fun h197 => ?_) (fun h197 => ?_)
            · replace hF := ifP h197 hF
              refine W.seq fun K198 hK198 => ?_
              refine W.region ?_
              refine wl_assign rfl rfl ?_
              refine WL.nil ?_
              refine fun a ha => hK198 _ _ ?_ a ha
              refine W.seq fun K199 hK199 => ?_
              refine W.block ?_
              refine W.loopk (fun m a w200 => ∃ (l203 : (List (Int × Int))) (v204 : Value) (F205 : List Nat), St 122 [(0, (.pointer (some ⟨b0, 0, none⟩))), (4, v204)] a ∧ Below (wE w0).heap.size (wE w0) w200 ∧ Sep (wE w0).heap.size w200 [R.rest w0 (fps [R.blk b0 131 [v0_0, (.int .i64 x0.2.1), (.int .u64 x0.2.2)]]), R.blk b0 131 [v0_0, (.int .i64 u191.2.2.1), (.int .u64 u191.2.2.2)], R.own ty_183 F205 v204 l203] ∧ F_spec_l1Cur__cues__mut__box_L2 x0 u191 k108 m l203 = some r) FU ?_ ?_
              ·
                have hS207 := hS196.push0 (r := R.own ty_183 [] (.slice none 0 0) []) rfl fun _ => .inl ⟨rfl, rfl, rfl⟩
                exact fun a ha => ⟨[], (.slice none 0 0), [], ha.sub ⟨rfl, rfl, trivial⟩, hB195, (hS207.sel [2, 1, 0] rfl), hF⟩
              ·
                rintro m209 a w200 ⟨l203, v204, F205, ha, hB201, hS202, hF⟩ KL208 hKL208
                refine W.at ?_ ha
                cases m209 with
                | zero => exact noneE hF
                | succ m209 =>
                  obtain ⟨nx206, hnx206⟩ : ∃ k, k = F_spec_l1Cur__cues__mut__box_L2 x0 u191 k108 m209 := ⟨_, rfl⟩
                  rw [F_spec_l1Cur__cues__mut__box_L2, ← hnx206] at hF
                  refine W.seq fun K210 hK210 => ?_
                  refine W.seq fun K211 hK211 => ?_
                  refine W.region ?_
                  refine wl_move rfl rfl ?_
                  refine wl_lenr (e := ty_183) (l := l203) Try.underlying23 rfl rfl (hS202.own_ro (i := 2) rfl) ?_
                  refine wl_lss rfl rfl rfl ?_
                  refine WL.nil ?_
                  refine fun a ha => hK211 _ _ ?_ a ha
                  refine W.cond rfl (fun h212 => ?_) (fun h212 => ?_)
                  · replace hF := ifP h212 hF
                    refine W.skip ?_
                    refine fun a ha => hK210 _ _ ?_ a ha
                    refine W.block ?_
                    refine W.region ?_
                    refine wl_move rfl rfl ?_
                    refine wl_build (zs := [(.int .i64 0), (.int .i64 0)]) (out := [(.int .i64 4), (.int .i64 120)]) (vs := [(.int .i64 4), (.int .i64 120)]) (css := [[(.int .i64 4)], [(.int .i64 120)]]) tf_183 pl_183 rfl rfl rfl rfl rfl ?_
                    refine wl_lit (vs := [(.agg #[(.int .i64 4), (.int .i64 120)])]) (l := [(4, 120)]) fl_183 Try.underlying23 rfl rfl rfl rfl rfl rfl hB201 hS202 ?_
                    intro v213 F214 w215 hb216 hB217 hS218
                    obtain ⟨u219, hu219, hF⟩ := bindE hF
                    refine wl_append (i := 3) (S := (· < w215.heap.size)) fl_183 Try.underlying23 rfl rfl rfl hB217 hS218 rfl (hS218.own_ro (i := 0) rfl) hu219 ?_
                    intro v220 F221 w222 hk223 hB224 hS225
                    refine wl_assign rfl rfl ?_
                    refine WL.nil ?_
                    rw [hnx206] at hF
                    exact fun a ha => hKL208 a _ m209 (Nat.lt_succ_self m209) ⟨u219, v220, F221, ha.sub ⟨rfl, rfl, trivial⟩, hB224, (hS225.sel [1, 2, 3] rfl), hF⟩
                  · replace hF := ifN h212 hF
                    refine W.exit ?_
                    refine fun a ha => hK199 _ _ ?_ a ha
                    refine W.seq fun K226 hK226 => ?_
                    refine W.region ?_
                    refine wl_assign rfl rfl ?_
                    refine WL.nil ?_
                    refine fun a ha => hK226 _ _ ?_ a ha
                    refine W.seq fun K227 hK227 => ?_
                    refine W.region ?_
                    refine wl_move rfl rfl ?_
                    obtain ⟨u228, hu228, hF⟩ := bindE hF
                    refine wl_call rfl Try.call132 (C_spec_l1Cur__pick__mut__box w200 (x0.1, u191.2.2.1, u191.2.2.2) b0 v0_0 (h0_0.rsto (hS202.sel [0, 1] rfl)) 2 (hS202.sel [1] rfl).base0 _ hu228) rfl ?_
                    rintro _ w229 ⟨rfl, hE230, hM231⟩
                    refine ⟨_, rfl, ?_⟩
                    have hB232 := hS202.takeB [1] rfl (M := [R.blk b0 131 [v0_0, (.int .i64 u191.2.2.1), (.int .u64 u191.2.2.2)]]) rfl hB201 hE230 hM231
                    have hS233 : Sep (wE w0).heap.size w229 [R.blk b0 131 [v0_0, (.int .i64 u228.2.2.1), (.int .u64 u228.2.2.2)], R.rest w0 (fps [R.blk b0 131 [v0_0, (.int .i64 x0.2.1), (.int .u64 x0.2.2)]]), R.own ty_183 F205 v204 l203] := hS202.take [1] [0, 2] rfl (M := [R.blk b0 131 [v0_0, (.int .i64 u191.2.2.1), (.int .u64 u191.2.2.2)]]) rfl hM231 hB201.size
                    refine wl_add rfl rfl rfl ?_
                    refine wl_assign rfl rfl ?_
                    refine WL.nil ?_
                    refine fun a ha => hK227 _ _ ?_ a ha
                    refine W.block ?_
                    refine W.loopk (fun m a w234 => ∃ (l237 : (List (Int × (List UInt8)))) (v238 : Value) (F239 : List Nat), St 122 [(0, (.pointer (some ⟨b0, 0, none⟩))), (4, v204), (6, v238), (9, (.int .i64 (w64 (30 + u228.1))))] a ∧ Below (wE w0).heap.size (wE w0) w234 ∧ Sep (wE w0).heap.size w234 [R.rest w0 (fps [R.blk b0 131 [v0_0, (.int .i64 x0.2.1), (.int .u64 x0.2.2)]]), R.blk b0 131 [v0_0, (.int .i64 u228.2.2.1), (.int .u64 u228.2.2.2)], R.own ty_183 F205 v204 l203, R.own ty_44 F239 v238 l237] ∧ F_spec_l1Cur__cues__mut__box_L3 u228 k108 l203 m l237 = some r) FU ?_ ?_
                    ·
                      have hS241 := hS233.push0 (r := R.own ty_44 [] (.slice none 0 0) []) rfl fun _ => .inl ⟨rfl, rfl, rfl⟩
                      exact fun a ha => ⟨[], (.slice none 0 0), [], ha.sub ⟨rfl, rfl, rfl, rfl, trivial⟩, hB232, (hS241.sel [2, 1, 3, 0] rfl), hF⟩
                    ·
                      rintro m243 a w234 ⟨l237, v238, F239, ha, hB235, hS236, hF⟩ KL242 hKL242
                      refine W.at ?_ ha
                      cases m243 with
                      | zero => exact noneE hF
                      | succ m243 =>
                        obtain ⟨nx240, hnx240⟩ : ∃ k, k = F_spec_l1Cur__cues__mut__box_L3 u228 k108 l203 m243 := ⟨_, rfl⟩
                        rw [F_spec_l1Cur__cues__mut__box_L3, ← hnx240] at hF
                        refine W.seq fun K244 hK244 => ?_
                        refine W.seq fun K245 hK245 => ?_
                        refine W.region ?_
                        refine wl_move rfl rfl ?_
                        refine wl_lenr (e := ty_44) (l := l237) Try.underlying24 rfl rfl (hS236.own_ro (i := 3) rfl) ?_
                        refine wl_move rfl rfl ?_
                        refine wl_lss rfl rfl rfl ?_
                        refine WL.nil ?_
                        refine fun a ha => hK245 _ _ ?_ a ha
                        refine W.cond rfl (fun h246 => ?_) (fun h246 => ?_)
                        · replace hF := ifP h246 hF
                          refine W.skip ?_
                          refine fun a ha => hK244 _ _ ?_ a ha
                          refine W.block ?_
                          refine W.region ?_
                          refine wl_move rfl rfl ?_
                          refine wl_move rfl rfl ?_
                          refine wl_lenr (e := ty_44) (l := l237) Try.underlying24 rfl rfl (hS236.own_ro (i := 3) rfl) ?_
                          refine wl_move rfl rfl ?_
                          refine wl_lenr (e := ty_44) (l := l237) Try.underlying24 rfl rfl (hS236.own_ro (i := 3) rfl) ?_
                          refine wl_quo rfl rfl rfl (by decide) ?_
                          refine wl_add rfl rfl rfl ?_
                          refine wl_convi Try.underlying3 Try.underlying5 rfl rfl ?_
                          refine wl_move rfl rfl ?_
                          refine wl_lenr (e := ty_44) (l := l237) Try.underlying24 rfl rfl (hS236.own_ro (i := 3) rfl) ?_
                          refine wl_rem rfl rfl rfl (by decide) ?_
                          refine wl_add rfl rfl rfl ?_
                          refine wl_convi Try.underlying3 Try.underlying5 rfl rfl ?_
                          refine wl_lit (vs := [(.int .u8 (wu8 (w64 (97 + (w64 (Int.tdiv (List.length l237 : Int) 26)))))), (.int .u8 (wu8 (w64 (97 + (Int.tmod (List.length l237 : Int) 26)))))]) (l := [(wu8 (w64 (97 + (w64 (Int.tdiv (List.length l237 : Int) 26))))), (wu8 (w64 (97 + (Int.tmod (List.length l237 : Int) 26))))]) fl_5 Try.underlying22 rfl rfl rfl rfl rfl rfl hB235 hS236 ?_
                          intro v247 F248 w249 hb250 hB251 hS252
                          refine wl_convb fl_5 Try.underlying22 Try.underlying5 Try.underlying9 rfl rfl rfl (hS252.own_ro (i := 0) rfl) ?_
                          refine wl_build (zs := [(.int .i64 0), (.string (mkS []))]) (out := [(.int .i64 (List.length l237 : Int)), (.string (mkS (bytesOf [(wu8 (w64 (97 + (w64 (Int.tdiv (List.length l237 : Int) 26))))), (wu8 (w64 (97 + (Int.tmod (List.length l237 : Int) 26))))])))]) (vs := [(.int .i64 (List.length l237 : Int)), (.string (mkS (bytesOf [(wu8 (w64 (97 + (w64 (Int.tdiv (List.length l237 : Int) 26))))), (wu8 (w64 (97 + (Int.tmod (List.length l237 : Int) 26))))])))]) (css := [[(.int .i64 (List.length l237 : Int))], [(.string (mkS (bytesOf [(wu8 (w64 (97 + (w64 (Int.tdiv (List.length l237 : Int) 26))))), (wu8 (w64 (97 + (Int.tmod (List.length l237 : Int) 26))))])))]]) tf_44 pl_44 rfl rfl rfl rfl rfl ?_
                          refine wl_lit (vs := [(.agg #[(.int .i64 (List.length l237 : Int)), (.string (mkS (bytesOf [(wu8 (w64 (97 + (w64 (Int.tdiv (List.length l237 : Int) 26))))), (wu8 (w64 (97 + (Int.tmod (List.length l237 : Int) 26))))])))])]) (l := [((List.length l237 : Int), (bytesOf [(wu8 (w64 (97 + (w64 (Int.tdiv (List.length l237 : Int) 26))))), (wu8 (w64 (97 + (Int.tmod (List.length l237 : Int) 26))))]))]) fl_44 Try.underlying24 rfl rfl rfl rfl rfl rfl hB251 hS252 ?_
                          intro v253 F254 w255 hb256 hB257 hS258
                          obtain ⟨u259, hu259, hF⟩ := bindE hF
                          refine wl_append (i := 5) (S := (· < w255.heap.size)) fl_44 Try.underlying24 rfl rfl rfl hB257 hS258 rfl (hS258.own_ro (i := 0) rfl) hu259 ?_
                          intro v260 F261 w262 hk263 hB264 hS265
                          refine wl_assign rfl rfl ?_
                          refine WL.nil ?_
                          rw [hnx240] at hF
                          exact fun a ha => hKL242 a _ m243 (Nat.lt_succ_self m243) ⟨u259, v260, F261, ha.sub ⟨rfl, rfl, rfl, rfl, trivial⟩, hB264, (hS265.sel [2, 3, 4, 5] rfl), hF⟩
                        · replace hF := ifN h246 hF
                          refine W.exit ?_
                          exact fun a ha => hJ109 (u228.2.2.1) (u228.2.2.2) (l203) (l237) (v204) (F205) (v238) (F239) _ hF hB235 (hS236.sel [0, 1, 2, 3] rfl) a (ha.sub ⟨rfl, rfl, rfl, trivial⟩)
            · replace hF := ifN h197 hF
              refine W.skip ?_
              exact fun a ha => hJ109 (u191.2.2.1) (u191.2.2.2) (u3.1) (l55) (v9) (F10) (v56) (F57) _ hF hB195 (hS196.sel [1, 0, 2, 4] rfl) a (ha.sub ⟨rfl, rfl, rfl, trivial⟩)
        refine W.region ?_
        refine wl_move rfl rfl ?_
        refine wl_move rfl rfl ?_
        obtain ⟨u266, hu266, hF⟩ := bindE hF
        refine wl_call rfl Try.call125 (C_spec_muCounts w50 u3.1 v9 (hS52.own_ro (i := 2) rfl) _ hu266) rfl ?_
        rintro _ w267 ⟨rfl, hb268⟩
        refine ⟨_, rfl, ?_⟩
        have hB269 := hB51.trans (hb268.mono hB51.size)
        have hS270 := hS52.below hb268
        refine wl_lss rfl rfl rfl ?_
        refine wl_move rfl rfl ?_
        rcases bE (decide (y58 < u266)) with h272 | h272
        · replace hF := ifP h272 hF
          refine wl_on rfl rfl h272 ?_
          refine wl_move rfl rfl ?_
          refine wl_on rfl rfl h272 ?_
          refine wl_lenr (e := ty_44) (l := l55) Try.underlying24 rfl rfl (hS270.own_ro (i := 4) rfl) ?_
          refine wl_on rfl rfl h272 ?_
          refine wl_move rfl rfl ?_
          refine wl_on rfl rfl h272 ?_
          refine wl_lenr (e := ty_9) (l := [[115, 116, 97, 114, 116], [116, 117, 114, 110], [104, 97, 108, 116], [100, 114, 117, 109, 115], [98, 114, 97, 115, 115], [102, 108, 97, 103, 115], [101, 110, 100], [97], [97, 98, 99, 100, 101, 102, 103, 104]]) Try.underlying185 rfl rfl (hS270.own_ro (i := 3) rfl) ?_
          refine wl_on rfl rfl h272 ?_
          refine wl_lss rfl rfl rfl ?_
          refine wl_pick_t rfl rfl h272 rfl ?_
          refine WL.nil ?_
          exact fun a ha => hJ70 ((decide ((List.length l55 : Int) < (List.length [[115, 116, 97, 114, 116], [116, 117, 114, 110], [104, 97, 108, 116], [100, 114, 117, 109, 115], [98, 114, 97, 115, 115], [102, 108, 97, 103, 115], [101, 110, 100], [97], [97, 98, 99, 100, 101, 102, 103, 104]] : Int)))) _ hF hB269 (hS270.sel [0, 1, 2, 3, 4] rfl) a (ha.sub ⟨rfl, rfl, rfl, rfl, rfl, rfl, rfl, trivial⟩)
        · replace hF := ifN h272 hF
          refine wl_off rfl rfl rfl h272 ?_
          refine wl_off rfl rfl rfl h272 ?_
          refine wl_off rfl rfl rfl h272 ?_
          refine wl_off rfl rfl rfl h272 ?_
          refine wl_off rfl rfl rfl h272 ?_
          refine wl_pick_f rfl rfl h272 rfl ?_
          refine WL.nil ?_
          exact fun a ha => hJ70 (false) _ hF hB269 (hS270.sel [0, 1, 2, 3, 4] rfl) a (ha.sub ⟨rfl, rfl, rfl, rfl, rfl, rfl, rfl, trivial⟩)
theorem C_spec_DrawAreCues (w0 : World) (x0 : (List Int)) (v0_0 : Value) (h0_0 : rdS ty_5 (· < w0.heap.size) w0 v0_0 x0) (r : ((List (Int × Int)) × (List (Int × (List UInt8))))) (hF : F_spec_DrawAreCues x0 = some r) :
    Calls Try.prog 117 [v0_0].toArray w0 fun e w' => ∃ (q0 : Value) (G0 : List Nat) (q1 : Value) (G1 : List Nat), e = .returned (.tuple #[q0, q1]) ∧ Below w0.heap.size w0 w' ∧ Sep w0.heap.size w' [R.own ty_183 G0 q0 r.1, R.own ty_44 G1 q1 r.2] := by
  refine calls_mk' Try.func117 rfl Try.ntmps117 rfl rfl fun Q hQ hP => ?_
  have hB : Below w0.heap.size w0 w0 := Below.refl _ _
  have hS : Sep w0.heap.size w0 [] := Sep.nil _ _
  unfold F_spec_DrawAreCues at hF
  refine W.seq fun K1 hK1 => ?_
  refine W.region ?_
  refine wl_assign rfl rfl ?_
  refine wl_assign rfl rfl ?_
  refine WL.nil ?_
  refine fun a ha => hK1 _ _ ?_ a ha
  refine W.seq fun K2 hK2 => ?_
  refine W.region ?_
  refine wl_move rfl rfl ?_
  refine wl_build (zs := [(.slice none 0 0), (.int .i64 0), (.int .u64 0)]) (out := [v0_0, (.int .i64 0), (.int .u64 0)]) (vs := [v0_0]) (css := [[v0_0]]) tf_131 pl_131 rfl rfl (by simp only [List.map_cons, List.map_nil, cells_one ((h0_0.ro hB).one)] <;> rfl) rfl rfl ?_
  refine wl_box (cs := [v0_0, (.int .i64 0), (.int .u64 0)]) rfl rfl rfl hB hS ?_
  intro b3 w4 hb5 hB6 hS7
  refine wl_assign rfl rfl ?_
  refine WL.nil ?_
  refine fun a ha => hK2 _ _ ?_ a ha
  refine W.seq fun K8 hK8 => ?_
  refine W.region ?_
  refine wl_move rfl rfl ?_
  obtain ⟨u9, hu9, hF⟩ := bindE hF
  refine wl_call rfl Try.call126 (C_spec_l1Cur__cues__mut__box w4 (x0, 0, 0) b3 v0_0 (h0_0.oldo hB6 (hS7.sel [0] rfl)) (hS7.sel [0] rfl).base0 _ hu9) rfl ?_
  rintro _ w10 ⟨v15, F16, v17, F18, rfl, hE11, hM12⟩
  refine ⟨_, rfl, ?_⟩
  have hB13 := hS7.takeB [0] rfl (M := [R.blk b3 131 [v0_0, (.int .i64 0), (.int .u64 0)]]) rfl hB6 hE11 hM12
  have hS14 : Sep w0.heap.size w10 [R.blk b3 131 [v0_0, (.int .i64 u9.2.2.2.1), (.int .u64 u9.2.2.2.2)], R.own ty_183 F16 v15 u9.1, R.own ty_44 F18 v17 u9.2.1] := hS7.take [0] [] rfl (M := [R.blk b3 131 [v0_0, (.int .i64 0), (.int .u64 0)]]) rfl hM12 hB6.size
  refine wl_extract rfl rfl rfl ?_
  refine wl_extract rfl rfl rfl ?_
  refine wl_assign rfl rfl ?_
  refine wl_assign rfl rfl ?_
  refine WL.nil ?_
  refine fun a ha => hK8 _ _ ?_ a ha
  refine W.ret ?_
  have hr := Option.some.inj hF
  subst hr
  exact rets (vs := [v15, v17]) hQ rfl ⟨rv_tmp rfl, rv_tmp rfl, trivial⟩ ⟨v15, F16, v17, F18, rfl, hB13, hS14.sel [1, 2] rfl⟩
theorem C_spec_DrawLongestGap (w0 : World) (x0 : (List Int)) (v0_0 : Value) (h0_0 : rdS ty_5 (· < w0.heap.size) w0 v0_0 x0) (r : ((List (Int × Int)) × (List (Int × (List UInt8))))) (hF : F_spec_DrawLongestGap x0 = some r) :
    Calls Try.prog 9 [v0_0].toArray w0 fun e w' => ∃ (q0 : Value) (G0 : List Nat) (q1 : Value) (G1 : List Nat), e = .returned (.tuple #[q0, q1]) ∧ Below w0.heap.size w0 w' ∧ Sep w0.heap.size w' [R.own ty_183 G0 q0 r.1, R.own ty_44 G1 q1 r.2] := by
  refine calls_mk' Try.func9 rfl Try.ntmps9 rfl rfl fun Q hQ hP => ?_
  have hB : Below w0.heap.size w0 w0 := Below.refl _ _
  have hS : Sep w0.heap.size w0 [] := Sep.nil _ _
  unfold F_spec_DrawLongestGap at hF
  refine W.seq fun K1 hK1 => ?_
  refine W.region ?_
  refine wl_assign rfl rfl ?_
  refine wl_assign rfl rfl ?_
  refine WL.nil ?_
  refine fun a ha => hK1 _ _ ?_ a ha
  refine W.seq fun K2 hK2 => ?_
  refine W.region ?_
  refine wl_move rfl rfl ?_
  obtain ⟨u3, hu3, hF⟩ := bindE hF
  refine wl_call rfl Try.call117 (C_spec_DrawAreCues w0 x0 v0_0 (h0_0.ro hB) _ hu3) rfl ?_
  rintro _ w8 ⟨v4, F5, v6, F7, rfl, hb9, hM12⟩
  refine ⟨_, rfl, ?_⟩
  have hB10 := hB.trans (hb9.mono hB.size)
  have hS11 := hS.join hb9 hM12 hB.size
  refine wl_extract rfl rfl rfl ?_
  refine wl_extract rfl rfl rfl ?_
  refine wl_assign rfl rfl ?_
  refine wl_assign rfl rfl ?_
  refine WL.nil ?_
  refine fun a ha => hK2 _ _ ?_ a ha
  refine W.ret ?_
  have hr := Option.some.inj hF
  subst hr
  exact rets (vs := [v4, v6]) hQ rfl ⟨rv_tmp rfl, rv_tmp rfl, trivial⟩ ⟨v4, F5, v6, F7, rfl, hB10, hS11.sel [0, 1] rfl⟩
theorem C_impl_within (w0 : World) (x0 : Int) (x1 : Int) (x2 : Int) (r : Bool) (hF : F_impl_within x0 x1 x2 = some r) :
    Calls Try.prog 128 [(.int .i64 x0), (.int .i64 x1), (.int .i64 x2)].toArray w0 fun e w' => e = .returned (.bool r) ∧ Below w0.heap.size w0 w' := by
  refine calls_mk' Try.func128 rfl Try.ntmps128 rfl rfl fun Q hQ hP => ?_
  have hB : Below w0.heap.size w0 w0 := Below.refl _ _
  have hS : Sep w0.heap.size w0 [] := Sep.nil _ _
  unfold F_impl_within at hF
  refine W.seq fun K1 hK1 => ?_
  refine W.region ?_
  refine wl_assign rfl rfl ?_
  refine WL.nil ?_
  refine fun a ha => hK1 _ _ ?_ a ha
  refine W.seq fun K2 hK2 => ?_
  obtain ⟨k7, hk7, hF⟩ := jE1 hF
  have hJ8 : ∀ (y6 : Bool) (w3 : World) (_ : k7 y6 = some r) (_ : Below w0.heap.size w0 w3) (_ : Sep w0.heap.size w3 []), ∀ a, St 15 [(6, (.bool y6))] a → K2 a w3 := by
    intro y6 w3 hF hB4 hS5
    subst hk7
    refine fun a ha => hK2 _ _ ?_ a ha
    refine W.ret ?_
    have hr := Option.some.inj hF
    subst hr
    exact rets (vs := [(.bool y6)]) hQ rfl ⟨rv_tmp rfl, trivial⟩ ⟨rfl, hB4⟩
  refine W.region ?_
  refine wl_move rfl rfl ?_
  refine wl_move rfl rfl ?_
  refine wl_geq rfl rfl rfl ?_
  refine wl_move rfl rfl ?_
  rcases bE (decide (x1 ≤ x0)) with h9 | h9
  · replace hF := ifP h9 hF
    refine wl_on rfl rfl h9 ?_
    refine wl_move rfl rfl ?_
    refine wl_on rfl rfl h9 ?_
    refine wl_move rfl rfl ?_
    refine wl_on rfl rfl h9 ?_
    refine wl_leq rfl rfl rfl ?_
    refine wl_pick_t rfl rfl h9 rfl ?_
    refine wl_assign rfl rfl ?_
    refine WL.nil ?_
    exact fun a ha => hJ8 ((decide (x0 ≤ x2))) _ hF hB (hS.sel [] rfl) a (ha.sub ⟨rfl, trivial⟩)
  · replace hF := ifN h9 hF
    refine wl_off rfl rfl rfl h9 ?_
    refine wl_off rfl rfl rfl h9 ?_
    refine wl_off rfl rfl rfl h9 ?_
    refine wl_pick_f rfl rfl h9 rfl ?_
    refine wl_assign rfl rfl ?_
    refine WL.nil ?_
    exact fun a ha => hJ8 (false) _ hF hB (hS.sel [] rfl) a (ha.sub ⟨rfl, trivial⟩)
theorem C_impl_IsMusic (w0 : World) (x0 : (List (Int × Int))) (v0_0 : Value) (h0_0 : rdS ty_183 (· < w0.heap.size) w0 v0_0 x0) (r : Bool) (hF : F_impl_IsMusic x0 = some r) :
    Calls Try.prog 140 [v0_0].toArray w0 fun e w' => e = .returned (.bool r) ∧ Below w0.heap.size w0 w' := by
  refine calls_mk' Try.func140 rfl Try.ntmps140 rfl rfl fun Q hQ hP => ?_
  have hB : Below w0.heap.size w0 w0 := Below.refl _ _
  have hS : Sep w0.heap.size w0 [] := Sep.nil _ _
  unfold F_impl_IsMusic at hF
  refine W.seq fun K1 hK1 => ?_
  refine W.region ?_
  refine wl_assign rfl rfl ?_
  refine WL.nil ?_
  refine fun a ha => hK1 _ _ ?_ a ha
  refine W.seq fun K2 hK2 => ?_
  refine W.seq fun K3 hK3 => ?_
  refine W.region ?_
  refine wl_move rfl rfl ?_
  refine wl_lenr (e := ty_183) (l := x0) Try.underlying23 rfl rfl h0_0 ?_
  refine wl_move rfl rfl ?_
  refine WL.nil ?_
  refine fun a ha => hK3 _ _ ?_ a ha
  refine W.block ?_
  refine W.loopk (fun m a w4 => ∃ (y7 : Int), St 25 [(0, v0_0), (5, v0_0), (6, (.int .i64 (List.length x0 : Int))), (7, (.int .i64 y7))] a ∧ Below w0.heap.size w0 w4 ∧ Sep w0.heap.size w4 [] ∧ F_impl_IsMusic_L1 x0 m y7 = some r) FU ?_ ?_
  ·
    exact fun a ha => ⟨0, ha.sub ⟨rfl, rfl, rfl, rfl, trivial⟩, hB, (hS.sel [] rfl), hF⟩
  ·
    rintro m10 a w4 ⟨y7, ha, hB5, hS6, hF⟩ KL9 hKL9
    refine W.at ?_ ha
    cases m10 with
    | zero => exact noneE hF
    | succ m10 =>
      obtain ⟨nx8, hnx8⟩ : ∃ k, k = F_impl_IsMusic_L1 x0 m10 := ⟨_, rfl⟩
      rw [F_impl_IsMusic_L1, ← hnx8] at hF
      refine W.seq fun K11 hK11 => ?_
      refine W.region ?_
      refine wl_lss rfl rfl rfl ?_
      refine WL.nil ?_
      refine fun a ha => hK11 _ _ ?_ a ha
      refine W.seq fun K12 hK12 => ?_
      refine W.cond rfl (fun h13 => ?_) (fun h13 => ?_)
      · replace hF := ifP h13 hF
        refine W.skip ?_
        refine fun a ha => hK12 _ _ ?_ a ha
        refine W.seq fun K14 hK14 => ?_
        refine W.block ?_
        refine W.seq fun K15 hK15 => ?_
        refine W.region ?_
        obtain ⟨u16, hu16, hF⟩ := bindE hF
        refine wl_index (e := ty_183) Try.underlying23 rfl rfl rfl h0_0 hu16 ?_
        rintro p17 _ rfl hp18
        refine wl_load_p (vs := [(.int .i64 u16.1), (.int .i64 u16.2)]) (v := (.agg #[(.int .i64 u16.1), (.int .i64 u16.2)])) tf_183 rfl rfl (hp18.ro hB5) rfl rfl ?_
        refine wl_alloc (cs := [(.int .i64 0), (.int .i64 0)]) tf_183 rfl rfl hB5 hS6 ?_
        intro b19 w20 hb21 hB22 hS23
        refine wl_store_blk (i := 0) (vs := [(.int .i64 u16.1), (.int .i64 u16.2)]) (cs' := [(.int .i64 u16.1), (.int .i64 u16.2)]) tf_183 rfl rfl rfl rfl hB22 hS23 rfl rfl ⟨rfl, rfl, trivial⟩ rfl ?_
        intro w24 hk27 hB25 hS26
        refine WL.nil ?_
        refine fun a ha => hK15 _ _ ?_ a ha
        refine W.seq fun K28 hK28 => ?_
        obtain ⟨k33, hk33, hF⟩ := jE1 hF
        have hJ34 : ∀ (y32 : Bool) (w29 : World) (_ : k33 y32 = some r) (_ : Below w0.heap.size w0 w29) (_ : Sep w0.heap.size w29 []), ∀ a, St 25 [(0, v0_0), (5, v0_0), (6, (.int .i64 (List.length x0 : Int))), (7, (.int .i64 y7)), (20, (.bool y32))] a → K28 a w29 := by
          intro y32 w29 hF hB30 hS31
          subst hk33
          refine fun a ha => hK28 _ _ ?_ a ha
          refine W.cond rfl (fun h35 => ?_) (fun h35 => ?_)
          · replace hF := ifP h35 hF
            refine W.seq fun K36 hK36 => ?_
            refine W.region ?_
            refine wl_assign rfl rfl ?_
            refine WL.nil ?_
            refine fun a ha => hK36 _ _ ?_ a ha
            refine W.ret ?_
            have hr := Option.some.inj hF
            subst hr
            exact rets (vs := [(.bool false)]) hQ rfl ⟨rv_tmp rfl, trivial⟩ ⟨rfl, hB30⟩
          · replace hF := ifN h35 hF
            refine W.skip ?_
            refine fun a ha => hK14 _ _ ?_ a ha
            refine W.region ?_
            refine wl_add rfl rfl rfl ?_
            refine wl_move rfl rfl ?_
            refine WL.nil ?_
            rw [hnx8] at hF
            exact fun a ha => hKL9 a _ m10 (Nat.lt_succ_self m10) ⟨(w64 (y7 + 1)), ha.sub ⟨rfl, rfl, rfl, rfl, trivial⟩, hB30, (hS31.sel [] rfl), hF⟩
        refine W.region ?_
        refine wl_field (o := 0) (off' := 0) ff_183_0 rfl rfl rfl ?_
        refine wl_load_blk (i := 0) (vs := [(.int .i64 u16.1)]) (v := (.int .i64 u16.1)) tf_3 rfl rfl hS26 rfl rfl rfl ?_
        obtain ⟨u37, hu37, hF⟩ := bindE hF
        refine wl_call rfl Try.call128 (C_impl_within w24 u16.1 1 12 _ hu37) rfl ?_
        rintro _ w38 ⟨rfl, hb39⟩
        refine ⟨_, rfl, ?_⟩
        have hB40 := hB25.trans (hb39.mono hB25.size)
        have hS41 := hS26.below hb39
        refine wl_not rfl rfl ?_
        refine wl_move rfl rfl ?_
        rcases bE (!u37) with h43 | h43
        · replace hF := ifP h43 hF
          refine wl_off rfl rfl rfl h43 ?_
          refine wl_off rfl rfl rfl h43 ?_
          refine wl_off rfl rfl rfl h43 ?_
          refine wl_off rfl rfl rfl h43 ?_
          refine wl_pick_t rfl rfl h43 rfl ?_
          refine WL.nil ?_
          exact fun a ha => hJ34 (true) _ hF hB40 (hS41.sel [] rfl) a (ha.sub ⟨rfl, rfl, rfl, rfl, rfl, trivial⟩)
        · replace hF := ifN h43 hF
          refine wl_on rfl rfl h43 ?_
          refine wl_field (o := 1) (off' := 1) ff_183_1 rfl rfl rfl ?_
          refine wl_on rfl rfl h43 ?_
          refine wl_load_blk (i := 0) (vs := [(.int .i64 u16.2)]) (v := (.int .i64 u16.2)) tf_3 rfl rfl hS41 rfl rfl rfl ?_
          refine wl_on rfl rfl h43 ?_
          obtain ⟨u44, hu44, hF⟩ := bindE hF
          refine wl_call rfl Try.call128 (C_impl_within w38 u16.2 40 220 _ hu44) rfl ?_
          rintro _ w45 ⟨rfl, hb46⟩
          refine ⟨_, rfl, ?_⟩
          have hB47 := hB40.trans (hb46.mono hB40.size)
          have hS48 := hS41.below hb46
          refine wl_on rfl rfl h43 ?_
          refine wl_not rfl rfl ?_
          refine wl_pick_f rfl rfl h43 rfl ?_
          refine WL.nil ?_
          exact fun a ha => hJ34 ((!u44)) _ hF hB47 (hS48.sel [] rfl) a (ha.sub ⟨rfl, rfl, rfl, rfl, rfl, trivial⟩)
      · replace hF := ifN h13 hF
        refine W.exit ?_
        refine fun a ha => hK2 _ _ ?_ a ha
        refine W.seq fun K50 hK50 => ?_
        refine W.region ?_
        refine wl_move rfl rfl ?_
        refine wl_lenr (e := ty_183) (l := x0) Try.underlying23 rfl rfl h0_0 ?_
        obtain ⟨u51, hu51, hF⟩ := bindE hF
        refine wl_call rfl Try.call128 (C_impl_within w4 (List.length x0 : Int) 1 40 _ hu51) rfl ?_
        rintro _ w52 ⟨rfl, hb53⟩
        refine ⟨_, rfl, ?_⟩
        have hB54 := hB5.trans (hb53.mono hB5.size)
        have hS55 := hS6.below hb53
        refine wl_assign rfl rfl ?_
        refine WL.nil ?_
        refine fun a ha => hK50 _ _ ?_ a ha
        refine W.ret ?_
        have hr := Option.some.inj hF
        subst hr
        exact rets (vs := [(.bool u51)]) hQ rfl ⟨rv_tmp rfl, trivial⟩ ⟨rfl, hB54⟩
theorem C_impl_countsOf (w0 : World) (x0 : (List (Int × Int))) (v0_0 : Value) (h0_0 : rdS ty_183 (· < w0.heap.size) w0 v0_0 x0) (r : Int) (hF : F_impl_countsOf x0 = some r) :
    Calls Try.prog 121 [v0_0].toArray w0 fun e w' => e = .returned (.int .i64 r) ∧ Below w0.heap.size w0 w' := by
  refine calls_mk' Try.func121 rfl Try.ntmps121 rfl rfl fun Q hQ hP => ?_
  have hB : Below w0.heap.size w0 w0 := Below.refl _ _
  have hS : Sep w0.heap.size w0 [] := Sep.nil _ _
  unfold F_impl_countsOf at hF
  refine W.seq fun K1 hK1 => ?_
  refine W.region ?_
  refine wl_assign rfl rfl ?_
  refine WL.nil ?_
  refine fun a ha => hK1 _ _ ?_ a ha
  refine W.seq fun K2 hK2 => ?_
  refine W.region ?_
  refine wl_assign rfl rfl ?_
  refine WL.nil ?_
  refine fun a ha => hK2 _ _ ?_ a ha
  refine W.seq fun K3 hK3 => ?_
  refine W.seq fun K4 hK4 => ?_
  refine W.region ?_
  refine wl_move rfl rfl ?_
  refine wl_lenr (e := ty_183) (l := x0) Try.underlying23 rfl rfl h0_0 ?_
  refine wl_move rfl rfl ?_
  refine WL.nil ?_
  refine fun a ha => hK4 _ _ ?_ a ha
  refine W.block ?_
  refine W.loopk (fun m a w5 => ∃ (y8 : Int) (y9 : Int), St 18 [(3, (.int .i64 y8)), (6, v0_0), (7, (.int .i64 (List.length x0 : Int))), (8, (.int .i64 y9))] a ∧ Below w0.heap.size w0 w5 ∧ Sep w0.heap.size w5 [] ∧ F_impl_countsOf_L1 x0 m y8 y9 = some r) FU ?_ ?_
  ·
    exact fun a ha => ⟨0, 0, ha.sub ⟨rfl, rfl, rfl, rfl, trivial⟩, hB, (hS.sel [] rfl), hF⟩
  ·
    rintro m12 a w5 ⟨y8, y9, ha, hB6, hS7, hF⟩ KL11 hKL11
    refine W.at ?_ ha
    cases m12 with
    | zero => exact noneE hF
    | succ m12 =>
      obtain ⟨nx10, hnx10⟩ : ∃ k, k = F_impl_countsOf_L1 x0 m12 := ⟨_, rfl⟩
      rw [F_impl_countsOf_L1, ← hnx10] at hF
      refine W.seq fun K13 hK13 => ?_
      refine W.region ?_
      refine wl_lss rfl rfl rfl ?_
      refine WL.nil ?_
      refine fun a ha => hK13 _ _ ?_ a ha
      refine W.seq fun K14 hK14 => ?_
      refine W.cond rfl (fun h15 => ?_) (fun h15 => ?_)
      · replace hF := ifP h15 hF
        refine W.skip ?_
        refine fun a ha => hK14 _ _ ?_ a ha
        refine W.seq fun K16 hK16 => ?_
        refine W.block ?_
        refine W.seq fun K17 hK17 => ?_
        refine W.region ?_
        obtain ⟨u18, hu18, hF⟩ := bindE hF
        refine wl_index (e := ty_183) Try.underlying23 rfl rfl rfl h0_0 hu18 ?_
        rintro p19 _ rfl hp20
        refine wl_load_p (vs := [(.int .i64 u18.1), (.int .i64 u18.2)]) (v := (.agg #[(.int .i64 u18.1), (.int .i64 u18.2)])) tf_183 rfl rfl (hp20.ro hB6) rfl rfl ?_
        refine wl_alloc (cs := [(.int .i64 0), (.int .i64 0)]) tf_183 rfl rfl hB6 hS7 ?_
        intro b21 w22 hb23 hB24 hS25
        refine wl_store_blk (i := 0) (vs := [(.int .i64 u18.1), (.int .i64 u18.2)]) (cs' := [(.int .i64 u18.1), (.int .i64 u18.2)]) tf_183 rfl rfl rfl rfl hB24 hS25 rfl rfl ⟨rfl, rfl, trivial⟩ rfl ?_
        intro w26 hk29 hB27 hS28
        refine WL.nil ?_
        refine fun a ha => hK17 _ _ ?_ a ha
        refine W.region ?_
        refine wl_move rfl rfl ?_
        refine wl_field (o := 0) (off' := 0) ff_183_0 rfl rfl rfl ?_
        refine wl_load_blk (i := 0) (vs := [(.int .i64 u18.1)]) (v := (.int .i64 u18.1)) tf_3 rfl rfl hS28 rfl rfl rfl ?_
        refine wl_add rfl rfl rfl ?_
        refine wl_assign rfl rfl ?_
        refine WL.nil ?_
        refine fun a ha => hK16 _ _ ?_ a ha
        refine W.region ?_
        refine wl_add rfl rfl rfl ?_
        refine wl_move rfl rfl ?_
        refine WL.nil ?_
        rw [hnx10] at hF
        exact fun a ha => hKL11 a _ m12 (Nat.lt_succ_self m12) ⟨(w64 (y8 + u18.1)), (w64 (y9 + 1)), ha.sub ⟨rfl, rfl, rfl, rfl, trivial⟩, hB27, (hS28.sel [] rfl), hF⟩
      · replace hF := ifN h15 hF
        refine W.exit ?_
        refine fun a ha => hK3 _ _ ?_ a ha
        refine W.seq fun K30 hK30 => ?_
        refine W.region ?_
        refine wl_move rfl rfl ?_
        refine wl_assign rfl rfl ?_
        refine WL.nil ?_
        refine fun a ha => hK30 _ _ ?_ a ha
        refine W.ret ?_
        have hr := Option.some.inj hF
        subst hr
        exact rets (vs := [(.int .i64 y8)]) hQ rfl ⟨rv_tmp rfl, trivial⟩ ⟨rfl, hB6⟩
theorem C_impl_isName (w0 : World) (x0 : (List UInt8)) (r : Bool) (hF : F_impl_isName x0 = some r) :
    Calls Try.prog 222 [(.string (mkS x0))].toArray w0 fun e w' => e = .returned (.bool r) ∧ Below w0.heap.size w0 w' := by
  refine calls_mk' Try.func222 rfl Try.ntmps222 rfl rfl fun Q hQ hP => ?_
  have hB : Below w0.heap.size w0 w0 := Below.refl _ _
  have hS : Sep w0.heap.size w0 [] := Sep.nil _ _
  unfold F_impl_isName at hF
  refine W.seq fun K1 hK1 => ?_
  refine W.region ?_
  refine wl_assign rfl rfl ?_
  refine WL.nil ?_
  refine fun a ha => hK1 _ _ ?_ a ha
  refine W.seq fun K2 hK2 => ?_
  refine W.seq fun K3 hK3 => ?_
  refine W.region ?_
  refine wl_assign rfl rfl ?_
  refine WL.nil ?_
  refine fun a ha => hK3 _ _ ?_ a ha
  refine W.block ?_
  refine W.loopk (fun m a w4 => ∃ (y7 : Int), St 23 [(0, (.string (mkS x0))), (3, (.int .i64 y7))] a ∧ Below w0.heap.size w0 w4 ∧ Sep w0.heap.size w4 [] ∧ F_impl_isName_L1 x0 m y7 = some r) FU ?_ ?_
  ·
    exact fun a ha => ⟨0, ha.sub ⟨rfl, rfl, trivial⟩, hB, (hS.sel [] rfl), hF⟩
  ·
    rintro m10 a w4 ⟨y7, ha, hB5, hS6, hF⟩ KL9 hKL9
    refine W.at ?_ ha
    cases m10 with
    | zero => exact noneE hF
    | succ m10 =>
      obtain ⟨nx8, hnx8⟩ : ∃ k, k = F_impl_isName_L1 x0 m10 := ⟨_, rfl⟩
      rw [F_impl_isName_L1, ← hnx8] at hF
      refine W.seq fun K11 hK11 => ?_
      refine W.seq fun K12 hK12 => ?_
      refine W.region ?_
      refine wl_move rfl rfl ?_
      refine wl_move rfl rfl ?_
      refine wl_strlen Try.underlying9 rfl rfl ?_
      refine wl_lss rfl rfl rfl ?_
      refine WL.nil ?_
      refine fun a ha => hK12 _ _ ?_ a ha
      refine W.cond rfl (fun h13 => ?_) (fun h13 => ?_)
      · replace hF := ifP h13 hF
        refine W.skip ?_
        refine fun a ha => hK11 _ _ ?_ a ha
        refine W.seq fun K14 hK14 => ?_
        refine W.block ?_
        refine W.seq fun K15 hK15 => ?_
        obtain ⟨k20, hk20, hF⟩ := jE1 hF
        have hJ21 : ∀ (y19 : Bool) (w16 : World) (_ : k20 y19 = some r) (_ : Below w0.heap.size w0 w16) (_ : Sep w0.heap.size w16 []), ∀ a, St 23 [(0, (.string (mkS x0))), (3, (.int .i64 y7)), (19, (.bool y19))] a → K15 a w16 := by
          intro y19 w16 hF hB17 hS18
          subst hk20
          refine fun a ha => hK15 _ _ ?_ a ha
          refine W.cond rfl (fun h22 => ?_) (fun h22 => ?_)
          · replace hF := ifP h22 hF
            refine W.seq fun K23 hK23 => ?_
            refine W.region ?_
            refine wl_assign rfl rfl ?_
            refine WL.nil ?_
            refine fun a ha => hK23 _ _ ?_ a ha
            refine W.ret ?_
            have hr := Option.some.inj hF
            subst hr
            exact rets (vs := [(.bool false)]) hQ rfl ⟨rv_tmp rfl, trivial⟩ ⟨rfl, hB17⟩
          · replace hF := ifN h22 hF
            refine W.skip ?_
            refine fun a ha => hK14 _ _ ?_ a ha
            refine W.region ?_
            refine wl_move rfl rfl ?_
            refine wl_add rfl rfl rfl ?_
            refine wl_assign rfl rfl ?_
            refine WL.nil ?_
            rw [hnx8] at hF
            exact fun a ha => hKL9 a _ m10 (Nat.lt_succ_self m10) ⟨(w64 (y7 + 1)), ha.sub ⟨rfl, rfl, trivial⟩, hB17, (hS18.sel [] rfl), hF⟩
        refine W.region ?_
        refine wl_move rfl rfl ?_
        refine wl_move rfl rfl ?_
        obtain ⟨u24, hu24, hF⟩ := bindE hF
        refine wl_strindex Try.underlying9 rfl rfl rfl hu24 ?_
        refine wl_lss rfl rfl rfl ?_
        refine wl_move rfl rfl ?_
        rcases bE (decide ((UInt8.toNat u24 : Int) < 97)) with h25 | h25
        · replace hF := ifP h25 hF
          refine wl_off rfl rfl rfl h25 ?_
          refine wl_off rfl rfl rfl h25 ?_
          refine wl_off rfl rfl rfl h25 ?_
          refine wl_off rfl rfl rfl h25 ?_
          refine wl_pick_t rfl rfl h25 rfl ?_
          refine WL.nil ?_
          exact fun a ha => hJ21 (true) _ hF hB5 (hS6.sel [] rfl) a (ha.sub ⟨rfl, rfl, rfl, trivial⟩)
        · replace hF := ifN h25 hF
          refine wl_on rfl rfl h25 ?_
          refine wl_move rfl rfl ?_
          refine wl_on rfl rfl h25 ?_
          refine wl_move rfl rfl ?_
          refine wl_on rfl rfl h25 ?_
          obtain ⟨u26, hu26, hF⟩ := bindE hF
          refine wl_strindex Try.underlying9 rfl rfl rfl hu26 ?_
          refine wl_on rfl rfl h25 ?_
          refine wl_gtr rfl rfl rfl ?_
          refine wl_pick_f rfl rfl h25 rfl ?_
          refine WL.nil ?_
          exact fun a ha => hJ21 ((decide (122 < (UInt8.toNat u26 : Int)))) _ hF hB5 (hS6.sel [] rfl) a (ha.sub ⟨rfl, rfl, rfl, trivial⟩)
      · replace hF := ifN h13 hF
        refine W.exit ?_
        refine fun a ha => hK2 _ _ ?_ a ha
        refine W.seq fun K27 hK27 => ?_
        refine W.region ?_
        refine wl_move rfl rfl ?_
        refine wl_strlen Try.underlying9 rfl rfl ?_
        obtain ⟨u28, hu28, hF⟩ := bindE hF
        refine wl_call rfl Try.call128 (C_impl_within w4 (List.length x0 : Int) 1 12 _ hu28) rfl ?_
        rintro _ w29 ⟨rfl, hb30⟩
        refine ⟨_, rfl, ?_⟩
        have hB31 := hB5.trans (hb30.mono hB5.size)
        have hS32 := hS6.below hb30
        refine wl_assign rfl rfl ?_
        refine WL.nil ?_
        refine fun a ha => hK27 _ _ ?_ a ha
        refine W.ret ?_
        have hr := Option.some.inj hF
        subst hr
        exact rets (vs := [(.bool u28)]) hQ rfl ⟨rv_tmp rfl, trivial⟩ ⟨rfl, hB31⟩
theorem C_impl_areCues_1 (w0 : World) (x0 : (Int × (List UInt8))) (y1 : (Int × (List UInt8))) (p1 : Addr) (hp1 : EAt (· < w0.heap.size) w0 p1 [(.int .i64 y1.1), (.string (mkS y1.2))]) (r : Bool) (hF : F_impl_areCues_1 x0 y1 = some r) :
    Calls Try.prog 224 [(.agg #[(.int .i64 x0.1), (.string (mkS x0.2))]), (.pointer (some p1))].toArray w0 fun e w' => e = .returned (.bool r) ∧ Below w0.heap.size w0 w' := by
  refine calls_mk' Try.func224 rfl Try.ntmps224 rfl rfl fun Q hQ hP => ?_
  have hB : Below w0.heap.size w0 w0 := Below.refl _ _
  have hS : Sep w0.heap.size w0 [] := Sep.nil _ _
  unfold F_impl_areCues_1 at hF
  refine W.seq fun K1 hK1 => ?_
  refine W.region ?_
  refine wl_box (cs := [(.int .i64 x0.1), (.string (mkS x0.2))]) rfl rfl rfl hB hS ?_
  intro b2 w3 hb4 hB5 hS6
  refine wl_assign rfl rfl ?_
  refine WL.nil ?_
  refine fun a ha => hK1 _ _ ?_ a ha
  refine W.seq fun K7 hK7 => ?_
  refine W.region ?_
  refine wl_field (o := 1) (off' := 1) ff_44_1 rfl rfl rfl ?_
  refine wl_load_blk (i := 0) (vs := [(.string (mkS x0.2))]) (v := (.string (mkS x0.2))) tf_9 rfl rfl hS6 rfl rfl rfl ?_
  refine wl_fieldp (o := 1) ff_44_1 rfl rfl ?_
  refine wl_load_p (vs := [(.string (mkS y1.2))]) (v := (.string (mkS y1.2))) tf_9 rfl rfl ((hp1.ro hB5).add 1) rfl rfl ?_
  refine wl_streql rfl rfl rfl ?_
  refine wl_assign rfl rfl ?_
  refine WL.nil ?_
  refine fun a ha => hK7 _ _ ?_ a ha
  refine W.ret ?_
  have hr := Option.some.inj hF
  subst hr
  exact rets (vs := [(.bool (x0.2 == y1.2))]) hQ rfl ⟨rv_tmp rfl, trivial⟩ ⟨rfl, hB5⟩
theorem C_slices_IndexFunc_impl_Cue_impl_Cue__impl_areCues_1 (w0 : World) (x0 : (List (Int × (List UInt8)))) (v0_0 : Value) (h0_0 : rdS ty_44 (· < w0.heap.size) w0 v0_0 x0) (y1_0 : (Int × (List UInt8))) (p1_0 : Addr) (hp1_0 : EAt (· < w0.heap.size) w0 p1_0 [(.int .i64 y1_0.1), (.string (mkS y1_0.2))]) (r : Int) (hF : F_slices_IndexFunc_impl_Cue_impl_Cue__impl_areCues_1 x0 y1_0 = some r) :
    Calls Try.prog 256 [v0_0, (.func (.func 224) #[] #[(.pointer (some p1_0))])].toArray w0 fun e w' => e = .returned (.int .i64 r) ∧ Below w0.heap.size w0 w' := by
  refine calls_mk' Try.func256 rfl Try.ntmps256 rfl rfl fun Q hQ hP => ?_
  have hB : Below w0.heap.size w0 w0 := Below.refl _ _
  have hS : Sep w0.heap.size w0 [] := Sep.nil _ _
  unfold F_slices_IndexFunc_impl_Cue_impl_Cue__impl_areCues_1 at hF
  refine W.seq fun K1 hK1 => ?_
  refine W.region ?_
  refine wl_assign rfl rfl ?_
  refine WL.nil ?_
  refine fun a ha => hK1 _ _ ?_ a ha
  refine W.seq fun K2 hK2 => ?_
  refine W.seq fun K3 hK3 => ?_
  refine W.region ?_
  refine wl_move rfl rfl ?_
  refine wl_lenr (e := ty_44) (l := x0) Try.underlying24 rfl rfl h0_0 ?_
  refine wl_move rfl rfl ?_
  refine WL.nil ?_
  refine fun a ha => hK3 _ _ ?_ a ha
  refine W.block ?_
  refine W.loopk (fun m a w4 => ∃ (y7 : Int), St 19 [(0, v0_0), (1, (.func (.func 224) #[] #[(.pointer (some p1_0))])), (7, (.int .i64 (List.length x0 : Int))), (8, (.int .i64 y7))] a ∧ Below w0.heap.size w0 w4 ∧ Sep w0.heap.size w4 [] ∧ F_slices_IndexFunc_impl_Cue_impl_Cue__impl_areCues_1_L1 x0 y1_0 m y7 = some r) FU ?_ ?_
  ·
    exact fun a ha => ⟨0, ha.sub ⟨rfl, rfl, rfl, rfl, trivial⟩, hB, (hS.sel [] rfl), hF⟩
  ·
    rintro m10 a w4 ⟨y7, ha, hB5, hS6, hF⟩ KL9 hKL9
    refine W.at ?_ ha
    cases m10 with
    | zero => exact noneE hF
    | succ m10 =>
      obtain ⟨nx8, hnx8⟩ : ∃ k, k = F_slices_IndexFunc_impl_Cue_impl_Cue__impl_areCues_1_L1 x0 y1_0 m10 := ⟨_, rfl⟩
      rw [F_slices_IndexFunc_impl_Cue_impl_Cue__impl_areCues_1_L1, ← hnx8] at hF
      refine W.seq fun K11 hK11 => ?_
      refine W.region ?_
      refine wl_lss rfl rfl rfl ?_
      refine WL.nil ?_
      refine fun a ha => hK11 _ _ ?_ a ha
      refine W.seq fun K12 hK12 => ?_
      refine W.cond rfl (fun h13 => ?_) (fun h13 => ?_)
      · replace hF := ifP h13 hF
        refine W.skip ?_
        refine fun a ha => hK12 _ _ ?_ a ha
        refine W.seq fun K14 hK14 => ?_
        refine W.block ?_
        refine W.seq fun K15 hK15 => ?_
        refine W.region ?_
        refine wl_move rfl rfl ?_
        refine wl_assign rfl rfl ?_
        refine WL.nil ?_
        refine fun a ha => hK15 _ _ ?_ a ha
        refine W.seq fun K16 hK16 => ?_
        refine W.region ?_
        refine wl_move rfl rfl ?_
        refine wl_move rfl rfl ?_
        refine wl_move rfl rfl ?_
        obtain ⟨u17, hu17, hF⟩ := bindE hF
        refine wl_index (e := ty_44) Try.underlying24 rfl rfl rfl h0_0 hu17 ?_
        rintro p18 _ rfl hp19
        refine wl_load_p (vs := [(.int .i64 u17.1), (.string (mkS u17.2))]) (v := (.agg #[(.int .i64 u17.1), (.string (mkS u17.2))])) tf_44 rfl rfl (hp19.ro hB5) rfl rfl ?_
        obtain ⟨u20, hu20, hF⟩ := bindE hF
        refine wl_callv (caps := [(.pointer (some p1_0))]) (vs := [(.agg #[(.int .i64 u17.1), (.string (mkS u17.2))])]) rfl rfl Try.call224 (C_impl_areCues_1 w4 u17 y1_0 p1_0 (hp1_0.ro hB5) _ hu20) rfl ?_
        rintro _ w21 ⟨rfl, hb22⟩
        refine ⟨_, rfl, ?_⟩
        have hB23 := hB5.trans (hb22.mono hB5.size)
        have hS24 := hS6.below hb22
        refine WL.nil ?_
        refine fun a ha => hK16 _ _ ?_ a ha
        refine W.cond rfl (fun h26 => ?_) (fun h26 => ?_)
        · replace hF := ifP h26 hF
          refine W.seq fun K27 hK27 => ?_
          refine W.region ?_
          refine wl_move rfl rfl ?_
          refine wl_assign rfl rfl ?_
          refine WL.nil ?_
          refine fun a ha => hK27 _ _ ?_ a ha
          refine W.ret ?_
          have hr := Option.some.inj hF
          subst hr
          exact rets (vs := [(.int .i64 y7)]) hQ rfl ⟨rv_tmp rfl, trivial⟩ ⟨rfl, hB23⟩
        · replace hF := ifN h26 hF
          refine W.skip ?_
          refine fun a ha => hK14 _ _ ?_ a ha
          refine W.region ?_
          refine wl_add rfl rfl rfl ?_
          refine wl_move rfl rfl ?_
          refine WL.nil ?_
          rw [hnx8] at hF
          exact fun a ha => hKL9 a _ m10 (Nat.lt_succ_self m10) ⟨(w64 (y7 + 1)), ha.sub ⟨rfl, rfl, rfl, rfl, trivial⟩, hB23, (hS24.sel [] rfl), hF⟩
      · replace hF := ifN h13 hF
        refine W.exit ?_
        refine fun a ha => hK2 _ _ ?_ a ha
        refine W.seq fun K28 hK28 => ?_
        refine W.region ?_
        refine wl_assign rfl rfl ?_
        refine WL.nil ?_
        refine fun a ha => hK28 _ _ ?_ a ha
        refine W.ret ?_
        have hr := Option.some.inj hF
        subst hr
        exact rets (vs := [(.int .i64 (-1))]) hQ rfl ⟨rv_tmp rfl, trivial⟩ ⟨rfl, hB5⟩
theorem C_slices_ContainsFunc_impl_Cue_impl_Cue__impl_areCues_1 (w0 : World) (x0 : (List (Int × (List UInt8)))) (v0_0 : Value) (h0_0 : rdS ty_44 (· < w0.heap.size) w0 v0_0 x0) (y1_0 : (Int × (List UInt8))) (p1_0 : Addr) (hp1_0 : EAt (· < w0.heap.size) w0 p1_0 [(.int .i64 y1_0.1), (.string (mkS y1_0.2))]) (r : Bool) (hF : F_slices_ContainsFunc_impl_Cue_impl_Cue__impl_areCues_1 x0 y1_0 = some r) :
    Calls Try.prog 223 [v0_0, (.func (.func 224) #[] #[(.pointer (some p1_0))])].toArray w0 fun e w' => e = .returned (.bool r) ∧ Below w0.heap.size w0 w' := by
  refine calls_mk' Try.func223 rfl Try.ntmps223 rfl rfl fun Q hQ hP => ?_
  have hB : Below w0.heap.size w0 w0 := Below.refl _ _
  have hS : Sep w0.heap.size w0 [] := Sep.nil _ _
  unfold F_slices_ContainsFunc_impl_Cue_impl_Cue__impl_areCues_1 at hF
  refine W.seq fun K1 hK1 => ?_
  refine W.region ?_
  refine wl_assign rfl rfl ?_
  refine WL.nil ?_
  refine fun a ha => hK1 _ _ ?_ a ha
  refine W.seq fun K2 hK2 => ?_
  refine W.region ?_
  refine wl_move rfl rfl ?_
  refine wl_move rfl rfl ?_
  obtain ⟨u3, hu3, hF⟩ := bindE hF
  refine wl_call rfl Try.call256 (C_slices_IndexFunc_impl_Cue_impl_Cue__impl_areCues_1 w0 x0 v0_0 (h0_0.ro hB) y1_0 p1_0 (hp1_0.ro hB) _ hu3) rfl ?_
  rintro _ w4 ⟨rfl, hb5⟩
  refine ⟨_, rfl, ?_⟩
  have hB6 := hB.trans (hb5.mono hB.size)
  have hS7 := hS.below hb5
  refine wl_geq rfl rfl rfl ?_
  refine wl_assign rfl rfl ?_
  refine WL.nil ?_
  refine fun a ha => hK2 _ _ ?_ a ha
  refine W.ret ?_
  have hr := Option.some.inj hF
  subst hr
  exact rets (vs := [(.bool (decide (0 ≤ u3)))]) hQ rfl ⟨rv_tmp rfl, trivial⟩ ⟨rfl, hB6⟩
theorem C_impl_areCues (w0 : World) (x0 : (List (Int × Int))) (v0_0 : Value) (h0_0 : rdS ty_183 (· < w0.heap.size) w0 v0_0 x0) (x1 : (List (Int × (List UInt8)))) (v1_0 : Value) (h1_0 : rdS ty_44 (· < w0.heap.size) w0 v1_0 x1) (r : Bool) (hF : F_impl_areCues x0 x1 = some r) :
    Calls Try.prog 137 [v0_0, v1_0].toArray w0 fun e w' => e = .returned (.bool r) ∧ Below w0.heap.size w0 w' := by
  refine calls_mk' Try.func137 rfl Try.ntmps137 rfl rfl fun Q hQ hP => ?_
  have hB : Below w0.heap.size w0 w0 := Below.refl _ _
  have hS : Sep w0.heap.size w0 [] := Sep.nil _ _
  unfold F_impl_areCues at hF
  refine W.seq fun K1 hK1 => ?_
  refine W.region ?_
  refine wl_assign rfl rfl ?_
  refine WL.nil ?_
  refine fun a ha => hK1 _ _ ?_ a ha
  refine W.seq fun K2 hK2 => ?_
  refine W.seq fun K3 hK3 => ?_
  refine W.region ?_
  refine wl_move rfl rfl ?_
  refine wl_lenr (e := ty_44) (l := x1) Try.underlying24 rfl rfl h1_0 ?_
  refine wl_gtr rfl rfl rfl ?_
  refine WL.nil ?_
  refine fun a ha => hK3 _ _ ?_ a ha
  refine W.cond rfl (fun h4 => ?_) (fun h4 => ?_)
  · replace hF := ifP h4 hF
    refine W.seq fun K5 hK5 => ?_
    refine W.region ?_
    refine wl_assign rfl rfl ?_
    refine WL.nil ?_
    refine fun a ha => hK5 _ _ ?_ a ha
    refine W.ret ?_
    have hr := Option.some.inj hF
    subst hr
    exact rets (vs := [(.bool false)]) hQ rfl ⟨rv_tmp rfl, trivial⟩ ⟨rfl, hB⟩
  · replace hF := ifN h4 hF
    refine W.skip ?_
    refine fun a ha => hK2 _ _ ?_ a ha
    refine W.seq fun K6 hK6 => ?_
    refine W.region ?_
    refine wl_move rfl rfl ?_
    obtain ⟨u7, hu7, hF⟩ := bindE hF
    refine wl_call rfl Try.call121 (C_impl_countsOf w0 x0 v0_0 (h0_0.ro hB) _ hu7) rfl ?_
    rintro _ w8 ⟨rfl, hb9⟩
    refine ⟨_, rfl, ?_⟩
    have hB10 := hB.trans (hb9.mono hB.size)
    have hS11 := hS.below hb9
    refine wl_assign rfl rfl ?_
    refine WL.nil ?_
    refine fun a ha => hK6 _ _ ?_ a ha
    refine W.seq fun K13 hK13 => ?_
    refine W.seq fun K14 hK14 => ?_
    refine W.region ?_
    refine wl_move rfl rfl ?_
    refine wl_lenr (e := ty_44) (l := x1) Try.underlying24 rfl rfl h1_0 ?_
    refine wl_move rfl rfl ?_
    refine WL.nil ?_
    refine fun a ha => hK14 _ _ ?_ a ha
    refine W.block ?_
    refine W.loopk (fun m a w15 => ∃ (y18 : Int), St 59 [(1, v1_0), (5, (.int .i64 u7)), (13, v1_0), (14, (.int .i64 (List.length x1 : Int))), (15, (.int .i64 y18))] a ∧ Below w0.heap.size w0 w15 ∧ Sep w0.heap.size w15 [] ∧ F_impl_areCues_L1 x1 u7 m y18 = some r) FU ?_ ?_
    ·
      exact fun a ha => ⟨0, ha.sub ⟨rfl, rfl, rfl, rfl, rfl, trivial⟩, hB10, (hS11.sel [] rfl), hF⟩
    ·
      rintro m21 a w15 ⟨y18, ha, hB16, hS17, hF⟩ KL20 hKL20
      refine W.at ?_ ha
      cases m21 with
      | zero => exact noneE hF
      | succ m21 =>
        obtain ⟨nx19, hnx19⟩ : ∃ k, k = F_impl_areCues_L1 x1 u7 m21 := ⟨_, rfl⟩
        rw [F_impl_areCues_L1, ← hnx19] at hF
        refine W.seq fun K22 hK22 => ?_
        refine W.region ?_
        refine wl_lss rfl rfl rfl ?_
        refine WL.nil ?_
        refine fun a ha => hK22 _ _ ?_ a ha
        refine W.seq fun K23 hK23 => ?_
        refine W.cond rfl (fun h24 => ?_) (fun h24 => ?_)
        · replace hF := ifP h24 hF
          refine W.skip ?_
          refine fun a ha => hK23 _ _ ?_ a ha
          refine W.seq fun K25 hK25 => ?_
          refine W.block ?_
          refine W.seq fun K26 hK26 => ?_
          refine W.region ?_
          refine wl_move rfl rfl ?_
          obtain ⟨u27, hu27, hF⟩ := bindE hF
          refine wl_index (e := ty_44) Try.underlying24 rfl rfl rfl h1_0 hu27 ?_
          rintro p28 _ rfl hp29
          refine wl_load_p (vs := [(.int .i64 u27.1), (.string (mkS u27.2))]) (v := (.agg #[(.int .i64 u27.1), (.string (mkS u27.2))])) tf_44 rfl rfl (hp29.ro hB16) rfl rfl ?_
          refine wl_alloc (cs := [(.int .i64 0), (.string (mkS []))]) tf_44 rfl rfl hB16 hS17 ?_
          intro b30 w31 hb32 hB33 hS34
          refine wl_assign rfl rfl ?_
          refine wl_store_blk (i := 0) (vs := [(.int .i64 u27.1), (.string (mkS u27.2))]) (cs' := [(.int .i64 u27.1), (.string (mkS u27.2))]) tf_44 rfl rfl rfl rfl hB33 hS34 rfl rfl ⟨rfl, rfl, trivial⟩ rfl ?_
          intro w35 hk38 hB36 hS37
          refine WL.nil ?_
          refine fun a ha => hK26 _ _ ?_ a ha
          refine W.seq fun K39 hK39 => ?_
          refine W.seq fun K40 hK40 => ?_
          obtain ⟨k45, hk45, hF⟩ := jE1 hF
          have hJ46 : ∀ (y44 : Bool) (w41 : World) (_ : k45 y44 = some r) (_ : Below w0.heap.size w0 w41) (_ : Sep w0.heap.size w41 [R.blk b30 44 [(.int .i64 u27.1), (.string (mkS u27.2))]]), ∀ a, St 59 [(1, v1_0), (5, (.int .i64 u7)), (6, (.int .i64 y18)), (7, (.pointer (some ⟨b30, 0, none⟩))), (13, v1_0), (14, (.int .i64 (List.length x1 : Int))), (15, (.int .i64 y18)), (52, (.bool y44))] a → K40 a w41 := by
            intro y44 w41 hF hB42 hS43
            subst hk45
            refine fun a ha => hK40 _ _ ?_ a ha
            refine W.cond rfl (fun h47 => ?_) (fun h47 => ?_)
            · replace hF := ifP h47 hF
              refine W.seq fun K48 hK48 => ?_
              refine W.region ?_
              refine wl_assign rfl rfl ?_
              refine WL.nil ?_
              refine fun a ha => hK48 _ _ ?_ a ha
              refine W.ret ?_
              have hr := Option.some.inj hF
              subst hr
              exact rets (vs := [(.bool false)]) hQ rfl ⟨rv_tmp rfl, trivial⟩ ⟨rfl, hB42⟩
            · replace hF := ifN h47 hF
              refine W.skip ?_
              refine fun a ha => hK39 _ _ ?_ a ha
              refine W.seq fun K49 hK49 => ?_
              refine W.region ?_
              refine wl_move rfl rfl ?_
              refine wl_move rfl rfl ?_
              obtain ⟨u50, hu50, hF⟩ := bindE hF
              refine wl_slice (e := ty_44) Try.underlying24 rfl rfl h1_0 hu50 (.inl ⟨rfl, rfl⟩) (.inr ⟨_, _, rfl, rfl⟩) ?_
              intro v51 hv52
              refine wl_makeFunc (vs := [(.pointer (some ⟨b30, 0, none⟩))]) rfl rfl ?_
              obtain ⟨u53, hu53, hF⟩ := bindE hF
              refine wl_call rfl Try.call223 (C_slices_ContainsFunc_impl_Cue_impl_Cue__impl_areCues_1 w41 u50 v51 (hv52.ro hB42) u27 ⟨b30, 0, none⟩ (blk_EAt (i := 0) hS43 rfl) _ hu53) rfl ?_
              rintro _ w54 ⟨rfl, hb55⟩
              refine ⟨_, rfl, ?_⟩
              have hB56 := hB42.trans (hb55.mono hB42.size)
              have hS57 := hS43.below hb55
              refine WL.nil ?_
              refine fun a ha => hK49 _ _ ?_ a ha
              refine W.cond rfl (fun h59 => ?_) (fun h59 => ?_)
              · replace hF := ifP h59 hF
                refine W.seq fun K60 hK60 => ?_
                refine W.region ?_
                refine wl_assign rfl rfl ?_
                refine WL.nil ?_
                refine fun a ha => hK60 _ _ ?_ a ha
                refine W.ret ?_
                have hr := Option.some.inj hF
                subst hr
                exact rets (vs := [(.bool false)]) hQ rfl ⟨rv_tmp rfl, trivial⟩ ⟨rfl, hB56⟩
              · replace hF := ifN h59 hF
                refine W.skip ?_
                refine fun a ha => hK25 _ _ ?_ a ha
                refine W.region ?_
                refine wl_add rfl rfl rfl ?_
                refine wl_move rfl rfl ?_
                refine WL.nil ?_
                rw [hnx19] at hF
                exact fun a ha => hKL20 a _ m21 (Nat.lt_succ_self m21) ⟨(w64 (y18 + 1)), ha.sub ⟨rfl, rfl, rfl, rfl, rfl, trivial⟩, hB56, (hS57.sel [] rfl), hF⟩
          refine W.regionH mixed_ [] hB36 hS37 ?_
          intro w61 hb62 hB63 hS64
          have hSW65 := KeepX.refl w61 []
          refine WH.takex (i := 0) rfl (by kernel_rfl) (by kernel_rfl) (by kernel_rfl) hP hSW65 ?_
          refine pr_field (o := 0) (off' := 0) ff_44_0 rfl rfl rfl ?_
          refine WH.takex (i := 1) rfl (by kernel_rfl) (by kernel_rfl) (by kernel_rfl) hP hSW65 ?_
          refine pr_load_blk (i := 0) (vs := [(.int .i64 u27.1)]) (v := (.int .i64 u27.1)) tf_3 rfl rfl hS64 rfl rfl rfl (by simp) ?_
          refine WH.takex (i := 2) rfl (by kernel_rfl) (by kernel_rfl) (by kernel_rfl) hP hSW65 ?_
          refine pr_move rfl rfl ?_
          refine WH.takex (i := 3) rfl (by kernel_rfl) (by kernel_rfl) (by kernel_rfl) hP hSW65 ?_
          refine pr_sub rfl rfl rfl ?_
          refine WH.one (i := 4) (by kernel_rfl) rfl ?_
          obtain ⟨u66, hu66, hF⟩ := bindE hF
          refine wl_call rfl Try.call128 (C_impl_within w61 u27.1 0 (w64 (u7 - 1)) _ hu66) rfl ?_
          rintro _ w67 ⟨rfl, hb68⟩
          refine ⟨_, rfl, ?_⟩
          have hB69 := hB63.trans (hb68.mono hB63.size)
          have hS70 := hS64.below hb68
          have hSW72 := hSW65.ext hb68
          refine WL.nil (WH.ret hSW72 ?_)
          refine WH.takex (i := 5) rfl (by kernel_rfl) (by kernel_rfl) (by kernel_rfl) hP hSW72 ?_
          refine pr_not rfl rfl ?_
          refine WH.takex (i := 6) rfl (by kernel_rfl) (by kernel_rfl) (by kernel_rfl) hP hSW72 ?_
          refine pr_move rfl rfl ?_
          rcases bE (!u66) with h73 | h73
          · replace hF := ifP h73 hF
            refine WH.off (i := 7) rfl (by kernel_rfl) (by kernel_rfl) (by kernel_rfl) hP rfl rfl h73 rfl hSW72 ?_
            refine WH.off (i := 8) rfl (by kernel_rfl) (by kernel_rfl) (by kernel_rfl) hP rfl rfl h73 rfl hSW72 ?_
            refine WH.off (i := 9) rfl (by kernel_rfl) (by kernel_rfl) (by kernel_rfl) hP rfl rfl h73 rfl hSW72 ?_
            refine WH.off (i := 10) rfl (by kernel_rfl) (by kernel_rfl) (by kernel_rfl) hP rfl rfl h73 rfl hSW72 ?_
            refine WH.takex (i := 11) rfl (by kernel_rfl) (by kernel_rfl) (by kernel_rfl) hP hSW72 ?_
            refine pr_pick_t rfl rfl h73 rfl ?_
            refine WH.takex (i := 12) rfl (by kernel_rfl) (by kernel_rfl) (by kernel_rfl) hP hSW72 ?_
            refine pr_move rfl rfl ?_
            refine WH.off (i := 13) rfl (by kernel_rfl) (by kernel_rfl) (by kernel_rfl) hP rfl rfl rfl rfl hSW72 ?_
            refine WH.off (i := 14) rfl (by kernel_rfl) (by kernel_rfl) (by kernel_rfl) hP rfl rfl rfl rfl hSW72 ?_
            refine WH.off (i := 15) rfl (by kernel_rfl) (by kernel_rfl) (by kernel_rfl) hP rfl rfl rfl rfl hSW72 ?_
            refine WH.off (i := 16) rfl (by kernel_rfl) (by kernel_rfl) (by kernel_rfl) hP rfl rfl rfl rfl hSW72 ?_
            refine WH.takex (i := 17) rfl (by kernel_rfl) (by kernel_rfl) (by kernel_rfl) hP hSW72 ?_
            refine pr_pick_t rfl rfl rfl rfl ?_
            refine WH.takex (i := 18) rfl (by kernel_rfl) (by kernel_rfl) (by kernel_rfl) hP hSW72 ?_
            refine pr_move rfl rfl ?_
            refine WH.off (i := 19) rfl (by kernel_rfl) (by kernel_rfl) (by kernel_rfl) hP rfl rfl rfl rfl hSW72 ?_
            refine WH.off (i := 20) rfl (by kernel_rfl) (by kernel_rfl) (by kernel_rfl) hP rfl rfl rfl rfl hSW72 ?_
            refine WH.off (i := 21) rfl (by kernel_rfl) (by kernel_rfl) (by kernel_rfl) hP rfl rfl rfl rfl hSW72 ?_
            refine WH.offu (i := 22) rfl (by kernel_rfl) (by kernel_rfl) (by kernel_rfl) hP rfl rfl rfl hSW72 ?_
            refine WH.offu (i := 23) rfl (by kernel_rfl) (by kernel_rfl) (by kernel_rfl) hP rfl rfl rfl hSW72 ?_
            refine WH.offu (i := 24) rfl (by kernel_rfl) (by kernel_rfl) (by kernel_rfl) hP rfl rfl rfl hSW72 ?_
            refine WH.offu (i := 25) rfl (by kernel_rfl) (by kernel_rfl) (by kernel_rfl) hP rfl rfl rfl hSW72 ?_
            refine WH.offu (i := 26) rfl (by kernel_rfl) (by kernel_rfl) (by kernel_rfl) hP rfl rfl rfl hSW72 ?_
            refine WH.offu (i := 27) rfl (by kernel_rfl) (by kernel_rfl) (by kernel_rfl) hP rfl rfl rfl hSW72 ?_
            refine WH.offu (i := 28) rfl (by kernel_rfl) (by kernel_rfl) (by kernel_rfl) hP rfl rfl rfl hSW72 ?_
            refine WH.offu (i := 29) rfl (by kernel_rfl) (by kernel_rfl) (by kernel_rfl) hP rfl rfl rfl hSW72 ?_
            refine WH.offu (i := 30) rfl (by kernel_rfl) (by kernel_rfl) (by kernel_rfl) hP rfl rfl rfl hSW72 ?_
            refine WH.off (i := 31) rfl (by kernel_rfl) (by kernel_rfl) (by kernel_rfl) hP rfl rfl rfl rfl hSW72 ?_
            refine WH.takex (i := 32) rfl (by kernel_rfl) (by kernel_rfl) (by kernel_rfl) hP hSW72 ?_
            refine pr_pick_t rfl rfl rfl rfl ?_
            refine WH.done (by kernel_rfl) ?_
            exact fun a ha => hJ46 (true) _ hF hB69 (hS70.sel [0] rfl) a (ha.sub ⟨rfl, rfl, rfl, rfl, rfl, rfl, rfl, rfl, trivial⟩)
          · replace hF := ifN h73 hF
            refine WH.takexg (i := 7) rfl (by kernel_rfl) (by kernel_rfl) (by kernel_rfl) hP rfl rfl h73 hSW72 ?_
            refine pr_field (o := 1) (off' := 1) ff_44_1 rfl rfl rfl ?_
            refine WH.takexg (i := 8) rfl (by kernel_rfl) (by kernel_rfl) (by kernel_rfl) hP rfl rfl h73 hSW72 ?_
            refine pr_load_blk (i := 0) (vs := [(.string (mkS u27.2))]) (v := (.string (mkS u27.2))) tf_9 rfl rfl hS64 rfl rfl rfl (by simp) ?_
            refine WH.takexg (i := 9) rfl (by kernel_rfl) (by kernel_rfl) (by kernel_rfl) hP rfl rfl h73 hSW72 ?_
            refine pr_strlen Try.underlying9 rfl rfl ?_
            refine WH.takexg (i := 10) rfl (by kernel_rfl) (by kernel_rfl) (by kernel_rfl) hP rfl rfl h73 hSW72 ?_
            refine pr_gtr rfl rfl rfl ?_
            refine WH.takex (i := 11) rfl (by kernel_rfl) (by kernel_rfl) (by kernel_rfl) hP hSW72 ?_
            refine pr_pick_f rfl rfl h73 rfl ?_
            refine WH.takex (i := 12) rfl (by kernel_rfl) (by kernel_rfl) (by kernel_rfl) hP hSW72 ?_
            refine pr_move rfl rfl ?_
            rcases bE (decide (8 < (List.length u27.2 : Int))) with h74 | h74
            · replace hF := ifP h74 hF
              refine WH.off (i := 13) rfl (by kernel_rfl) (by kernel_rfl) (by kernel_rfl) hP rfl rfl h74 rfl hSW72 ?_
              refine WH.off (i := 14) rfl (by kernel_rfl) (by kernel_rfl) (by kernel_rfl) hP rfl rfl h74 rfl hSW72 ?_
              refine WH.off (i := 15) rfl (by kernel_rfl) (by kernel_rfl) (by kernel_rfl) hP rfl rfl h74 rfl hSW72 ?_
              refine WH.off (i := 16) rfl (by kernel_rfl) (by kernel_rfl) (by kernel_rfl) hP rfl rfl h74 rfl hSW72 ?_
              refine WH.takex (i := 17) rfl (by kernel_rfl) (by kernel_rfl) (by kernel_rfl) hP hSW72 ?_
              refine pr_pick_t rfl rfl h74 rfl ?_
              refine WH.takex (i := 18) rfl (by kernel_rfl) (by kernel_rfl) (by kernel_rfl) hP hSW72 ?_
              refine pr_move rfl rfl ?_
              refine WH.off (i := 19) rfl (by kernel_rfl) (by kernel_rfl) (by kernel_rfl) hP rfl rfl rfl rfl hSW72 ?_
              refine WH.off (i := 20) rfl (by kernel_rfl) (by kernel_rfl) (by kernel_rfl) hP rfl rfl rfl rfl hSW72 ?_
              refine WH.off (i := 21) rfl (by kernel_rfl) (by kernel_rfl) (by kernel_rfl) hP rfl rfl rfl rfl hSW72 ?_
              refine WH.offu (i := 22) rfl (by kernel_rfl) (by kernel_rfl) (by kernel_rfl) hP rfl rfl rfl hSW72 ?_
              refine WH.offu (i := 23) rfl (by kernel_rfl) (by kernel_rfl) (by kernel_rfl) hP rfl rfl rfl hSW72 ?_
              refine WH.offu (i := 24) rfl (by kernel_rfl) (by kernel_rfl) (by kernel_rfl) hP rfl rfl rfl hSW72 ?_
              refine WH.offu (i := 25) rfl (by kernel_rfl) (by kernel_rfl) (by kernel_rfl) hP rfl rfl rfl hSW72 ?_
              refine WH.offu (i := 26) rfl (by kernel_rfl) (by kernel_rfl) (by kernel_rfl) hP rfl rfl rfl hSW72 ?_
              refine WH.offu (i := 27) rfl (by kernel_rfl) (by kernel_rfl) (by kernel_rfl) hP rfl rfl rfl hSW72 ?_
              refine WH.offu (i := 28) rfl (by kernel_rfl) (by kernel_rfl) (by kernel_rfl) hP rfl rfl rfl hSW72 ?_
              refine WH.offu (i := 29) rfl (by kernel_rfl) (by kernel_rfl) (by kernel_rfl) hP rfl rfl rfl hSW72 ?_
              refine WH.offu (i := 30) rfl (by kernel_rfl) (by kernel_rfl) (by kernel_rfl) hP rfl rfl rfl hSW72 ?_
              refine WH.off (i := 31) rfl (by kernel_rfl) (by kernel_rfl) (by kernel_rfl) hP rfl rfl rfl rfl hSW72 ?_
              refine WH.takex (i := 32) rfl (by kernel_rfl) (by kernel_rfl) (by kernel_rfl) hP hSW72 ?_
              refine pr_pick_t rfl rfl rfl rfl ?_
              refine WH.done (by kernel_rfl) ?_
              exact fun a ha => hJ46 (true) _ hF hB69 (hS70.sel [0] rfl) a (ha.sub ⟨rfl, rfl, rfl, rfl, rfl, rfl, rfl, rfl, trivial⟩)
            · replace hF := ifN h74 hF
              refine WH.takexg (i := 13) rfl (by kernel_rfl) (by kernel_rfl) (by kernel_rfl) hP rfl rfl h74 hSW72 ?_
              refine pr_field (o := 1) (off' := 1) ff_44_1 rfl rfl rfl ?_
              refine WH.takexg (i := 14) rfl (by kernel_rfl) (by kernel_rfl) (by kernel_rfl) hP rfl rfl h74 hSW72 ?_
              refine pr_load_blk (i := 0) (vs := [(.string (mkS u27.2))]) (v := (.string (mkS u27.2))) tf_9 rfl rfl hS64 rfl rfl rfl (by simp) ?_
              refine WH.one (i := 15) (by kernel_rfl) rfl ?_
              refine wl_on rfl rfl h74 ?_
              obtain ⟨u75, hu75, hF⟩ := bindE hF
              refine wl_call rfl Try.call222 (C_impl_isName w67 u27.2 _ hu75) rfl ?_
              rintro _ w76 ⟨rfl, hb77⟩
              refine ⟨_, rfl, ?_⟩
              have hB78 := hB69.trans (hb77.mono hB69.size)
              have hS79 := hS70.below hb77
              have hSW81 := hSW72.ext hb77
              refine WL.nil (WH.ret hSW81 ?_)
              refine WH.takexg (i := 16) rfl (by kernel_rfl) (by kernel_rfl) (by kernel_rfl) hP rfl rfl h74 hSW81 ?_
              refine pr_not rfl rfl ?_
              refine WH.takex (i := 17) rfl (by kernel_rfl) (by kernel_rfl) (by kernel_rfl) hP hSW81 ?_
              refine pr_pick_f rfl rfl h74 rfl ?_
              refine WH.takex (i := 18) rfl (by kernel_rfl) (by kernel_rfl) (by kernel_rfl) hP hSW81 ?_
              refine pr_move rfl rfl ?_
              rcases bE (!u75) with h82 | h82
              · replace hF := ifP h82 hF
                refine WH.off (i := 19) rfl (by kernel_rfl) (by kernel_rfl) (by kernel_rfl) hP rfl rfl h82 rfl hSW81 ?_
                refine WH.off (i := 20) rfl (by kernel_rfl) (by kernel_rfl) (by kernel_rfl) hP rfl rfl h82 rfl hSW81 ?_
                refine WH.off (i := 21) rfl (by kernel_rfl) (by kernel_rfl) (by kernel_rfl) hP rfl rfl h82 rfl hSW81 ?_
                refine WH.offu (i := 22) rfl (by kernel_rfl) (by kernel_rfl) (by kernel_rfl) hP rfl rfl rfl hSW81 ?_
                refine WH.offu (i := 23) rfl (by kernel_rfl) (by kernel_rfl) (by kernel_rfl) hP rfl rfl rfl hSW81 ?_
                refine WH.offu (i := 24) rfl (by kernel_rfl) (by kernel_rfl) (by kernel_rfl) hP rfl rfl rfl hSW81 ?_
                refine WH.offu (i := 25) rfl (by kernel_rfl) (by kernel_rfl) (by kernel_rfl) hP rfl rfl rfl hSW81 ?_
                refine WH.offu (i := 26) rfl (by kernel_rfl) (by kernel_rfl) (by kernel_rfl) hP rfl rfl rfl hSW81 ?_
                refine WH.offu (i := 27) rfl (by kernel_rfl) (by kernel_rfl) (by kernel_rfl) hP rfl rfl rfl hSW81 ?_
                refine WH.offu (i := 28) rfl (by kernel_rfl) (by kernel_rfl) (by kernel_rfl) hP rfl rfl rfl hSW81 ?_
                refine WH.offu (i := 29) rfl (by kernel_rfl) (by kernel_rfl) (by kernel_rfl) hP rfl rfl rfl hSW81 ?_
                refine WH.offu (i := 30) rfl (by kernel_rfl) (by kernel_rfl) (by kernel_rfl) hP rfl rfl rfl hSW81 ?_
                refine WH.off (i := 31) rfl (by kernel_rfl) (by kernel_rfl) (by kernel_rfl) hP rfl rfl h82 rfl hSW81 ?_
                refine WH.takex (i := 32) rfl (by kernel_rfl) (by kernel_rfl) (by kernel_rfl) hP hSW81 ?_
                refine pr_pick_t rfl rfl h82 rfl ?_
                refine WH.done (by kernel_rfl) ?_
                exact fun a ha => hJ46 (true) _ hF hB78 (hS79.sel [0] rfl) a (ha.sub ⟨rfl, rfl, rfl, rfl, rfl, rfl, rfl, rfl, trivial⟩)
              · replace hF := ifN h82 hF
                refine WH.takexg (i := 19) rfl (by kernel_rfl) (by kernel_rfl) (by kernel_rfl) hP rfl rfl h82 hSW81 ?_
                refine pr_move rfl rfl ?_
                refine WH.takexg (i := 20) rfl (by kernel_rfl) (by kernel_rfl) (by kernel_rfl) hP rfl rfl h82 hSW81 ?_
                refine pr_gtr rfl rfl rfl ?_
                refine WH.takexg (i := 21) rfl (by kernel_rfl) (by kernel_rfl) (by kernel_rfl) hP rfl rfl h82 hSW81 ?_
                refine pr_move rfl rfl ?_
                rcases bE (decide (0 < y18)) with h83 | h83
                · replace hF := ifP h83 hF
                  refine WH.takexg (i := 22) rfl (by kernel_rfl) (by kernel_rfl) (by kernel_rfl) hP rfl rfl h83 hSW81 ?_
                  refine pr_move rfl rfl ?_
                  refine WH.takexg (i := 23) rfl (by kernel_rfl) (by kernel_rfl) (by kernel_rfl) hP rfl rfl h83 hSW81 ?_
                  refine pr_move rfl rfl ?_
                  refine WH.takexg (i := 24) rfl (by kernel_rfl) (by kernel_rfl) (by kernel_rfl) hP rfl rfl h83 hSW81 ?_
                  refine pr_sub rfl rfl rfl ?_
                  obtain ⟨u84, hu84, hF⟩ := bindE hF
                  refine WH.takexg (i := 25) rfl (by kernel_rfl) (by kernel_rfl) (by kernel_rfl) hP rfl rfl h83 hSW81 ?_
                  refine pr_index (e := ty_44) Try.underlying24 rfl rfl rfl h1_0 hu84 ?_
                  rintro p85 _ rfl hp86
                  refine WH.takexg (i := 26) rfl (by kernel_rfl) (by kernel_rfl) (by kernel_rfl) hP rfl rfl h83 hSW81 ?_
                  refine pr_fieldp (o := 0) ff_44_0 rfl rfl ?_
                  refine WH.takexg (i := 27) rfl (by kernel_rfl) (by kernel_rfl) (by kernel_rfl) hP rfl rfl h83 hSW81 ?_
                  refine pr_load_p (vs := [(.int .i64 u84.1)]) (v := (.int .i64 u84.1)) tf_3 rfl rfl (EAt.addk (hp86.kx hB63 (by simp)) 0) rfl rfl ?_
                  refine WH.takexg (i := 28) rfl (by kernel_rfl) (by kernel_rfl) (by kernel_rfl) hP rfl rfl h83 hSW81 ?_
                  refine pr_field (o := 0) (off' := 0) ff_44_0 rfl rfl rfl ?_
                  refine WH.takexg (i := 29) rfl (by kernel_rfl) (by kernel_rfl) (by kernel_rfl) hP rfl rfl h83 hSW81 ?_
                  refine pr_load_blk (i := 0) (vs := [(.int .i64 u27.1)]) (v := (.int .i64 u27.1)) tf_3 rfl rfl hS64 rfl rfl rfl (by simp) ?_
                  refine WH.takexg (i := 30) rfl (by kernel_rfl) (by kernel_rfl) (by kernel_rfl) hP rfl rfl h83 hSW81 ?_
                  refine pr_geq rfl rfl rfl ?_
                  refine WH.takexg (i := 31) rfl (by kernel_rfl) (by kernel_rfl) (by kernel_rfl) hP rfl rfl h82 hSW81 ?_
                  refine pr_pick_t rfl rfl h83 rfl ?_
                  refine WH.takex (i := 32) rfl (by kernel_rfl) (by kernel_rfl) (by kernel_rfl) hP hSW81 ?_
                  refine pr_pick_f rfl rfl h82 rfl ?_
                  refine WH.done (by kernel_rfl) ?_
                  exact fun a ha => hJ46 ((decide (u27.1 ≤ u84.1))) _ hF hB78 (hS79.sel [0] rfl) a (ha.sub ⟨rfl, rfl, rfl, rfl, rfl, rfl, rfl, rfl, trivial⟩)
                · replace hF := ifN h83 hF
                  refine WH.off (i := 22) rfl (by kernel_rfl) (by kernel_rfl) (by kernel_rfl) hP rfl rfl h83 rfl hSW81 ?_
                  refine WH.off (i := 23) rfl (by kernel_rfl) (by kernel_rfl) (by kernel_rfl) hP rfl rfl h83 rfl hSW81 ?_
                  refine WH.off (i := 24) rfl (by kernel_rfl) (by kernel_rfl) (by kernel_rfl) hP rfl rfl h83 rfl hSW81 ?_
                  refine WH.off (i := 25) rfl (by kernel_rfl) (by kernel_rfl) (by kernel_rfl) hP rfl rfl h83 rfl hSW81 ?_
                  refine WH.off (i := 26) rfl (by kernel_rfl) (by kernel_rfl) (by kernel_rfl) hP rfl rfl h83 rfl hSW81 ?_
                  refine WH.off (i := 27) rfl (by kernel_rfl) (by kernel_rfl) (by kernel_rfl) hP rfl rfl h83 rfl hSW81 ?_
                  refine WH.off (i := 28) rfl (by kernel_rfl) (by kernel_rfl) (by kernel_rfl) hP rfl rfl h83 rfl hSW81 ?_
                  refine WH.off (i := 29) rfl (by kernel_rfl) (by kernel_rfl) (by kernel_rfl) hP rfl rfl h83 rfl hSW81 ?_
                  refine WH.off (i := 30) rfl (by kernel_rfl) (by kernel_rfl) (by kernel_rfl) hP rfl rfl h83 rfl hSW81 ?_
                  refine WH.takexg (i := 31) rfl (by kernel_rfl) (by kernel_rfl) (by kernel_rfl) hP rfl rfl h82 hSW81 ?_
                  refine pr_pick_f rfl rfl h83 rfl ?_
                  refine WH.takex (i := 32) rfl (by kernel_rfl) (by kernel_rfl) (by kernel_rfl) hP hSW81 ?_
                  refine pr_pick_f rfl rfl h82 rfl ?_
                  refine WH.done (by kernel_rfl) ?_
                  exact fun a ha => hJ46 (false) _ hF hB78 (hS79.sel [0] rfl) a (ha.sub ⟨rfl, rfl, rfl, rfl, rfl, rfl, rfl, rfl, trivial⟩)
        · replace hF := ifN h24 hF
          refine W.exit ?_
          refine fun a ha => hK13 _ _ ?_ a ha
          refine W.seq fun K87 hK87 => ?_
          refine W.region ?_
          refine wl_assign rfl rfl ?_
          refine WL.nil ?_
          refine fun a ha => hK87 _ _ ?_ a ha
          refine W.ret ?_
          have hr := Option.some.inj hF
          subst hr
          exact rets (vs := [(.bool true)]) hQ rfl ⟨rv_tmp rfl, trivial⟩ ⟨rfl, hB16⟩
theorem C_impl_haveCues (w0 : World) (x0 : (List (Int × Int))) (v0_0 : Value) (h0_0 : rdS ty_183 (· < w0.heap.size) w0 v0_0 x0) (x1 : (List (Int × (List UInt8)))) (v1_0 : Value) (h1_0 : rdS ty_44 (· < w0.heap.size) w0 v1_0 x1) (r : Bool) (hF : F_impl_haveCues x0 x1 = some r) :
    Calls Try.prog 118 [v0_0, v1_0].toArray w0 fun e w' => e = .returned (.bool r) ∧ Below w0.heap.size w0 w' := by
  refine calls_mk' Try.func118 rfl Try.ntmps118 rfl rfl fun Q hQ hP => ?_
  have hB : Below w0.heap.size w0 w0 := Below.refl _ _
  have hS : Sep w0.heap.size w0 [] := Sep.nil _ _
  unfold F_impl_haveCues at hF
  refine W.seq fun K1 hK1 => ?_
  refine W.region ?_
  refine wl_assign rfl rfl ?_
  refine WL.nil ?_
  refine fun a ha => hK1 _ _ ?_ a ha
  refine W.seq fun K2 hK2 => ?_
  obtain ⟨k7, hk7, hF⟩ := jE1 hF
  have hJ8 : ∀ (y6 : Bool) (w3 : World) (_ : k7 y6 = some r) (_ : Below w0.heap.size w0 w3) (_ : Sep w0.heap.size w3 []), ∀ a, St 12 [(4, (.bool y6))] a → K2 a w3 := by
    intro y6 w3 hF hB4 hS5
    subst hk7
    refine fun a ha => hK2 _ _ ?_ a ha
    refine W.ret ?_
    have hr := Option.some.inj hF
    subst hr
    exact rets (vs := [(.bool y6)]) hQ rfl ⟨rv_tmp rfl, trivial⟩ ⟨rfl, hB4⟩
  refine W.region ?_
  refine wl_move rfl rfl ?_
  obtain ⟨u9, hu9, hF⟩ := bindE hF
  refine wl_call rfl Try.call140 (C_impl_IsMusic w0 x0 v0_0 (h0_0.ro hB) _ hu9) rfl ?_
  rintro _ w10 ⟨rfl, hb11⟩
  refine ⟨_, rfl, ?_⟩
  have hB12 := hB.trans (hb11.mono hB.size)
  have hS13 := hS.below hb11
  refine wl_move rfl rfl ?_
  rcases bE u9 with h15 | h15
  · replace hF := ifP h15 hF
    refine wl_on rfl rfl h15 ?_
    refine wl_move rfl rfl ?_
    refine wl_on rfl rfl h15 ?_
    refine wl_move rfl rfl ?_
    refine wl_on rfl rfl h15 ?_
    obtain ⟨u16, hu16, hF⟩ := bindE hF
    refine wl_call rfl Try.call137 (C_impl_areCues w10 x0 v0_0 (h0_0.ro hB12) x1 v1_0 (h1_0.ro hB12) _ hu16) rfl ?_
    rintro _ w17 ⟨rfl, hb18⟩
    refine ⟨_, rfl, ?_⟩
    have hB19 := hB12.trans (hb18.mono hB12.size)
    have hS20 := hS13.below hb18
    refine wl_pick_t rfl rfl h15 rfl ?_
    refine wl_assign rfl rfl ?_
    refine WL.nil ?_
    exact fun a ha => hJ8 (u16) _ hF hB19 (hS20.sel [] rfl) a (ha.sub ⟨rfl, trivial⟩)
  · replace hF := ifN h15 hF
    refine wl_off rfl rfl rfl h15 ?_
    refine wl_off rfl rfl rfl h15 ?_
    refine wl_off rfl rfl rfl h15 ?_
    refine wl_pick_f rfl rfl h15 rfl ?_
    refine wl_assign rfl rfl ?_
    refine WL.nil ?_
    exact fun a ha => hJ8 (false) _ hF hB12 (hS13.sel [] rfl) a (ha.sub ⟨rfl, trivial⟩)
theorem C_impl_timeOf (w0 : World) (x0 : (List (Int × Int))) (v0_0 : Value) (h0_0 : rdS ty_183 (· < w0.heap.size) w0 v0_0 x0) (x1 : Int) (r : Int) (hF : F_impl_timeOf x0 x1 = some r) :
    Calls Try.prog 120 [v0_0, (.int .i64 x1)].toArray w0 fun e w' => e = .returned (.int .i64 r) ∧ Below w0.heap.size w0 w' := by
  refine calls_mk' Try.func120 rfl Try.ntmps120 rfl rfl fun Q hQ hP => ?_
  have hB : Below w0.heap.size w0 w0 := Below.refl _ _
  have hS : Sep w0.heap.size w0 [] := Sep.nil _ _
  unfold F_impl_timeOf at hF
  refine W.seq fun K1 hK1 => ?_
  refine W.region ?_
  refine wl_assign rfl rfl ?_
  refine WL.nil ?_
  refine fun a ha => hK1 _ _ ?_ a ha
  refine W.seq fun K2 hK2 => ?_
  refine W.region ?_
  refine wl_assign rfl rfl ?_
  refine WL.nil ?_
  refine fun a ha => hK2 _ _ ?_ a ha
  refine W.seq fun K3 hK3 => ?_
  refine W.seq fun K4 hK4 => ?_
  refine W.region ?_
  refine wl_move rfl rfl ?_
  refine wl_lenr (e := ty_183) (l := x0) Try.underlying23 rfl rfl h0_0 ?_
  refine wl_move rfl rfl ?_
  refine WL.nil ?_
  refine fun a ha => hK4 _ _ ?_ a ha
  refine W.block ?_
  refine W.loopk (fun m a w5 => ∃ (y8 : Int) (y9 : Int) (y10 : Int), St 39 [(1, (.int .i64 y8)), (5, (.int .i64 y9)), (8, v0_0), (9, (.int .i64 (List.length x0 : Int))), (10, (.int .i64 y10))] a ∧ Below w0.heap.size w0 w5 ∧ Sep w0.heap.size w5 [] ∧ F_impl_timeOf_L1 x0 m y8 y9 y10 = some r) FU ?_ ?_
  ·
    exact fun a ha => ⟨x1, 0, 0, ha.sub ⟨rfl, rfl, rfl, rfl, rfl, trivial⟩, hB, (hS.sel [] rfl), hF⟩
  ·
    rintro m13 a w5 ⟨y8, y9, y10, ha, hB6, hS7, hF⟩ KL12 hKL12
    refine W.at ?_ ha
    cases m13 with
    | zero => exact noneE hF
    | succ m13 =>
      obtain ⟨nx11, hnx11⟩ : ∃ k, k = F_impl_timeOf_L1 x0 m13 := ⟨_, rfl⟩
      rw [F_impl_timeOf_L1, ← hnx11] at hF
      refine W.seq fun K14 hK14 => ?_
      refine W.region ?_
      refine wl_lss rfl rfl rfl ?_
      refine WL.nil ?_
      refine fun a ha => hK14 _ _ ?_ a ha
      refine W.seq fun K15 hK15 => ?_
      refine W.cond rfl (fun h16 => ?_) (fun h16 => ?_)
      · replace hF := ifP h16 hF
        refine W.skip ?_
        refine fun a ha => hK15 _ _ ?_ a ha
        refine W.seq fun K17 hK17 => ?_
        refine W.block ?_
        refine W.seq fun K18 hK18 => ?_
        refine W.region ?_
        obtain ⟨u19, hu19, hF⟩ := bindE hF
        refine wl_index (e := ty_183) Try.underlying23 rfl rfl rfl h0_0 hu19 ?_
        rintro p20 _ rfl hp21
        refine wl_load_p (vs := [(.int .i64 u19.1), (.int .i64 u19.2)]) (v := (.agg #[(.int .i64 u19.1), (.int .i64 u19.2)])) tf_183 rfl rfl (hp21.ro hB6) rfl rfl ?_
        refine wl_alloc (cs := [(.int .i64 0), (.int .i64 0)]) tf_183 rfl rfl hB6 hS7 ?_
        intro b22 w23 hb24 hB25 hS26
        refine wl_store_blk (i := 0) (vs := [(.int .i64 u19.1), (.int .i64 u19.2)]) (cs' := [(.int .i64 u19.1), (.int .i64 u19.2)]) tf_183 rfl rfl rfl rfl hB25 hS26 rfl rfl ⟨rfl, rfl, trivial⟩ rfl ?_
        intro w27 hk30 hB28 hS29
        refine WL.nil ?_
        refine fun a ha => hK18 _ _ ?_ a ha
        refine W.seq fun K31 hK31 => ?_
        refine W.seq fun K32 hK32 => ?_
        refine W.region ?_
        refine wl_move rfl rfl ?_
        refine wl_field (o := 0) (off' := 0) ff_183_0 rfl rfl rfl ?_
        refine wl_load_blk (i := 0) (vs := [(.int .i64 u19.1)]) (v := (.int .i64 u19.1)) tf_3 rfl rfl hS29 rfl rfl rfl ?_
        refine wl_lss rfl rfl rfl ?_
        refine WL.nil ?_
        refine fun a ha => hK32 _ _ ?_ a ha
        refine W.cond rfl (fun h33 => ?_) (fun h33 => ?_)
        · replace hF := ifP h33 hF
          refine W.seq fun K34 hK34 => ?_
          refine W.region ?_
          refine wl_move rfl rfl ?_
          refine wl_move rfl rfl ?_
          refine wl_mul rfl rfl rfl ?_
          refine wl_field (o := 1) (off' := 1) ff_183_1 rfl rfl rfl ?_
          refine wl_load_blk (i := 0) (vs := [(.int .i64 u19.2)]) (v := (.int .i64 u19.2)) tf_3 rfl rfl hS29 rfl rfl rfl ?_
          have h35 : u19.2 ≠ 0 := fun h35 => noneE (ifP h35 hF)
          replace hF := ifNP h35 hF
          refine wl_quo rfl rfl rfl h35 ?_
          refine wl_add rfl rfl rfl ?_
          refine wl_assign rfl rfl ?_
          refine WL.nil ?_
          refine fun a ha => hK34 _ _ ?_ a ha
          refine W.ret ?_
          have hr := Option.some.inj hF
          subst hr
          exact rets (vs := [(.int .i64 (w64 (y9 + (w64 (Int.tdiv (w64 (60000 * y8)) u19.2)))))]) hQ rfl ⟨rv_tmp rfl, trivial⟩ ⟨rfl, hB28⟩
        · replace hF := ifN h33 hF
          refine W.skip ?_
          refine fun a ha => hK31 _ _ ?_ a ha
          refine W.seq fun K36 hK36 => ?_
          refine W.region ?_
          refine wl_move rfl rfl ?_
          refine wl_field (o := 0) (off' := 0) ff_183_0 rfl rfl rfl ?_
          refine wl_load_blk (i := 0) (vs := [(.int .i64 u19.1)]) (v := (.int .i64 u19.1)) tf_3 rfl rfl hS29 rfl rfl rfl ?_
          refine wl_mul rfl rfl rfl ?_
          refine wl_field (o := 1) (off' := 1) ff_183_1 rfl rfl rfl ?_
          refine wl_load_blk (i := 0) (vs := [(.int .i64 u19.2)]) (v := (.int .i64 u19.2)) tf_3 rfl rfl hS29 rfl rfl rfl ?_
          have h37 : u19.2 ≠ 0 := fun h37 => noneE (ifP h37 hF)
          replace hF := ifNP h37 hF
          refine wl_quo rfl rfl rfl h37 ?_
          refine wl_add rfl rfl rfl ?_
          refine wl_assign rfl rfl ?_
          refine WL.nil ?_
          refine fun a ha => hK36 _ _ ?_ a ha
          refine W.region ?_
          refine wl_move rfl rfl ?_
          refine wl_field (o := 0) (off' := 0) ff_183_0 rfl rfl rfl ?_
          refine wl_load_blk (i := 0) (vs := [(.int .i64 u19.1)]) (v := (.int .i64 u19.1)) tf_3 rfl rfl hS29 rfl rfl rfl ?_
          refine wl_sub rfl rfl rfl ?_
          refine wl_assign rfl rfl ?_
          refine WL.nil ?_
          refine fun a ha => hK17 _ _ ?_ a ha
          refine W.region ?_
          refine wl_add rfl rfl rfl ?_
          refine wl_move rfl rfl ?_
          refine WL.nil ?_
          rw [hnx11] at hF
          exact fun a ha => hKL12 a _ m13 (Nat.lt_succ_self m13) ⟨(w64 (y8 - u19.1)), (w64 (y9 + (w64 (Int.tdiv (w64 (60000 * u19.1)) u19.2)))), (w64 (y10 + 1)), ha.sub ⟨rfl, rfl, rfl, rfl, rfl, trivial⟩, hB28, (hS29.sel [] rfl), hF⟩
      · replace hF := ifN h16 hF
        refine W.exit ?_
        refine fun a ha => hK3 _ _ ?_ a ha
        refine W.seq fun K38 hK38 => ?_
        refine W.region ?_
        refine wl_move rfl rfl ?_
        refine wl_assign rfl rfl ?_
        refine WL.nil ?_
        refine fun a ha => hK38 _ _ ?_ a ha
        refine W.ret ?_
        have hr := Option.some.inj hF
        subst hr
        exact rets (vs := [(.int .i64 y9)]) hQ rfl ⟨rv_tmp rfl, trivial⟩ ⟨rfl, hB6⟩
theorem C_impl_cueTimes (w0 : World) (x0 : (List (Int × Int))) (v0_0 : Value) (h0_0 : rdS ty_183 (· < w0.heap.size) w0 v0_0 x0) (x1 : (List (Int × (List UInt8)))) (v1_0 : Value) (h1_0 : rdS ty_44 (· < w0.heap.size) w0 v1_0 x1) (r : (List Int)) (hF : F_impl_cueTimes x0 x1 = some r) :
    Calls Try.prog 119 [v0_0, v1_0].toArray w0 fun e w' => ∃ (q0 : Value) (G0 : List Nat), e = .returned q0 ∧ Below w0.heap.size w0 w' ∧ Sep w0.heap.size w' [R.own ty_3 G0 q0 r] := by
  refine calls_mk' Try.func119 rfl Try.ntmps119 rfl rfl fun Q hQ hP => ?_
  have hB : Below w0.heap.size w0 w0 := Below.refl _ _
  have hS : Sep w0.heap.size w0 [] := Sep.nil _ _
  unfold F_impl_cueTimes at hF
  refine W.seq fun K1 hK1 => ?_
  refine W.region ?_
  refine wl_assign rfl rfl ?_
  refine WL.nil ?_
  refine fun a ha => hK1 _ _ ?_ a ha
  refine W.seq fun K2 hK2 => ?_
  refine W.region ?_
  refine wl_lit (vs := []) (l := []) fl_3 Try.underlying29 rfl rfl rfl rfl rfl rfl hB hS ?_
  intro v3 F4 w5 hb6 hB7 hS8
  refine wl_assign rfl rfl ?_
  refine WL.nil ?_
  refine fun a ha => hK2 _ _ ?_ a ha
  refine W.seq fun K9 hK9 => ?_
  refine W.seq fun K10 hK10 => ?_
  refine W.region ?_
  refine wl_move rfl rfl ?_
  refine wl_lenr (e := ty_44) (l := x1) Try.underlying24 rfl rfl h1_0 ?_
  refine wl_move rfl rfl ?_
  refine WL.nil ?_
  refine fun a ha => hK10 _ _ ?_ a ha
  refine W.block ?_
  refine W.loopk (fun m a w11 => ∃ (l14 : (List Int)) (y17 : Int) (v15 : Value) (F16 : List Nat), St 24 [(0, v0_0), (5, v15), (9, v1_0), (10, (.int .i64 (List.length x1 : Int))), (11, (.int .i64 y17))] a ∧ Below w0.heap.size w0 w11 ∧ Sep w0.heap.size w11 [R.own ty_3 F16 v15 l14] ∧ F_impl_cueTimes_L1 x1 x0 m l14 y17 = some r) FU ?_ ?_
  ·
    exact fun a ha => ⟨[], 0, v3, F4, ha.sub ⟨rfl, rfl, rfl, rfl, rfl, trivial⟩, hB7, (hS8.sel [0] rfl), hF⟩
  ·
    rintro m20 a w11 ⟨l14, y17, v15, F16, ha, hB12, hS13, hF⟩ KL19 hKL19
    refine W.at ?_ ha
    cases m20 with
    | zero => exact noneE hF
    | succ m20 =>
      obtain ⟨nx18, hnx18⟩ : ∃ k, k = F_impl_cueTimes_L1 x1 x0 m20 := ⟨_, rfl⟩
      rw [F_impl_cueTimes_L1, ← hnx18] at hF
      refine W.seq fun K21 hK21 => ?_
      refine W.region ?_
      refine wl_lss rfl rfl rfl ?_
      refine WL.nil ?_
      refine fun a ha => hK21 _ _ ?_ a ha
      refine W.seq fun K22 hK22 => ?_
      refine W.cond rfl (fun h23 => ?_) (fun h23 => ?_)
      · replace hF := ifP h23 hF
        refine W.skip ?_
        refine fun a ha => hK22 _ _ ?_ a ha
        refine W.seq fun K24 hK24 => ?_
        refine W.block ?_
        refine W.seq fun K25 hK25 => ?_
        refine W.region ?_
        obtain ⟨u26, hu26, hF⟩ := bindE hF
        refine wl_index (e := ty_44) Try.underlying24 rfl rfl rfl h1_0 hu26 ?_
        rintro p27 _ rfl hp28
        refine wl_load_p (vs := [(.int .i64 u26.1), (.string (mkS u26.2))]) (v := (.agg #[(.int .i64 u26.1), (.string (mkS u26.2))])) tf_44 rfl rfl (hp28.ro hB12) rfl rfl ?_
        refine wl_alloc (cs := [(.int .i64 0), (.string (mkS []))]) tf_44 rfl rfl hB12 hS13 ?_
        intro b29 w30 hb31 hB32 hS33
        refine wl_store_blk (i := 0) (vs := [(.int .i64 u26.1), (.string (mkS u26.2))]) (cs' := [(.int .i64 u26.1), (.string (mkS u26.2))]) tf_44 rfl rfl rfl rfl hB32 hS33 rfl rfl ⟨rfl, rfl, trivial⟩ rfl ?_
        intro w34 hk37 hB35 hS36
        refine WL.nil ?_
        refine fun a ha => hK25 _ _ ?_ a ha
        refine W.region ?_
        refine wl_move rfl rfl ?_
        refine wl_move rfl rfl ?_
        refine wl_field (o := 0) (off' := 0) ff_44_0 rfl rfl rfl ?_
        refine wl_load_blk (i := 0) (vs := [(.int .i64 u26.1)]) (v := (.int .i64 u26.1)) tf_3 rfl rfl hS36 rfl rfl rfl ?_
        obtain ⟨u38, hu38, hF⟩ := bindE hF
        refine wl_call rfl Try.call120 (C_impl_timeOf w34 x0 v0_0 (h0_0.ro hB35) u26.1 _ hu38) rfl ?_
        rintro _ w39 ⟨rfl, hb40⟩
        refine ⟨_, rfl, ?_⟩
        have hB41 := hB35.trans (hb40.mono hB35.size)
        have hS42 := hS36.below hb40
        refine wl_lit (vs := [(.int .i64 u38)]) (l := [u38]) fl_3 Try.underlying29 rfl rfl rfl rfl rfl rfl hB41 hS42 ?_
        intro v44 F45 w46 hb47 hB48 hS49
        obtain ⟨u50, hu50, hF⟩ := bindE hF
        refine wl_append (i := 2) (S := (· < w46.heap.size)) fl_3 Try.underlying29 rfl rfl rfl hB48 hS49 rfl (hS49.own_ro (i := 0) rfl) hu50 ?_
        intro v51 F52 w53 hk54 hB55 hS56
        refine wl_assign rfl rfl ?_
        refine WL.nil ?_
        refine fun a ha => hK24 _ _ ?_ a ha
        refine W.region ?_
        refine wl_add rfl rfl rfl ?_
        refine wl_move rfl rfl ?_
        refine WL.nil ?_
        rw [hnx18] at hF
        exact fun a ha => hKL19 a _ m20 (Nat.lt_succ_self m20) ⟨u50, (w64 (y17 + 1)), v51, F52, ha.sub ⟨rfl, rfl, rfl, rfl, rfl, trivial⟩, hB55, (hS56.sel [2] rfl), hF⟩
      · replace hF := ifN h23 hF
        refine W.exit ?_
        refine fun a ha => hK9 _ _ ?_ a ha
        refine W.seq fun K57 hK57 => ?_
        refine W.region ?_
        refine wl_move rfl rfl ?_
        refine wl_assign rfl rfl ?_
        refine WL.nil ?_
        refine fun a ha => hK57 _ _ ?_ a ha
        refine W.ret ?_
        have hr := Option.some.inj hF
        subst hr
        exact rets (vs := [v15]) hQ rfl ⟨rv_tmp rfl, trivial⟩ ⟨v15, F16, rfl, hB12, hS13.sel [0] rfl⟩
theorem C_impl_LongestGap (w0 : World) (x0 : (List (Int × Int))) (v0_0 : Value) (h0_0 : rdS ty_183 (· < w0.heap.size) w0 v0_0 x0) (x1 : (List (Int × (List UInt8)))) (v1_0 : Value) (h1_0 : rdS ty_44 (· < w0.heap.size) w0 v1_0 x1) (r : (Int × Int × Bool)) (hF : F_impl_LongestGap x0 x1 = some r) :
    Calls Try.prog 10 [v0_0, v1_0].toArray w0 fun e w' => e = .returned (.tuple #[(.int .i64 r.1), (.int .i64 r.2.1), (.bool r.2.2)]) ∧ Below w0.heap.size w0 w' := by
  refine calls_mk' Try.func10 rfl Try.ntmps10 rfl rfl fun Q hQ hP => ?_
  have hB : Below w0.heap.size w0 w0 := Below.refl _ _
  have hS : Sep w0.heap.size w0 [] := Sep.nil _ _
  unfold F_impl_LongestGap at hF
  refine W.seq fun K1 hK1 => ?_
  refine W.region ?_
  refine wl_assign rfl rfl ?_
  refine wl_assign rfl rfl ?_
  refine wl_assign rfl rfl ?_
  refine WL.nil ?_
  refine fun a ha => hK1 _ _ ?_ a ha
  refine W.seq fun K2 hK2 => ?_
  refine W.seq fun K3 hK3 => ?_
  obtain ⟨k8, hk8, hF⟩ := jE1 hF
  have hJ9 : ∀ (y7 : Bool) (w4 : World) (_ : k8 y7 = some r) (_ : Below w0.heap.size w0 w4) (_ : Sep w0.heap.size w4 []), ∀ a, St 67 [(0, v0_0), (1, v1_0), (18, (.bool y7))] a → K3 a w4 := by
    intro y7 w4 hF hB5 hS6
    subst hk8
    refine fun a ha => hK3 _ _ ?_ a ha
    refine W.cond rfl (fun h10 => ?_) (fun h10 => ?_)
    · replace hF := ifP h10 hF
      refine W.seq fun K11 hK11 => ?_
      refine W.region ?_
      refine wl_assign rfl rfl ?_
      refine wl_assign rfl rfl ?_
      refine wl_assign rfl rfl ?_
      refine WL.nil ?_
      refine fun a ha => hK11 _ _ ?_ a ha
      refine W.ret ?_
      have hr := Option.some.inj hF
      subst hr
      exact rets (vs := [(.int .i64 0), (.int .i64 0), (.bool false)]) hQ rfl ⟨rv_tmp rfl, rv_tmp rfl, rv_tmp rfl, trivial⟩ ⟨rfl, hB5⟩
    · replace hF := ifN h10 hF
      refine W.skip ?_
      refine fun a ha => hK2 _ _ ?_ a ha
      refine W.seq fun K12 hK12 => ?_
      refine W.region ?_
      refine wl_move rfl rfl ?_
      refine wl_move rfl rfl ?_
      obtain ⟨u13, hu13, hF⟩ := bindE hF
      refine wl_call rfl Try.call119 (C_impl_cueTimes w4 x0 v0_0 (h0_0.ro hB5) x1 v1_0 (h1_0.ro hB5) _ hu13) rfl ?_
      rintro _ w16 ⟨v14, F15, rfl, hb17, hM20⟩
      refine ⟨_, rfl, ?_⟩
      have hB18 := hB5.trans (hb17.mono hB5.size)
      have hS19 := hS6.join hb17 hM20 hB5.size
      refine wl_move rfl rfl ?_
      refine wl_move rfl rfl ?_
      obtain ⟨u21, hu21, hF⟩ := bindE hF
      refine wl_call rfl Try.call121 (C_impl_countsOf w16 x0 v0_0 (h0_0.ro hB18) _ hu21) rfl ?_
      rintro _ w22 ⟨rfl, hb23⟩
      refine ⟨_, rfl, ?_⟩
      have hB24 := hB18.trans (hb23.mono hB18.size)
      have hS25 := hS19.below hb23
      obtain ⟨u27, hu27, hF⟩ := bindE hF
      refine wl_call rfl Try.call120 (C_impl_timeOf w22 x0 v0_0 (h0_0.ro hB24) u21 _ hu27) rfl ?_
      rintro _ w28 ⟨rfl, hb29⟩
      refine ⟨_, rfl, ?_⟩
      have hB30 := hB24.trans (hb29.mono hB24.size)
      have hS31 := hS25.below hb29
      refine wl_lit (vs := [(.int .i64 u27)]) (l := [u27]) fl_3 Try.underlying29 rfl rfl rfl rfl rfl rfl hB30 hS31 ?_
      intro v33 F34 w35 hb36 hB37 hS38
      obtain ⟨u39, hu39, hF⟩ := bindE hF
      refine wl_append (i := 1) (S := (· < w35.heap.size)) fl_3 Try.underlying29 rfl rfl rfl hB37 hS38 rfl (hS38.own_ro (i := 0) rfl) hu39 ?_
      intro v40 F41 w42 hk43 hB44 hS45
      refine wl_assign rfl rfl ?_
      refine WL.nil ?_
      refine fun a ha => hK12 _ _ ?_ a ha
      refine W.seq fun K46 hK46 => ?_
      refine W.region ?_
      refine wl_assign rfl rfl ?_
      refine WL.nil ?_
      refine fun a ha => hK46 _ _ ?_ a ha
      refine W.seq fun K47 hK47 => ?_
      refine W.seq fun K48 hK48 => ?_
      refine W.region ?_
      refine wl_move rfl rfl ?_
      refine wl_lenr (e := ty_44) (l := x1) Try.underlying24 rfl rfl h1_0 ?_
      refine wl_move rfl rfl ?_
      refine WL.nil ?_
      refine fun a ha => hK48 _ _ ?_ a ha
      refine W.block ?_
      refine W.loopk (fun m a w49 => ∃ (y52 : Int) (y53 : Int), St 67 [(7, v40), (8, (.int .i64 y52)), (29, (.int .i64 (List.length x1 : Int))), (30, (.int .i64 y53))] a ∧ Below w0.heap.size w0 w49 ∧ Sep w0.heap.size w49 [R.own ty_3 F41 v40 u39] ∧ F_impl_LongestGap_L1 x1 u39 m y52 y53 = some r) FU ?_ ?_
      ·
        exact fun a ha => ⟨0, 0, ha.sub ⟨rfl, rfl, rfl, rfl, trivial⟩, hB44, (hS45.sel [1] rfl), hF⟩
      ·
        rintro m56 a w49 ⟨y52, y53, ha, hB50, hS51, hF⟩ KL55 hKL55
        refine W.at ?_ ha
        cases m56 with
        | zero => exact noneE hF
        | succ m56 =>
          obtain ⟨nx54, hnx54⟩ : ∃ k, k = F_impl_LongestGap_L1 x1 u39 m56 := ⟨_, rfl⟩
          rw [F_impl_LongestGap_L1, ← hnx54] at hF
          refine W.seq fun K57 hK57 => ?_
          refine W.region ?_
          refine wl_lss rfl rfl rfl ?_
          refine WL.nil ?_
          refine fun a ha => hK57 _ _ ?_ a ha
          refine W.seq fun K58 hK58 => ?_
          refine W.cond rfl (fun h59 => ?_) (fun h59 => ?_)
          · replace hF := ifP h59 hF
            refine W.skip ?_
            refine fun a ha => hK58 _ _ ?_ a ha
            refine W.seq fun K60 hK60 => ?_
            obtain ⟨k65, hk65, hF⟩ := jE1 hF
            have hJ66 : ∀ (y64 : Int) (w61 : World) (_ : k65 y64 = some r) (_ : Below w0.heap.size w0 w61) (_ : Sep w0.heap.size w61 [R.own ty_3 F41 v40 u39]), ∀ a, St 67 [(7, v40), (8, (.int .i64 y64)), (29, (.int .i64 (List.length x1 : Int))), (30, (.int .i64 y53))] a → K60 a w61 := by
              intro y64 w61 hF hB62 hS63
              subst hk65
              refine fun a ha => hK60 _ _ ?_ a ha
              refine W.region ?_
              refine wl_add rfl rfl rfl ?_
              refine wl_move rfl rfl ?_
              refine WL.nil ?_
              rw [hnx54] at hF
              exact fun a ha => hKL55 a _ m56 (Nat.lt_succ_self m56) ⟨y64, (w64 (y53 + 1)), ha.sub ⟨rfl, rfl, rfl, rfl, trivial⟩, hB62, (hS63.sel [0] rfl), hF⟩
            refine W.block ?_
            refine W.seq fun K67 hK67 => ?_
            refine W.region ?_
            refine wl_move rfl rfl ?_
            refine wl_assign rfl rfl ?_
            refine WL.nil ?_
            refine fun a ha => hK67 _ _ ?_ a ha
            refine W.seq fun K68 hK68 => ?_
            refine W.regionH mixed_ [] hB50 hS51 ?_
            intro w69 hb70 hB71 hS72
            have hSW73 := KeepX.refl w69 []
            refine WH.takex (i := 0) rfl (by kernel_rfl) (by kernel_rfl) (by kernel_rfl) hP hSW73 ?_
            refine pr_move rfl rfl ?_
            refine WH.takex (i := 1) rfl (by kernel_rfl) (by kernel_rfl) (by kernel_rfl) hP hSW73 ?_
            refine pr_move rfl rfl ?_
            refine WH.takex (i := 2) rfl (by kernel_rfl) (by kernel_rfl) (by kernel_rfl) hP hSW73 ?_
            refine pr_add rfl rfl rfl ?_
            obtain ⟨u74, hu74, hF⟩ := bindE hF
            refine WH.takex (i := 3) rfl (by kernel_rfl) (by kernel_rfl) (by kernel_rfl) hP hSW73 ?_
            refine pr_indexo (e := ty_3) (i := 0) Try.underlying29 rfl rfl rfl hS72 rfl hu74 ?_
            rintro p75 _ rfl hp76 ho77
            refine WH.takex (i := 4) rfl (by kernel_rfl) (by kernel_rfl) (by kernel_rfl) hP hSW73 ?_
            refine pr_load_p (vs := [(.int .i64 u74)]) (v := (.int .i64 u74)) tf_3 rfl rfl (hp76.kx0) rfl rfl ?_
            refine WH.takex (i := 5) rfl (by kernel_rfl) (by kernel_rfl) (by kernel_rfl) hP hSW73 ?_
            refine pr_move rfl rfl ?_
            refine WH.takex (i := 6) rfl (by kernel_rfl) (by kernel_rfl) (by kernel_rfl) hP hSW73 ?_
            refine pr_move rfl rfl ?_
            obtain ⟨u78, hu78, hF⟩ := bindE hF
            refine WH.takex (i := 7) rfl (by kernel_rfl) (by kernel_rfl) (by kernel_rfl) hP hSW73 ?_
            refine pr_indexo (e := ty_3) (i := 0) Try.underlying29 rfl rfl rfl hS72 rfl hu78 ?_
            rintro p79 _ rfl hp80 ho81
            refine WH.takex (i := 8) rfl (by kernel_rfl) (by kernel_rfl) (by kernel_rfl) hP hSW73 ?_
            refine pr_load_p (vs := [(.int .i64 u78)]) (v := (.int .i64 u78)) tf_3 rfl rfl (hp80.kx0) rfl rfl ?_
            refine WH.takex (i := 9) rfl (by kernel_rfl) (by kernel_rfl) (by kernel_rfl) hP hSW73 ?_
            refine pr_sub rfl rfl rfl ?_
            refine WH.takex (i := 10) rfl (by kernel_rfl) (by kernel_rfl) (by kernel_rfl) hP hSW73 ?_
            refine pr_move rfl rfl ?_
            refine WH.takex (i := 11) rfl (by kernel_rfl) (by kernel_rfl) (by kernel_rfl) hP hSW73 ?_
            refine pr_move rfl rfl ?_
            refine WH.takex (i := 12) rfl (by kernel_rfl) (by kernel_rfl) (by kernel_rfl) hP hSW73 ?_
            refine pr_add rfl rfl rfl ?_
            obtain ⟨u82, hu82, hF⟩ := bindE hF
            refine WH.takex (i := 13) rfl (by kernel_rfl) (by kernel_rfl) (by kernel_rfl) hP hSW73 ?_
            refine pr_indexo (e := ty_3) (i := 0) Try.underlying29 rfl rfl rfl hS72 rfl hu82 ?_
            rintro p83 _ rfl hp84 ho85
            refine WH.takex (i := 14) rfl (by kernel_rfl) (by kernel_rfl) (by kernel_rfl) hP hSW73 ?_
            refine pr_load_p (vs := [(.int .i64 u82)]) (v := (.int .i64 u82)) tf_3 rfl rfl (hp84.kx0) rfl rfl ?_
            refine WH.takex (i := 15) rfl (by kernel_rfl) (by kernel_rfl) (by kernel_rfl) hP hSW73 ?_
            refine pr_move rfl rfl ?_
            refine WH.takex (i := 16) rfl (by kernel_rfl) (by kernel_rfl) (by kernel_rfl) hP hSW73 ?_
            refine pr_move rfl rfl ?_
            obtain ⟨u86, hu86, hF⟩ := bindE hF
            refine WH.takex (i := 17) rfl (by kernel_rfl) (by kernel_rfl) (by kernel_rfl) hP hSW73 ?_
            refine pr_indexo (e := ty_3) (i := 0) Try.underlying29 rfl rfl rfl hS72 rfl hu86 ?_
            rintro p87 _ rfl hp88 ho89
            refine WH.takex (i := 18) rfl (by kernel_rfl) (by kernel_rfl) (by kernel_rfl) hP hSW73 ?_
            refine pr_load_p (vs := [(.int .i64 u86)]) (v := (.int .i64 u86)) tf_3 rfl rfl (hp88.kx0) rfl rfl ?_
            refine WH.takex (i := 19) rfl (by kernel_rfl) (by kernel_rfl) (by kernel_rfl) hP hSW73 ?_
            refine pr_sub rfl rfl rfl ?_
            refine WH.takex (i := 20) rfl (by kernel_rfl) (by kernel_rfl) (by kernel_rfl) hP hSW73 ?_
            refine pr_gtr rfl rfl rfl ?_
            refine WH.done (by kernel_rfl) ?_
            refine fun a ha => hK68 _ _ ?_ a ha
            refine W.cond rfl (fun h90 => ?_) (fun h90 => ?_)
            · replace hF := ifP h90 hF
              refine W.region ?_
              refine wl_move rfl rfl ?_
              refine wl_assign rfl rfl ?_
              refine WL.nil ?_
              exact fun a ha => hJ66 (y53) _ hF hB71 (hS72.sel [0] rfl) a (ha.sub ⟨rfl, rfl, rfl, rfl, trivial⟩)
            · replace hF := ifN h90 hF
              refine W.skip ?_
              exact fun a ha => hJ66 (y52) _ hF hB71 (hS72.sel [0] rfl) a (ha.sub ⟨rfl, rfl, rfl, rfl, trivial⟩)
          · replace hF := ifN h59 hF
            refine W.exit ?_
            refine fun a ha => hK47 _ _ ?_ a ha
            refine W.seq fun K91 hK91 => ?_
            refine W.regionH mixed_ [] hB50 hS51 ?_
            intro w92 hb93 hB94 hS95
            have hSW96 := KeepX.refl w92 []
            refine WH.takex (i := 0) rfl (by kernel_rfl) (by kernel_rfl) (by kernel_rfl) hP hSW96 ?_
            refine pr_move rfl rfl ?_
            refine WH.takex (i := 1) rfl (by kernel_rfl) (by kernel_rfl) (by kernel_rfl) hP hSW96 ?_
            refine pr_move rfl rfl ?_
            refine WH.takex (i := 2) rfl (by kernel_rfl) (by kernel_rfl) (by kernel_rfl) hP hSW96 ?_
            refine pr_move rfl rfl ?_
            refine WH.takex (i := 3) rfl (by kernel_rfl) (by kernel_rfl) (by kernel_rfl) hP hSW96 ?_
            refine pr_add rfl rfl rfl ?_
            obtain ⟨u97, hu97, hF⟩ := bindE hF
            refine WH.takex (i := 4) rfl (by kernel_rfl) (by kernel_rfl) (by kernel_rfl) hP hSW96 ?_
            refine pr_indexo (e := ty_3) (i := 0) Try.underlying29 rfl rfl rfl hS95 rfl hu97 ?_
            rintro p98 _ rfl hp99 ho100
            refine WH.takex (i := 5) rfl (by kernel_rfl) (by kernel_rfl) (by kernel_rfl) hP hSW96 ?_
            refine pr_load_p (vs := [(.int .i64 u97)]) (v := (.int .i64 u97)) tf_3 rfl rfl (hp99.kx0) rfl rfl ?_
            refine WH.takex (i := 6) rfl (by kernel_rfl) (by kernel_rfl) (by kernel_rfl) hP hSW96 ?_
            refine pr_move rfl rfl ?_
            refine WH.takex (i := 7) rfl (by kernel_rfl) (by kernel_rfl) (by kernel_rfl) hP hSW96 ?_
            refine pr_move rfl rfl ?_
            obtain ⟨u101, hu101, hF⟩ := bindE hF
            refine WH.takex (i := 8) rfl (by kernel_rfl) (by kernel_rfl) (by kernel_rfl) hP hSW96 ?_
            refine pr_indexo (e := ty_3) (i := 0) Try.underlying29 rfl rfl rfl hS95 rfl hu101 ?_
            rintro p102 _ rfl hp103 ho104
            refine WH.takex (i := 9) rfl (by kernel_rfl) (by kernel_rfl) (by kernel_rfl) hP hSW96 ?_
            refine pr_load_p (vs := [(.int .i64 u101)]) (v := (.int .i64 u101)) tf_3 rfl rfl (hp103.kx0) rfl rfl ?_
            refine WH.takex (i := 10) rfl (by kernel_rfl) (by kernel_rfl) (by kernel_rfl) hP hSW96 ?_
            refine pr_sub rfl rfl rfl ?_
            refine WH.takex (i := 11) rfl (by kernel_rfl) (by kernel_rfl) (by kernel_rfl) hP hSW96 ?_
            refine pr_assign rfl rfl ?_
            refine WH.takex (i := 12) rfl (by kernel_rfl) (by kernel_rfl) (by kernel_rfl) hP hSW96 ?_
            refine pr_assign rfl rfl ?_
            refine WH.takex (i := 13) rfl (by kernel_rfl) (by kernel_rfl) (by kernel_rfl) hP hSW96 ?_
            refine pr_assign rfl rfl ?_
            refine WH.done (by kernel_rfl) ?_
            refine fun a ha => hK91 _ _ ?_ a ha
            refine W.ret ?_
            have hr := Option.some.inj hF
            subst hr
            exact rets (vs := [(.int .i64 y52), (.int .i64 (w64 (u97 - u101))), (.bool true)]) hQ rfl ⟨rv_tmp rfl, rv_tmp rfl, rv_tmp rfl, trivial⟩ ⟨rfl, hB94⟩
  refine W.region ?_
  refine wl_move rfl rfl ?_
  refine wl_move rfl rfl ?_
  obtain ⟨u105, hu105, hF⟩ := bindE hF
  refine wl_call rfl Try.call118 (C_impl_haveCues w0 x0 v0_0 (h0_0.ro hB) x1 v1_0 (h1_0.ro hB) _ hu105) rfl ?_
  rintro _ w106 ⟨rfl, hb107⟩
  refine ⟨_, rfl, ?_⟩
  have hB108 := hB.trans (hb107.mono hB.size)
  have hS109 := hS.below hb107
  refine wl_not rfl rfl ?_
  refine wl_move rfl rfl ?_
  rcases bE (!u105) with h111 | h111
  · replace hF := ifP h111 hF
    refine wl_off rfl rfl rfl h111 ?_
    refine wl_off rfl rfl rfl h111 ?_
    refine wl_off rfl rfl rfl h111 ?_
    refine wl_pick_t rfl rfl h111 rfl ?_
    refine WL.nil ?_
    exact fun a ha => hJ9 (true) _ hF hB108 (hS109.sel [] rfl) a (ha.sub ⟨rfl, rfl, rfl, trivial⟩)
  · replace hF := ifN h111 hF
    refine wl_on rfl rfl h111 ?_
    refine wl_move rfl rfl ?_
    refine wl_on rfl rfl h111 ?_
    refine wl_lenr (e := ty_44) (l := x1) Try.underlying24 rfl rfl h1_0 ?_
    refine wl_on rfl rfl h111 ?_
    refine wl_eql rfl rfl rfl ?_
    refine wl_pick_f rfl rfl h111 rfl ?_
    refine WL.nil ?_
    exact fun a ha => hJ9 (((List.length x1 : Int) == 0)) _ hF hB108 (hS109.sel [] rfl) a (ha.sub ⟨rfl, rfl, rfl, trivial⟩)
end Go.Proofs.Ytmkignciedkidaa
