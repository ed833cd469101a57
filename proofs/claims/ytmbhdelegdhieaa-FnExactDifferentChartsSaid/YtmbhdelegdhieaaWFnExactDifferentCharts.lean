/-
  THE WALKS of functions of this seat, by program (gen.py).
-/
import Derived.Test.YtmbhdelegdhieaaH
import Derived.Test.YtmbhdelegdhieaaWFnExactIsShow
import Derived.Test.YtmbhdelegdhieaaWFnExactSameShows
set_option linter.unusedSimpArgs false
set_option linter.unusedVariables false
set_option maxRecDepth 100000
namespace Go.Proofs.Ytmbhdelegdhieaa
open Go Go.RowKit
theorem C_laws_markIntS (w0 : World) (x0 : (List Int)) (v0_0 : Value) (B0_0 : List Nat) (x1 : Int) (hS0 : Sep 0 w0 [R.own ty_3 B0_0 v0_0 x0]) (r : (Int × (List Int))) (hF : F_laws_markIntS x0 x1 = some r) :
    Calls Try.prog 53 [v0_0, (.int .i64 x1)].toArray w0 fun e w' => e = .returned (.int .i64 r.1) ∧ Below 0 (wE w0) w' ∧ Sep 0 w' [R.rest w0 (fps [R.own ty_3 B0_0 v0_0 x0]), R.own ty_3 B0_0 v0_0 r.2] := by
  refine calls_mk' Try.func53 rfl Try.ntmps53 rfl rfl fun Q hQ hP => ?_
  have hB : Below (wE w0).heap.size (wE w0) w0 := wE_below w0
  have hS : Sep (wE w0).heap.size w0 [R.rest w0 (fps [R.own ty_3 B0_0 v0_0 x0]), R.own ty_3 B0_0 v0_0 x0] := hS0.rest
  unfold F_laws_markIntS at hF
  refine W.seq fun K1 hK1 => ?_
  refine W.region ?_
  refine wl_assign rfl rfl ?_
  refine WL.nil ?_
  refine fun a ha => hK1 _ _ ?_ a ha
  refine W.seq fun K2 hK2 => ?_
  refine W.seq fun K3 hK3 => ?_
  refine W.region ?_
  refine wl_assign rfl rfl ?_
  refine WL.nil ?_
  refine fun a ha => hK3 _ _ ?_ a ha
  refine W.block ?_
  refine W.loopk (fun m a w4 => ∃ (l7 : (List Int)) (y8 : Int) (y9 : Int), St 19 [(0, v0_0), (1, (.int .i64 y8)), (5, (.int .i64 y9))] a ∧ Below (wE w0).heap.size (wE w0) w4 ∧ Sep (wE w0).heap.size w4 [R.rest w0 (fps [R.own ty_3 B0_0 v0_0 x0]), R.own ty_3 B0_0 v0_0 l7] ∧ F_laws_markIntS_L1 m l7 y8 y9 = some r) FU ?_ ?_
  ·
    exact fun a ha => ⟨x0, x1, 0, ha.sub ⟨rfl, rfl, rfl, trivial⟩, hB, (hS.sel [0, 1] rfl), hF⟩
  ·
    rintro m12 a w4 ⟨l7, y8, y9, ha, hB5, hS6, hF⟩ KL11 hKL11
    refine W.at ?_ ha
    cases m12 with
    | zero => exact noneE hF
    | succ m12 =>
      obtain ⟨nx10, hnx10⟩ : ∃ k, k = F_laws_markIntS_L1 m12 := ⟨_, rfl⟩
      rw [F_laws_markIntS_L1, ← hnx10] at hF
      refine W.seq fun K13 hK13 => ?_
      refine W.seq fun K14 hK14 => ?_
      refine W.region ?_
      refine wl_move rfl rfl ?_
      refine wl_move rfl rfl ?_
      refine wl_lenr (e := ty_3) (l := l7) Try.underlying23 rfl rfl (hS6.own_ro (i := 1) rfl) ?_
      refine wl_lss rfl rfl rfl ?_
      refine WL.nil ?_
      refine fun a ha => hK14 _ _ ?_ a ha
      refine W.cond rfl (fun h15 => ?_) (fun h15 => ?_)
      · replace hF := ifP h15 hF
        refine W.skip ?_
        refine fun a ha => hK13 _ _ ?_ a ha
        refine W.seq fun K16 hK16 => ?_
        refine W.block ?_
        refine W.seq fun K17 hK17 => ?_
        refine W.region ?_
        refine wl_move rfl rfl ?_
        refine wl_move rfl rfl ?_
        refine wl_move rfl rfl ?_
        obtain ⟨u18, hu18, hF⟩ := bindE hF
        refine wl_indexo (e := ty_3) (i := 1) Try.underlying23 rfl rfl rfl hS6 rfl hu18 ?_
        rintro p19 _ rfl hp20 ho21
        refine wl_storeo (i := 1) (o := 0) (vs := [(.int .i64 y8)]) (u' := y8) fl_3 tf_3 rfl rfl rfl rfl ho21 hu18 hB5 hS6 rfl rfl ⟨rfl, trivial⟩ rfl ?_
        intro w22 hk25 hB23 hS24
        refine WL.nil ?_
        refine fun a ha => hK17 _ _ ?_ a ha
        refine W.region ?_
        refine wl_move rfl rfl ?_
        refine wl_add rfl rfl rfl ?_
        refine wl_assign rfl rfl ?_
        refine WL.nil ?_
        refine fun a ha => hK16 _ _ ?_ a ha
        refine W.region ?_
        refine wl_move rfl rfl ?_
        refine wl_add rfl rfl rfl ?_
        refine wl_assign rfl rfl ?_
        refine WL.nil ?_
        rw [hnx10] at hF
        exact fun a ha => hKL11 a _ m12 (Nat.lt_succ_self m12) ⟨(seti l7 y9 y8), (w64 (y8 + 1)), (w64 (y9 + 1)), ha.sub ⟨rfl, rfl, rfl, trivial⟩, hB23, (hS24.sel [0, 1] rfl), hF⟩
      · replace hF := ifN h15 hF
        refine W.exit ?_
        refine fun a ha => hK2 _ _ ?_ a ha
        refine W.seq fun K26 hK26 => ?_
        refine W.region ?_
        refine wl_move rfl rfl ?_
        refine wl_assign rfl rfl ?_
        refine WL.nil ?_
        refine fun a ha => hK26 _ _ ?_ a ha
        refine W.ret ?_
        have hr := Option.some.inj hF
        subst hr
        exact rets (vs := [(.int .i64 y8)]) hQ rfl ⟨rv_tmp rfl, trivial⟩ ⟨rfl, hB5, hS6.sel [0, 1] rfl⟩
theorem C_laws_heldIntS (w0 : World) (x0 : (List Int)) (v0_0 : Value) (h0_0 : rdS ty_3 (· < w0.heap.size) w0 v0_0 x0) (x1 : Int) (r : Int) (hF : F_laws_heldIntS x0 x1 = some r) :
    Calls Try.prog 54 [v0_0, (.int .i64 x1)].toArray w0 fun e w' => e = .returned (.int .i64 r) ∧ Below w0.heap.size w0 w' := by
  refine calls_mk' Try.func54 rfl Try.ntmps54 rfl rfl fun Q hQ hP => ?_
  have hB : Below w0.heap.size w0 w0 := Below.refl _ _
  have hS : Sep w0.heap.size w0 [] := Sep.nil _ _
  unfold F_laws_heldIntS at hF
  refine W.seq fun K1 hK1 => ?_
  refine W.region ?_
  refine wl_assign rfl rfl ?_
  refine WL.nil ?_
  refine fun a ha => hK1 _ _ ?_ a ha
  refine W.seq fun K2 hK2 => ?_
  refine W.seq fun K3 hK3 => ?_
  refine W.region ?_
  refine wl_assign rfl rfl ?_
  refine WL.nil ?_
  refine fun a ha => hK3 _ _ ?_ a ha
  refine W.block ?_
  refine W.loopk (fun m a w4 => ∃ (y7 : Int) (y8 : Int), St 21 [(0, v0_0), (1, (.int .i64 y7)), (5, (.int .i64 y8))] a ∧ Below w0.heap.size w0 w4 ∧ Sep w0.heap.size w4 [] ∧ F_laws_heldIntS_L1 x0 m y7 y8 = some r) FU ?_ ?_
  ·
    exact fun a ha => ⟨x1, 0, ha.sub ⟨rfl, rfl, rfl, trivial⟩, hB, (hS.sel [] rfl), hF⟩
  ·
    rintro m11 a w4 ⟨y7, y8, ha, hB5, hS6, hF⟩ KL10 hKL10
    refine W.at ?_ ha
    cases m11 with
    | zero => exact noneE hF
    | succ m11 =>
      obtain ⟨nx9, hnx9⟩ : ∃ k, k = F_laws_heldIntS_L1 x0 m11 := ⟨_, rfl⟩
      rw [F_laws_heldIntS_L1, ← hnx9] at hF
      refine W.seq fun K12 hK12 => ?_
      refine W.seq fun K13 hK13 => ?_
      refine W.region ?_
      refine wl_move rfl rfl ?_
      refine wl_move rfl rfl ?_
      refine wl_lenr (e := ty_3) (l := x0) Try.underlying23 rfl rfl h0_0 ?_
      refine wl_lss rfl rfl rfl ?_
      refine WL.nil ?_
      refine fun a ha => hK13 _ _ ?_ a ha
      refine W.cond rfl (fun h14 => ?_) (fun h14 => ?_)
      · replace hF := ifP h14 hF
        refine W.skip ?_
        refine fun a ha => hK12 _ _ ?_ a ha
        refine W.seq fun K15 hK15 => ?_
        refine W.block ?_
        refine W.seq fun K16 hK16 => ?_
        refine W.seq fun K17 hK17 => ?_
        refine W.region ?_
        refine wl_move rfl rfl ?_
        refine wl_move rfl rfl ?_
        obtain ⟨u18, hu18, hF⟩ := bindE hF
        refine wl_index (e := ty_3) Try.underlying23 rfl rfl rfl h0_0 hu18 ?_
        rintro p19 _ rfl hp20
        refine wl_load_p (vs := [(.int .i64 u18)]) (v := (.int .i64 u18)) tf_3 rfl rfl (hp20.ro hB5) rfl rfl ?_
        refine wl_move rfl rfl ?_
        refine wl_neq rfl rfl rfl ?_
        refine WL.nil ?_
        refine fun a ha => hK17 _ _ ?_ a ha
        refine W.cond rfl (fun h21 => ?_) (fun h21 => ?_)
        · replace hF := ifP h21 hF
          refine W.seq fun K22 hK22 => ?_
          refine W.region ?_
          refine wl_assign rfl rfl ?_
          refine WL.nil ?_
          refine fun a ha => hK22 _ _ ?_ a ha
          refine W.ret ?_
          have hr := Option.some.inj hF
          subst hr
          exact rets (vs := [(.int .i64 (-1))]) hQ rfl ⟨rv_tmp rfl, trivial⟩ ⟨rfl, hB5⟩
        · replace hF := ifN h21 hF
          refine W.skip ?_
          refine fun a ha => hK16 _ _ ?_ a ha
          refine W.region ?_
          refine wl_move rfl rfl ?_
          refine wl_add rfl rfl rfl ?_
          refine wl_assign rfl rfl ?_
          refine WL.nil ?_
          refine fun a ha => hK15 _ _ ?_ a ha
          refine W.region ?_
          refine wl_move rfl rfl ?_
          refine wl_add rfl rfl rfl ?_
          refine wl_assign rfl rfl ?_
          refine WL.nil ?_
          rw [hnx9] at hF
          exact fun a ha => hKL10 a _ m11 (Nat.lt_succ_self m11) ⟨(w64 (y7 + 1)), (w64 (y8 + 1)), ha.sub ⟨rfl, rfl, rfl, trivial⟩, hB5, (hS6.sel [] rfl), hF⟩
      · replace hF := ifN h14 hF
        refine W.exit ?_
        refine fun a ha => hK2 _ _ ?_ a ha
        refine W.seq fun K23 hK23 => ?_
        refine W.region ?_
        refine wl_move rfl rfl ?_
        refine wl_assign rfl rfl ?_
        refine WL.nil ?_
        refine fun a ha => hK23 _ _ ?_ a ha
        refine W.ret ?_
        have hr := Option.some.inj hF
        subst hr
        exact rets (vs := [(.int .i64 y7)]) hQ rfl ⟨rv_tmp rfl, trivial⟩ ⟨rfl, hB5⟩
theorem C_spec_DifferentCharts (w0 : World) (x0 : ((List (List (Int × Int))) × (List Int) × Int × Int)) (v0_0 : Value) (h0_0 : rdS ty_109 (· < w0.heap.size) w0 v0_0 x0.1) (v0_1 : Value) (h0_1 : rdS ty_3 (· < w0.heap.size) w0 v0_1 x0.2.1) (x1 : ((List (List (Int × Int))) × (List Int) × Int × Int)) (v1_0 : Value) (h1_0 : rdS ty_109 (· < w0.heap.size) w0 v1_0 x1.1) (v1_1 : Value) (h1_1 : rdS ty_3 (· < w0.heap.size) w0 v1_1 x1.2.1) (r : ((List Int) × Bool)) (hF : F_spec_DifferentCharts x0 x1 = some r) :
    Calls Try.prog 55 [(.agg #[v0_0, v0_1, (.int .i64 x0.2.2.1), (.int .i64 x0.2.2.2)]), (.agg #[v1_0, v1_1, (.int .i64 x1.2.2.1), (.int .i64 x1.2.2.2)])].toArray w0 fun e w' => ∃ (q0 : Value) (G0 : List Nat), e = .returned (.tuple #[q0, (.bool r.2)]) ∧ Below w0.heap.size w0 w' ∧ Sep w0.heap.size w' [R.own ty_3 G0 q0 r.1] := by
  refine calls_mk' Try.func55 rfl Try.ntmps55 rfl rfl fun Q hQ hP => ?_
  have hB : Below w0.heap.size w0 w0 := Below.refl _ _
  have hS : Sep w0.heap.size w0 [] := Sep.nil _ _
  unfold F_spec_DifferentCharts at hF
  refine W.seq fun K1 hK1 => ?_
  refine W.region ?_
  refine wl_box (cs := [v0_0, v0_1, (.int .i64 x0.2.2.1), (.int .i64 x0.2.2.2)]) rfl rfl rfl hB hS ?_
  intro b2 w3 hb4 hB5 hS6
  refine wl_box (cs := [v1_0, v1_1, (.int .i64 x1.2.2.1), (.int .i64 x1.2.2.2)]) rfl rfl rfl hB5 hS6 ?_
  intro b7 w8 hb9 hB10 hS11
  refine wl_assign rfl rfl ?_
  refine wl_assign rfl rfl ?_
  refine WL.nil ?_
  refine fun a ha => hK1 _ _ ?_ a ha
  refine W.seq fun K12 hK12 => ?_
  refine W.seq fun K13 hK13 => ?_
  obtain ⟨k18, hk18, hF⟩ := jE1 hF
  have hJ19 : ∀ (y17 : Bool) (w14 : World) (_ : k18 y17 = some r) (_ : Below w0.heap.size w0 w14) (_ : Sep w0.heap.size w14 [R.blk b2 30 [v0_0, v0_1, (.int .i64 x0.2.2.1), (.int .i64 x0.2.2.2)], R.blk b7 30 [v1_0, v1_1, (.int .i64 x1.2.2.1), (.int .i64 x1.2.2.2)]]), ∀ a, St 39 [(2, (.pointer (some ⟨b2, 0, none⟩))), (3, (.pointer (some ⟨b7, 0, none⟩))), (35, (.bool y17))] a → K13 a w14 := by
    intro y17 w14 hF hB15 hS16
    subst hk18
    refine fun a ha => hK13 _ _ ?_ a ha
    refine W.cond rfl (fun h20 => ?_) (fun h20 => ?_)
    · replace hF := ifP h20 hF
      refine W.seq fun K21 hK21 => ?_
      refine W.region ?_
      refine wl_assign rfl rfl ?_
      refine wl_assign rfl rfl ?_
      refine WL.nil ?_
      refine fun a ha => hK21 _ _ ?_ a ha
      refine W.ret ?_
      have hS22 := hS16.push0 (r := R.own ty_3 [] (.slice none 0 0) []) rfl fun _ => .inl ⟨rfl, rfl, rfl⟩
      have hr := Option.some.inj hF
      subst hr
      exact rets (vs := [(.slice none 0 0), (.bool false)]) hQ rfl ⟨rv_tmp rfl, rv_tmp rfl, trivial⟩ ⟨(.slice none 0 0), [], rfl, hB15, hS22.sel [0] rfl⟩
    · replace hF := ifN h20 hF
      refine W.skip ?_
      refine fun a ha => hK12 _ _ ?_ a ha
      refine W.seq fun K23 hK23 => ?_
      refine W.region ?_
      refine wl_load_blk (i := 0) (vs := [v0_0, v0_1, (.int .i64 x0.2.2.1), (.int .i64 x0.2.2.2)]) (v := (.agg #[v0_0, v0_1, (.int .i64 x0.2.2.1), (.int .i64 x0.2.2.2)])) tf_30 rfl rfl hS16 rfl rfl rfl ?_
      refine wl_load_blk (i := 1) (vs := [v1_0, v1_1, (.int .i64 x1.2.2.1), (.int .i64 x1.2.2.2)]) (v := (.agg #[v1_0, v1_1, (.int .i64 x1.2.2.1), (.int .i64 x1.2.2.2)])) tf_30 rfl rfl hS16 rfl rfl rfl ?_
      obtain ⟨u24, hu24, hF⟩ := bindE hF
      refine wl_call rfl Try.call88 (C_spec_cpDifferent w14 x0 v0_0 (h0_0.ro hB15) v0_1 (h0_1.ro hB15) x1 v1_0 (h1_0.ro hB15) v1_1 (h1_1.ro hB15) _ hu24) rfl ?_
      rintro _ w27 ⟨v25, F26, rfl, hb28, hM31⟩
      refine ⟨_, rfl, ?_⟩
      have hB29 := hB15.trans (hb28.mono hB15.size)
      have hS30 := hS16.join hb28 hM31 hB15.size
      refine wl_assign rfl rfl ?_
      refine wl_assign rfl rfl ?_
      refine WL.nil ?_
      refine fun a ha => hK23 _ _ ?_ a ha
      refine W.ret ?_
      have hr := Option.some.inj hF
      subst hr
      exact rets (vs := [v25, (.bool true)]) hQ rfl ⟨rv_tmp rfl, rv_tmp rfl, trivial⟩ ⟨v25, F26, rfl, hB29, hS30.sel [0] rfl⟩
  refine W.regionH mixed_ [] hB10 hS11 ?_
  intro w32 hb33 hB34 hS35
  have hSW36 := KeepX.refl w32 []
  refine WH.takex (i := 0) rfl (by kernel_rfl) (by kernel_rfl) (by kernel_rfl) hP hSW36 ?_
  refine pr_load_blk (i := 1) (vs := [v0_0, v0_1, (.int .i64 x0.2.2.1), (.int .i64 x0.2.2.2)]) (v := (.agg #[v0_0, v0_1, (.int .i64 x0.2.2.1), (.int .i64 x0.2.2.2)])) tf_30 rfl rfl hS35 rfl rfl rfl (by simp) ?_
  refine WH.one (i := 1) (by kernel_rfl) rfl ?_
  obtain ⟨u37, hu37, hF⟩ := bindE hF
  refine wl_call rfl Try.call62 (C_spec_swGood w32 x0 v0_0 (h0_0.ro hB34) v0_1 (h0_1.ro hB34) _ hu37) rfl ?_
  rintro _ w38 ⟨rfl, hb39⟩
  refine ⟨_, rfl, ?_⟩
  have hB40 := hB34.trans (hb39.mono hB34.size)
  have hS41 := hS35.below hb39
  have hSW43 := hSW36.ext hb39
  refine WL.nil (WH.ret hSW43 ?_)
  refine WH.takex (i := 2) rfl (by kernel_rfl) (by kernel_rfl) (by kernel_rfl) hP hSW43 ?_
  refine pr_not rfl rfl ?_
  refine WH.takex (i := 3) rfl (by kernel_rfl) (by kernel_rfl) (by kernel_rfl) hP hSW43 ?_
  refine pr_move rfl rfl ?_
  rcases bE (!u37) with h44 | h44
  · replace hF := ifP h44 hF
    refine WH.off (i := 4) rfl (by kernel_rfl) (by kernel_rfl) (by kernel_rfl) hP rfl rfl h44 rfl hSW43 ?_
    refine WH.off (i := 5) rfl (by kernel_rfl) (by kernel_rfl) (by kernel_rfl) hP rfl rfl h44 rfl hSW43 ?_
    refine WH.off (i := 6) rfl (by kernel_rfl) (by kernel_rfl) (by kernel_rfl) hP rfl rfl h44 rfl hSW43 ?_
    refine WH.takex (i := 7) rfl (by kernel_rfl) (by kernel_rfl) (by kernel_rfl) hP hSW43 ?_
    refine pr_pick_t rfl rfl h44 rfl ?_
    refine WH.takex (i := 8) rfl (by kernel_rfl) (by kernel_rfl) (by kernel_rfl) hP hSW43 ?_
    refine pr_move rfl rfl ?_
    refine WH.off (i := 9) rfl (by kernel_rfl) (by kernel_rfl) (by kernel_rfl) hP rfl rfl rfl rfl hSW43 ?_
    refine WH.off (i := 10) rfl (by kernel_rfl) (by kernel_rfl) (by kernel_rfl) hP rfl rfl rfl rfl hSW43 ?_
    refine WH.off (i := 11) rfl (by kernel_rfl) (by kernel_rfl) (by kernel_rfl) hP rfl rfl rfl rfl hSW43 ?_
    refine WH.off (i := 12) rfl (by kernel_rfl) (by kernel_rfl) (by kernel_rfl) hP rfl rfl rfl rfl hSW43 ?_
    refine WH.off (i := 13) rfl (by kernel_rfl) (by kernel_rfl) (by kernel_rfl) hP rfl rfl rfl rfl hSW43 ?_
    refine WH.off (i := 14) rfl (by kernel_rfl) (by kernel_rfl) (by kernel_rfl) hP rfl rfl rfl rfl hSW43 ?_
    refine WH.off (i := 15) rfl (by kernel_rfl) (by kernel_rfl) (by kernel_rfl) hP rfl rfl rfl rfl hSW43 ?_
    refine WH.takex (i := 16) rfl (by kernel_rfl) (by kernel_rfl) (by kernel_rfl) hP hSW43 ?_
    refine pr_pick_t rfl rfl rfl rfl ?_
    refine WH.takex (i := 17) rfl (by kernel_rfl) (by kernel_rfl) (by kernel_rfl) hP hSW43 ?_
    refine pr_move rfl rfl ?_
    refine WH.off (i := 18) rfl (by kernel_rfl) (by kernel_rfl) (by kernel_rfl) hP rfl rfl rfl rfl hSW43 ?_
    refine WH.off (i := 19) rfl (by kernel_rfl) (by kernel_rfl) (by kernel_rfl) hP rfl rfl rfl rfl hSW43 ?_
    refine WH.off (i := 20) rfl (by kernel_rfl) (by kernel_rfl) (by kernel_rfl) hP rfl rfl rfl rfl hSW43 ?_
    refine WH.off (i := 21) rfl (by kernel_rfl) (by kernel_rfl) (by kernel_rfl) hP rfl rfl rfl rfl hSW43 ?_
    refine WH.off (i := 22) rfl (by kernel_rfl) (by kernel_rfl) (by kernel_rfl) hP rfl rfl rfl rfl hSW43 ?_
    refine WH.off (i := 23) rfl (by kernel_rfl) (by kernel_rfl) (by kernel_rfl) hP rfl rfl rfl rfl hSW43 ?_
    refine WH.off (i := 24) rfl (by kernel_rfl) (by kernel_rfl) (by kernel_rfl) hP rfl rfl rfl rfl hSW43 ?_
    refine WH.off (i := 25) rfl (by kernel_rfl) (by kernel_rfl) (by kernel_rfl) hP rfl rfl rfl rfl hSW43 ?_
    refine WH.off (i := 26) rfl (by kernel_rfl) (by kernel_rfl) (by kernel_rfl) hP rfl rfl rfl rfl hSW43 ?_
    refine WH.off (i := 27) rfl (by kernel_rfl) (by kernel_rfl) (by kernel_rfl) hP rfl rfl rfl rfl hSW43 ?_
    refine WH.off (i := 28) rfl (by kernel_rfl) (by kernel_rfl) (by kernel_rfl) hP rfl rfl rfl rfl hSW43 ?_
    refine WH.takex (i := 29) rfl (by kernel_rfl) (by kernel_rfl) (by kernel_rfl) hP hSW43 ?_
    refine pr_pick_t rfl rfl rfl rfl ?_
    refine WH.done (by kernel_rfl) ?_
    exact fun a ha => hJ19 (true) _ hF hB40 (hS41.sel [1, 0] rfl) a (ha.sub ⟨rfl, rfl, rfl, trivial⟩)
  · replace hF := ifN h44 hF
    refine WH.takexg (i := 4) rfl (by kernel_rfl) (by kernel_rfl) (by kernel_rfl) hP rfl rfl h44 hSW43 ?_
    refine pr_load_blk (i := 0) (vs := [v1_0, v1_1, (.int .i64 x1.2.2.1), (.int .i64 x1.2.2.2)]) (v := (.agg #[v1_0, v1_1, (.int .i64 x1.2.2.1), (.int .i64 x1.2.2.2)])) tf_30 rfl rfl hS35 rfl rfl rfl (by simp) ?_
    refine WH.one (i := 5) (by kernel_rfl) rfl ?_
    refine wl_on rfl rfl h44 ?_
    obtain ⟨u45, hu45, hF⟩ := bindE hF
    refine wl_call rfl Try.call62 (C_spec_swGood w38 x1 v1_0 (h1_0.ro hB40) v1_1 (h1_1.ro hB40) _ hu45) rfl ?_
    rintro _ w46 ⟨rfl, hb47⟩
    refine ⟨_, rfl, ?_⟩
    have hB48 := hB40.trans (hb47.mono hB40.size)
    have hS49 := hS41.below hb47
    have hSW51 := hSW43.ext hb47
    refine WL.nil (WH.ret hSW51 ?_)
    refine WH.takexg (i := 6) rfl (by kernel_rfl) (by kernel_rfl) (by kernel_rfl) hP rfl rfl h44 hSW51 ?_
    refine pr_not rfl rfl ?_
    refine WH.takex (i := 7) rfl (by kernel_rfl) (by kernel_rfl) (by kernel_rfl) hP hSW51 ?_
    refine pr_pick_f rfl rfl h44 rfl ?_
    refine WH.takex (i := 8) rfl (by kernel_rfl) (by kernel_rfl) (by kernel_rfl) hP hSW51 ?_
    refine pr_move rfl rfl ?_
    rcases bE (!u45) with h52 | h52
    · replace hF := ifP h52 hF
      refine WH.off (i := 9) rfl (by kernel_rfl) (by kernel_rfl) (by kernel_rfl) hP rfl rfl h52 rfl hSW51 ?_
      refine WH.off (i := 10) rfl (by kernel_rfl) (by kernel_rfl) (by kernel_rfl) hP rfl rfl h52 rfl hSW51 ?_
      refine WH.off (i := 11) rfl (by kernel_rfl) (by kernel_rfl) (by kernel_rfl) hP rfl rfl h52 rfl hSW51 ?_
      refine WH.off (i := 12) rfl (by kernel_rfl) (by kernel_rfl) (by kernel_rfl) hP rfl rfl h52 rfl hSW51 ?_
      refine WH.off (i := 13) rfl (by kernel_rfl) (by kernel_rfl) (by kernel_rfl) hP rfl rfl h52 rfl hSW51 ?_
      refine WH.off (i := 14) rfl (by kernel_rfl) (by kernel_rfl) (by kernel_rfl) hP rfl rfl h52 rfl hSW51 ?_
      refine WH.off (i := 15) rfl (by kernel_rfl) (by kernel_rfl) (by kernel_rfl) hP rfl rfl h52 rfl hSW51 ?_
      refine WH.takex (i := 16) rfl (by kernel_rfl) (by kernel_rfl) (by kernel_rfl) hP hSW51 ?_
      refine pr_pick_t rfl rfl h52 rfl ?_
      refine WH.takex (i := 17) rfl (by kernel_rfl) (by kernel_rfl) (by kernel_rfl) hP hSW51 ?_
      refine pr_move rfl rfl ?_
      refine WH.off (i := 18) rfl (by kernel_rfl) (by kernel_rfl) (by kernel_rfl) hP rfl rfl rfl rfl hSW51 ?_
      refine WH.off (i := 19) rfl (by kernel_rfl) (by kernel_rfl) (by kernel_rfl) hP rfl rfl rfl rfl hSW51 ?_
      refine WH.off (i := 20) rfl (by kernel_rfl) (by kernel_rfl) (by kernel_rfl) hP rfl rfl rfl rfl hSW51 ?_
      refine WH.off (i := 21) rfl (by kernel_rfl) (by kernel_rfl) (by kernel_rfl) hP rfl rfl rfl rfl hSW51 ?_
      refine WH.off (i := 22) rfl (by kernel_rfl) (by kernel_rfl) (by kernel_rfl) hP rfl rfl rfl rfl hSW51 ?_
      refine WH.off (i := 23) rfl (by kernel_rfl) (by kernel_rfl) (by kernel_rfl) hP rfl rfl rfl rfl hSW51 ?_
      refine WH.off (i := 24) rfl (by kernel_rfl) (by kernel_rfl) (by kernel_rfl) hP rfl rfl rfl rfl hSW51 ?_
      refine WH.off (i := 25) rfl (by kernel_rfl) (by kernel_rfl) (by kernel_rfl) hP rfl rfl rfl rfl hSW51 ?_
      refine WH.off (i := 26) rfl (by kernel_rfl) (by kernel_rfl) (by kernel_rfl) hP rfl rfl rfl rfl hSW51 ?_
      refine WH.off (i := 27) rfl (by kernel_rfl) (by kernel_rfl) (by kernel_rfl) hP rfl rfl rfl rfl hSW51 ?_
      refine WH.off (i := 28) rfl (by kernel_rfl) (by kernel_rfl) (by kernel_rfl) hP rfl rfl rfl rfl hSW51 ?_
      refine WH.takex (i := 29) rfl (by kernel_rfl) (by kernel_rfl) (by kernel_rfl) hP hSW51 ?_
      refine pr_pick_t rfl rfl rfl rfl ?_
      refine WH.done (by kernel_rfl) ?_
      exact fun a ha => hJ19 (true) _ hF hB48 (hS49.sel [1, 0] rfl) a (ha.sub ⟨rfl, rfl, rfl, trivial⟩)
    · replace hF := ifN h52 hF
      refine WH.takexg (i := 9) rfl (by kernel_rfl) (by kernel_rfl) (by kernel_rfl) hP rfl rfl h52 hSW51 ?_
      refine pr_field (o := 0) (off' := 0) ff_30_0 rfl rfl rfl ?_
      refine WH.takexg (i := 10) rfl (by kernel_rfl) (by kernel_rfl) (by kernel_rfl) hP rfl rfl h52 hSW51 ?_
      refine pr_load_blk (i := 1) (vs := [v0_0]) (v := v0_0) tf_28 rfl rfl hS35 rfl rfl rfl (by simp) ?_
      refine WH.takexg (i := 11) rfl (by kernel_rfl) (by kernel_rfl) (by kernel_rfl) hP rfl rfl h52 hSW51 ?_
      refine pr_lenr (e := ty_109) (l := x0.1) Try.underlying28 rfl rfl h0_0 ?_
      refine WH.takexg (i := 12) rfl (by kernel_rfl) (by kernel_rfl) (by kernel_rfl) hP rfl rfl h52 hSW51 ?_
      refine pr_field (o := 0) (off' := 0) ff_30_0 rfl rfl rfl ?_
      refine WH.takexg (i := 13) rfl (by kernel_rfl) (by kernel_rfl) (by kernel_rfl) hP rfl rfl h52 hSW51 ?_
      refine pr_load_blk (i := 0) (vs := [v1_0]) (v := v1_0) tf_28 rfl rfl hS35 rfl rfl rfl (by simp) ?_
      refine WH.takexg (i := 14) rfl (by kernel_rfl) (by kernel_rfl) (by kernel_rfl) hP rfl rfl h52 hSW51 ?_
      refine pr_lenr (e := ty_109) (l := x1.1) Try.underlying28 rfl rfl h1_0 ?_
      refine WH.takexg (i := 15) rfl (by kernel_rfl) (by kernel_rfl) (by kernel_rfl) hP rfl rfl h52 hSW51 ?_
      refine pr_neq rfl rfl rfl ?_
      refine WH.takex (i := 16) rfl (by kernel_rfl) (by kernel_rfl) (by kernel_rfl) hP hSW51 ?_
      refine pr_pick_f rfl rfl h52 rfl ?_
      refine WH.takex (i := 17) rfl (by kernel_rfl) (by kernel_rfl) (by kernel_rfl) hP hSW51 ?_
      refine pr_move rfl rfl ?_
      rcases bE ((List.length x0.1 : Int) != (List.length x1.1 : Int)) with h53 | h53
      · replace hF := ifP h53 hF
        refine WH.off (i := 18) rfl (by kernel_rfl) (by kernel_rfl) (by kernel_rfl) hP rfl rfl h53 rfl hSW51 ?_
        refine WH.off (i := 19) rfl (by kernel_rfl) (by kernel_rfl) (by kernel_rfl) hP rfl rfl h53 rfl hSW51 ?_
        refine WH.off (i := 20) rfl (by kernel_rfl) (by kernel_rfl) (by kernel_rfl) hP rfl rfl h53 rfl hSW51 ?_
        refine WH.off (i := 21) rfl (by kernel_rfl) (by kernel_rfl) (by kernel_rfl) hP rfl rfl h53 rfl hSW51 ?_
        refine WH.off (i := 22) rfl (by kernel_rfl) (by kernel_rfl) (by kernel_rfl) hP rfl rfl h53 rfl hSW51 ?_
        refine WH.off (i := 23) rfl (by kernel_rfl) (by kernel_rfl) (by kernel_rfl) hP rfl rfl h53 rfl hSW51 ?_
        refine WH.off (i := 24) rfl (by kernel_rfl) (by kernel_rfl) (by kernel_rfl) hP rfl rfl h53 rfl hSW51 ?_
        refine WH.off (i := 25) rfl (by kernel_rfl) (by kernel_rfl) (by kernel_rfl) hP rfl rfl h53 rfl hSW51 ?_
        refine WH.off (i := 26) rfl (by kernel_rfl) (by kernel_rfl) (by kernel_rfl) hP rfl rfl h53 rfl hSW51 ?_
        refine WH.off (i := 27) rfl (by kernel_rfl) (by kernel_rfl) (by kernel_rfl) hP rfl rfl h53 rfl hSW51 ?_
        refine WH.off (i := 28) rfl (by kernel_rfl) (by kernel_rfl) (by kernel_rfl) hP rfl rfl h53 rfl hSW51 ?_
        refine WH.takex (i := 29) rfl (by kernel_rfl) (by kernel_rfl) (by kernel_rfl) hP hSW51 ?_
        refine pr_pick_t rfl rfl h53 rfl ?_
        refine WH.done (by kernel_rfl) ?_
        exact fun a ha => hJ19 (true) _ hF hB48 (hS49.sel [1, 0] rfl) a (ha.sub ⟨rfl, rfl, rfl, trivial⟩)
      · replace hF := ifN h53 hF
        refine WH.takexg (i := 18) rfl (by kernel_rfl) (by kernel_rfl) (by kernel_rfl) hP rfl rfl h53 hSW51 ?_
        refine pr_field (o := 0) (off' := 0) ff_30_0 rfl rfl rfl ?_
        refine WH.takexg (i := 19) rfl (by kernel_rfl) (by kernel_rfl) (by kernel_rfl) hP rfl rfl h53 hSW51 ?_
        refine pr_load_blk (i := 1) (vs := [v0_0]) (v := v0_0) tf_28 rfl rfl hS35 rfl rfl rfl (by simp) ?_
        obtain ⟨u54, hu54, hF⟩ := bindE hF
        refine WH.takexg (i := 20) rfl (by kernel_rfl) (by kernel_rfl) (by kernel_rfl) hP rfl rfl h53 hSW51 ?_
        refine pr_index (e := ty_109) Try.underlying28 rfl rfl rfl h0_0 hu54 ?_
        rintro p55 _ ⟨v57, rfl, hv58⟩ hp56
        refine WH.takexg (i := 21) rfl (by kernel_rfl) (by kernel_rfl) (by kernel_rfl) hP rfl rfl h53 hSW51 ?_
        refine pr_load_p (vs := [v57]) (v := v57) tf_109 rfl rfl (hp56.kx hB34 (by simp)) rfl rfl ?_
        refine WH.takexg (i := 22) rfl (by kernel_rfl) (by kernel_rfl) (by kernel_rfl) hP rfl rfl h53 hSW51 ?_
        refine pr_lenr (e := ty_105) (l := u54) Try.underlying109 rfl rfl hv58 ?_
        refine WH.takexg (i := 23) rfl (by kernel_rfl) (by kernel_rfl) (by kernel_rfl) hP rfl rfl h53 hSW51 ?_
        refine pr_field (o := 0) (off' := 0) ff_30_0 rfl rfl rfl ?_
        refine WH.takexg (i := 24) rfl (by kernel_rfl) (by kernel_rfl) (by kernel_rfl) hP rfl rfl h53 hSW51 ?_
        refine pr_load_blk (i := 0) (vs := [v1_0]) (v := v1_0) tf_28 rfl rfl hS35 rfl rfl rfl (by simp) ?_
        obtain ⟨u59, hu59, hF⟩ := bindE hF
        refine WH.takexg (i := 25) rfl (by kernel_rfl) (by kernel_rfl) (by kernel_rfl) hP rfl rfl h53 hSW51 ?_
        refine pr_index (e := ty_109) Try.underlying28 rfl rfl rfl h1_0 hu59 ?_
        rintro p60 _ ⟨v62, rfl, hv63⟩ hp61
        refine WH.takexg (i := 26) rfl (by kernel_rfl) (by kernel_rfl) (by kernel_rfl) hP rfl rfl h53 hSW51 ?_
        refine pr_load_p (vs := [v62]) (v := v62) tf_109 rfl rfl (hp61.kx hB34 (by simp)) rfl rfl ?_
        refine WH.takexg (i := 27) rfl (by kernel_rfl) (by kernel_rfl) (by kernel_rfl) hP rfl rfl h53 hSW51 ?_
        refine pr_lenr (e := ty_105) (l := u59) Try.underlying109 rfl rfl hv63 ?_
        refine WH.takexg (i := 28) rfl (by kernel_rfl) (by kernel_rfl) (by kernel_rfl) hP rfl rfl h53 hSW51 ?_
        refine pr_neq rfl rfl rfl ?_
        refine WH.takex (i := 29) rfl (by kernel_rfl) (by kernel_rfl) (by kernel_rfl) hP hSW51 ?_
        refine pr_pick_f rfl rfl h53 rfl ?_
        refine WH.done (by kernel_rfl) ?_
        exact fun a ha => hJ19 (((List.length u54 : Int) != (List.length u59 : Int))) _ hF hB48 (hS49.sel [1, 0] rfl) a (ha.sub ⟨rfl, rfl, rfl, trivial⟩)
theorem C_impl_DifferentCharts (w0 : World) (x0 : ((List (List (Int × Int))) × (List Int) × Int × Int)) (v0_0 : Value) (h0_0 : rdS ty_109 (· < w0.heap.size) w0 v0_0 x0.1) (v0_1 : Value) (h0_1 : rdS ty_3 (· < w0.heap.size) w0 v0_1 x0.2.1) (x1 : ((List (List (Int × Int))) × (List Int) × Int × Int)) (v1_0 : Value) (h1_0 : rdS ty_109 (· < w0.heap.size) w0 v1_0 x1.1) (v1_1 : Value) (h1_1 : rdS ty_3 (· < w0.heap.size) w0 v1_1 x1.2.1) (r : ((List Int) × Bool)) (hF : F_impl_DifferentCharts x0 x1 = some r) :
    Calls Try.prog 56 [(.agg #[v0_0, v0_1, (.int .i64 x0.2.2.1), (.int .i64 x0.2.2.2)]), (.agg #[v1_0, v1_1, (.int .i64 x1.2.2.1), (.int .i64 x1.2.2.2)])].toArray w0 fun e w' => ∃ (q0 : Value) (G0 : List Nat), e = .returned (.tuple #[q0, (.bool r.2)]) ∧ Below w0.heap.size w0 w' ∧ Sep w0.heap.size w' [R.own ty_3 G0 q0 r.1] := by
  refine calls_mk' Try.func56 rfl Try.ntmps56 rfl rfl fun Q hQ hP => ?_
  have hB : Below w0.heap.size w0 w0 := Below.refl _ _
  have hS : Sep w0.heap.size w0 [] := Sep.nil _ _
  unfold F_impl_DifferentCharts at hF
  refine W.seq fun K1 hK1 => ?_
  refine W.region ?_
  refine wl_box (cs := [v0_0, v0_1, (.int .i64 x0.2.2.1), (.int .i64 x0.2.2.2)]) rfl rfl rfl hB hS ?_
  intro b2 w3 hb4 hB5 hS6
  refine wl_box (cs := [v1_0, v1_1, (.int .i64 x1.2.2.1), (.int .i64 x1.2.2.2)]) rfl rfl rfl hB5 hS6 ?_
  intro b7 w8 hb9 hB10 hS11
  refine wl_assign rfl rfl ?_
  refine wl_assign rfl rfl ?_
  refine WL.nil ?_
  refine fun a ha => hK1 _ _ ?_ a ha
  refine W.seq fun K12 hK12 => ?_
  refine W.seq fun K13 hK13 => ?_
  obtain ⟨k18, hk18, hF⟩ := jE1 hF
  have hJ19 : ∀ (y17 : Bool) (w14 : World) (_ : k18 y17 = some r) (_ : Below w0.heap.size w0 w14) (_ : Sep w0.heap.size w14 [R.blk b2 30 [v0_0, v0_1, (.int .i64 x0.2.2.1), (.int .i64 x0.2.2.2)], R.blk b7 30 [v1_0, v1_1, (.int .i64 x1.2.2.1), (.int .i64 x1.2.2.2)]]), ∀ a, St 63 [(2, (.pointer (some ⟨b2, 0, none⟩))), (3, (.pointer (some ⟨b7, 0, none⟩))), (37, (.bool y17))] a → K13 a w14 := by
    intro y17 w14 hF hB15 hS16
    subst hk18
    refine fun a ha => hK13 _ _ ?_ a ha
    refine W.cond rfl (fun h20 => ?_) (fun h20 => ?_)
    · replace hF := ifP h20 hF
      refine W.seq fun K21 hK21 => ?_
      refine W.region ?_
      refine wl_assign rfl rfl ?_
      refine wl_assign rfl rfl ?_
      refine WL.nil ?_
      refine fun a ha => hK21 _ _ ?_ a ha
      refine W.ret ?_
      have hS22 := hS16.push0 (r := R.own ty_3 [] (.slice none 0 0) []) rfl fun _ => .inl ⟨rfl, rfl, rfl⟩
      have hr := Option.some.inj hF
      subst hr
      exact rets (vs := [(.slice none 0 0), (.bool false)]) hQ rfl ⟨rv_tmp rfl, rv_tmp rfl, trivial⟩ ⟨(.slice none 0 0), [], rfl, hB15, hS22.sel [0] rfl⟩
    · replace hF := ifN h20 hF
      refine W.skip ?_
      refine fun a ha => hK12 _ _ ?_ a ha
      refine W.seq fun K23 hK23 => ?_
      refine W.region ?_
      refine wl_lit (vs := []) (l := []) fl_3 Try.underlying23 rfl rfl rfl rfl rfl rfl hB15 hS16 ?_
      intro v24 F25 w26 hb27 hB28 hS29
      refine wl_assign rfl rfl ?_
      refine WL.nil ?_
      refine fun a ha => hK23 _ _ ?_ a ha
      refine W.seq fun K30 hK30 => ?_
      refine W.seq fun K31 hK31 => ?_
      refine W.region ?_
      refine wl_field (o := 0) (off' := 0) ff_30_0 rfl rfl rfl ?_
      refine wl_load_blk (i := 1) (vs := [v0_0]) (v := v0_0) tf_28 rfl rfl hS29 rfl rfl rfl ?_
      refine wl_lenr (e := ty_109) (l := x0.1) Try.underlying28 rfl rfl h0_0 ?_
      refine wl_move rfl rfl ?_
      refine WL.nil ?_
      refine fun a ha => hK31 _ _ ?_ a ha
      refine W.block ?_
      refine W.loopk (fun m a w32 => ∃ (l35 : (List Int)) (y38 : Int) (v36 : Value) (F37 : List Nat), St 63 [(2, (.pointer (some ⟨b2, 0, none⟩))), (3, (.pointer (some ⟨b7, 0, none⟩))), (6, v36), (41, (.int .i64 (List.length x0.1 : Int))), (42, (.int .i64 y38))] a ∧ Below w0.heap.size w0 w32 ∧ Sep w0.heap.size w32 [R.blk b2 30 [v0_0, v0_1, (.int .i64 x0.2.2.1), (.int .i64 x0.2.2.2)], R.blk b7 30 [v1_0, v1_1, (.int .i64 x1.2.2.1), (.int .i64 x1.2.2.2)], R.own ty_3 F37 v36 l35] ∧ F_impl_DifferentCharts_L1 x0 x1 m l35 y38 = some r) FU ?_ ?_
      ·
        exact fun a ha => ⟨[], 0, v24, F25, ha.sub ⟨rfl, rfl, rfl, rfl, rfl, trivial⟩, hB28, (hS29.sel [1, 2, 0] rfl), hF⟩
      ·
        rintro m41 a w32 ⟨l35, y38, v36, F37, ha, hB33, hS34, hF⟩ KL40 hKL40
        refine W.at ?_ ha
        cases m41 with
        | zero => exact noneE hF
        | succ m41 =>
          obtain ⟨nx39, hnx39⟩ : ∃ k, k = F_impl_DifferentCharts_L1 x0 x1 m41 := ⟨_, rfl⟩
          rw [F_impl_DifferentCharts_L1, ← hnx39] at hF
          refine W.seq fun K42 hK42 => ?_
          refine W.region ?_
          refine wl_lss rfl rfl rfl ?_
          refine WL.nil ?_
          refine fun a ha => hK42 _ _ ?_ a ha
          refine W.seq fun K43 hK43 => ?_
          refine W.cond rfl (fun h44 => ?_) (fun h44 => ?_)
          · replace hF := ifP h44 hF
            refine W.skip ?_
            refine fun a ha => hK43 _ _ ?_ a ha
            refine W.seq fun K45 hK45 => ?_
            obtain ⟨k52, hk52, hF⟩ := jE1 hF
            have hJ53 : ∀ (l49 : (List Int)) (v50 : Value) (F51 : List Nat) (w46 : World) (_ : k52 l49 = some r) (_ : Below w0.heap.size w0 w46) (_ : Sep w0.heap.size w46 [R.blk b2 30 [v0_0, v0_1, (.int .i64 x0.2.2.1), (.int .i64 x0.2.2.2)], R.blk b7 30 [v1_0, v1_1, (.int .i64 x1.2.2.1), (.int .i64 x1.2.2.2)], R.own ty_3 F51 v50 l49]), ∀ a, St 63 [(2, (.pointer (some ⟨b2, 0, none⟩))), (3, (.pointer (some ⟨b7, 0, none⟩))), (6, v50), (41, (.int .i64 (List.length x0.1 : Int))), (42, (.int .i64 y38))] a → K45 a w46 := by
              intro l49 v50 F51 w46 hF hB47 hS48
              subst hk52
              refine fun a ha => hK45 _ _ ?_ a ha
              refine W.region ?_
              refine wl_add rfl rfl rfl ?_
              refine wl_move rfl rfl ?_
              refine WL.nil ?_
              rw [hnx39] at hF
              exact fun a ha => hKL40 a _ m41 (Nat.lt_succ_self m41) ⟨l49, (w64 (y38 + 1)), v50, F51, ha.sub ⟨rfl, rfl, rfl, rfl, rfl, trivial⟩, hB47, (hS48.sel [0, 1, 2] rfl), hF⟩
            refine W.block ?_
            refine W.seq fun K54 hK54 => ?_
            refine W.region ?_
            refine wl_move rfl rfl ?_
            refine wl_assign rfl rfl ?_
            refine WL.nil ?_
            refine fun a ha => hK54 _ _ ?_ a ha
            refine W.seq fun K55 hK55 => ?_
            refine W.regionH mixed_ [] hB33 hS34 ?_
            intro w56 hb57 hB58 hS59
            have hSW60 := KeepX.refl w56 []
            refine WH.takex (i := 0) rfl (by kernel_rfl) (by kernel_rfl) (by kernel_rfl) hP hSW60 ?_
            refine pr_field (o := 0) (off' := 0) ff_30_0 rfl rfl rfl ?_
            refine WH.takex (i := 1) rfl (by kernel_rfl) (by kernel_rfl) (by kernel_rfl) hP hSW60 ?_
            refine pr_load_blk (i := 0) (vs := [v0_0]) (v := v0_0) tf_28 rfl rfl hS59 rfl rfl rfl (by simp) ?_
            refine WH.takex (i := 2) rfl (by kernel_rfl) (by kernel_rfl) (by kernel_rfl) hP hSW60 ?_
            refine pr_move rfl rfl ?_
            obtain ⟨u61, hu61, hF⟩ := bindE hF
            refine WH.takex (i := 3) rfl (by kernel_rfl) (by kernel_rfl) (by kernel_rfl) hP hSW60 ?_
            refine pr_index (e := ty_109) Try.underlying28 rfl rfl rfl h0_0 hu61 ?_
            rintro p62 _ ⟨v64, rfl, hv65⟩ hp63
            refine WH.takex (i := 4) rfl (by kernel_rfl) (by kernel_rfl) (by kernel_rfl) hP hSW60 ?_
            refine pr_load_p (vs := [v64]) (v := v64) tf_109 rfl rfl (hp63.kx hB58 (by simp)) rfl rfl ?_
            refine WH.takex (i := 5) rfl (by kernel_rfl) (by kernel_rfl) (by kernel_rfl) hP hSW60 ?_
            refine pr_field (o := 0) (off' := 0) ff_30_0 rfl rfl rfl ?_
            refine WH.takex (i := 6) rfl (by kernel_rfl) (by kernel_rfl) (by kernel_rfl) hP hSW60 ?_
            refine pr_load_blk (i := 1) (vs := [v1_0]) (v := v1_0) tf_28 rfl rfl hS59 rfl rfl rfl (by simp) ?_
            refine WH.takex (i := 7) rfl (by kernel_rfl) (by kernel_rfl) (by kernel_rfl) hP hSW60 ?_
            refine pr_move rfl rfl ?_
            obtain ⟨u66, hu66, hF⟩ := bindE hF
            refine WH.takex (i := 8) rfl (by kernel_rfl) (by kernel_rfl) (by kernel_rfl) hP hSW60 ?_
            refine pr_index (e := ty_109) Try.underlying28 rfl rfl rfl h1_0 hu66 ?_
            rintro p67 _ ⟨v69, rfl, hv70⟩ hp68
            refine WH.takex (i := 9) rfl (by kernel_rfl) (by kernel_rfl) (by kernel_rfl) hP hSW60 ?_
            refine pr_load_p (vs := [v69]) (v := v69) tf_109 rfl rfl (hp68.kx hB58 (by simp)) rfl rfl ?_
            refine WH.one (i := 10) (by kernel_rfl) rfl ?_
            obtain ⟨u71, hu71, hF⟩ := bindE hF
            refine wl_call rfl Try.call91 (C_slices_Equal_impl_Spot_impl_Spot w56 u61 v64 (hv65.ro hB58) u66 v69 (hv70.ro hB58) _ hu71) rfl ?_
            rintro _ w72 ⟨rfl, hb73⟩
            refine ⟨_, rfl, ?_⟩
            have hB74 := hB58.trans (hb73.mono hB58.size)
            have hS75 := hS59.below hb73
            have hSW77 := hSW60.ext hb73
            refine WL.nil (WH.ret hSW77 ?_)
            refine WH.takex (i := 11) rfl (by kernel_rfl) (by kernel_rfl) (by kernel_rfl) hP hSW77 ?_
            refine pr_not rfl rfl ?_
            refine WH.done (by kernel_rfl) ?_
            refine fun a ha => hK55 _ _ ?_ a ha
            refine W.cond rfl (fun h78 => ?_) (fun h78 => ?_)
            · replace hF := ifP h78 hF
              refine W.region ?_
              refine wl_move rfl rfl ?_
              refine wl_move rfl rfl ?_
              refine wl_lit (vs := [(.int .i64 y38)]) (l := [y38]) fl_3 Try.underlying23 rfl rfl rfl rfl rfl rfl hB74 hS75 ?_
              intro v79 F80 w81 hb82 hB83 hS84
              obtain ⟨u85, hu85, hF⟩ := bindE hF
              refine wl_append (i := 3) (S := (· < w81.heap.size)) fl_3 Try.underlying23 rfl rfl rfl hB83 hS84 rfl (hS84.own_ro (i := 0) rfl) hu85 ?_
              intro v86 F87 w88 hk89 hB90 hS91
              refine wl_assign rfl rfl ?_
              refine WL.nil ?_
              exact fun a ha => hJ53 (u85) (v86) (F87) _ hF hB90 (hS91.sel [1, 2, 3] rfl) a (ha.sub ⟨rfl, rfl, rfl, rfl, rfl, trivial⟩)
            · replace hF := ifN h78 hF
              refine W.skip ?_
              exact fun a ha => hJ53 (l35) (v36) (F37) _ hF hB74 (hS75.sel [0, 1, 2] rfl) a (ha.sub ⟨rfl, rfl, rfl, rfl, rfl, trivial⟩)
          · replace hF := ifN h44 hF
            refine W.exit ?_
            refine fun a ha => hK30 _ _ ?_ a ha
            refine W.seq fun K92 hK92 => ?_
            refine W.region ?_
            refine wl_move rfl rfl ?_
            refine wl_assign rfl rfl ?_
            refine wl_assign rfl rfl ?_
            refine WL.nil ?_
            refine fun a ha => hK92 _ _ ?_ a ha
            refine W.ret ?_
            have hr := Option.some.inj hF
            subst hr
            exact rets (vs := [v36, (.bool true)]) hQ rfl ⟨rv_tmp rfl, rv_tmp rfl, trivial⟩ ⟨v36, F37, rfl, hB33, hS34.sel [2] rfl⟩
  refine W.regionH mixed_ [] hB10 hS11 ?_
  intro w93 hb94 hB95 hS96
  have hSW97 := KeepX.refl w93 []
  refine WH.takex (i := 0) rfl (by kernel_rfl) (by kernel_rfl) (by kernel_rfl) hP hSW97 ?_
  refine pr_load_blk (i := 1) (vs := [v0_0, v0_1, (.int .i64 x0.2.2.1), (.int .i64 x0.2.2.2)]) (v := (.agg #[v0_0, v0_1, (.int .i64 x0.2.2.1), (.int .i64 x0.2.2.2)])) tf_30 rfl rfl hS96 rfl rfl rfl (by simp) ?_
  refine WH.one (i := 1) (by kernel_rfl) rfl ?_
  obtain ⟨u98, hu98, hF⟩ := bindE hF
  refine wl_call rfl Try.call18 (C_impl_IsShow w93 x0 v0_0 (h0_0.ro hB95) v0_1 (h0_1.ro hB95) _ hu98) rfl ?_
  rintro _ w99 ⟨rfl, hb100⟩
  refine ⟨_, rfl, ?_⟩
  have hB101 := hB95.trans (hb100.mono hB95.size)
  have hS102 := hS96.below hb100
  have hSW104 := hSW97.ext hb100
  refine WL.nil (WH.ret hSW104 ?_)
  refine WH.takex (i := 2) rfl (by kernel_rfl) (by kernel_rfl) (by kernel_rfl) hP hSW104 ?_
  refine pr_not rfl rfl ?_
  refine WH.takex (i := 3) rfl (by kernel_rfl) (by kernel_rfl) (by kernel_rfl) hP hSW104 ?_
  refine pr_move rfl rfl ?_
  rcases bE (!u98) with h105 | h105
  · replace hF := ifP h105 hF
    refine WH.off (i := 4) rfl (by kernel_rfl) (by kernel_rfl) (by kernel_rfl) hP rfl rfl h105 rfl hSW104 ?_
    refine WH.off (i := 5) rfl (by kernel_rfl) (by kernel_rfl) (by kernel_rfl) hP rfl rfl h105 rfl hSW104 ?_
    refine WH.off (i := 6) rfl (by kernel_rfl) (by kernel_rfl) (by kernel_rfl) hP rfl rfl h105 rfl hSW104 ?_
    refine WH.takex (i := 7) rfl (by kernel_rfl) (by kernel_rfl) (by kernel_rfl) hP hSW104 ?_
    refine pr_pick_t rfl rfl h105 rfl ?_
    refine WH.takex (i := 8) rfl (by kernel_rfl) (by kernel_rfl) (by kernel_rfl) hP hSW104 ?_
    refine pr_move rfl rfl ?_
    refine WH.off (i := 9) rfl (by kernel_rfl) (by kernel_rfl) (by kernel_rfl) hP rfl rfl rfl rfl hSW104 ?_
    refine WH.off (i := 10) rfl (by kernel_rfl) (by kernel_rfl) (by kernel_rfl) hP rfl rfl rfl rfl hSW104 ?_
    refine WH.off (i := 11) rfl (by kernel_rfl) (by kernel_rfl) (by kernel_rfl) hP rfl rfl rfl rfl hSW104 ?_
    refine WH.off (i := 12) rfl (by kernel_rfl) (by kernel_rfl) (by kernel_rfl) hP rfl rfl rfl rfl hSW104 ?_
    refine WH.off (i := 13) rfl (by kernel_rfl) (by kernel_rfl) (by kernel_rfl) hP rfl rfl rfl rfl hSW104 ?_
    refine WH.off (i := 14) rfl (by kernel_rfl) (by kernel_rfl) (by kernel_rfl) hP rfl rfl rfl rfl hSW104 ?_
    refine WH.off (i := 15) rfl (by kernel_rfl) (by kernel_rfl) (by kernel_rfl) hP rfl rfl rfl rfl hSW104 ?_
    refine WH.takex (i := 16) rfl (by kernel_rfl) (by kernel_rfl) (by kernel_rfl) hP hSW104 ?_
    refine pr_pick_t rfl rfl rfl rfl ?_
    refine WH.takex (i := 17) rfl (by kernel_rfl) (by kernel_rfl) (by kernel_rfl) hP hSW104 ?_
    refine pr_move rfl rfl ?_
    refine WH.off (i := 18) rfl (by kernel_rfl) (by kernel_rfl) (by kernel_rfl) hP rfl rfl rfl rfl hSW104 ?_
    refine WH.off (i := 19) rfl (by kernel_rfl) (by kernel_rfl) (by kernel_rfl) hP rfl rfl rfl rfl hSW104 ?_
    refine WH.off (i := 20) rfl (by kernel_rfl) (by kernel_rfl) (by kernel_rfl) hP rfl rfl rfl rfl hSW104 ?_
    refine WH.off (i := 21) rfl (by kernel_rfl) (by kernel_rfl) (by kernel_rfl) hP rfl rfl rfl rfl hSW104 ?_
    refine WH.off (i := 22) rfl (by kernel_rfl) (by kernel_rfl) (by kernel_rfl) hP rfl rfl rfl rfl hSW104 ?_
    refine WH.off (i := 23) rfl (by kernel_rfl) (by kernel_rfl) (by kernel_rfl) hP rfl rfl rfl rfl hSW104 ?_
    refine WH.off (i := 24) rfl (by kernel_rfl) (by kernel_rfl) (by kernel_rfl) hP rfl rfl rfl rfl hSW104 ?_
    refine WH.off (i := 25) rfl (by kernel_rfl) (by kernel_rfl) (by kernel_rfl) hP rfl rfl rfl rfl hSW104 ?_
    refine WH.off (i := 26) rfl (by kernel_rfl) (by kernel_rfl) (by kernel_rfl) hP rfl rfl rfl rfl hSW104 ?_
    refine WH.off (i := 27) rfl (by kernel_rfl) (by kernel_rfl) (by kernel_rfl) hP rfl rfl rfl rfl hSW104 ?_
    refine WH.off (i := 28) rfl (by kernel_rfl) (by kernel_rfl) (by kernel_rfl) hP rfl rfl rfl rfl hSW104 ?_
    refine WH.takex (i := 29) rfl (by kernel_rfl) (by kernel_rfl) (by kernel_rfl) hP hSW104 ?_
    refine pr_pick_t rfl rfl rfl rfl ?_
    refine WH.done (by kernel_rfl) ?_
    exact fun a ha => hJ19 (true) _ hF hB101 (hS102.sel [1, 0] rfl) a (ha.sub ⟨rfl, rfl, rfl, trivial⟩)
  · replace hF := ifN h105 hF
    refine WH.takexg (i := 4) rfl (by kernel_rfl) (by kernel_rfl) (by kernel_rfl) hP rfl rfl h105 hSW104 ?_
    refine pr_load_blk (i := 0) (vs := [v1_0, v1_1, (.int .i64 x1.2.2.1), (.int .i64 x1.2.2.2)]) (v := (.agg #[v1_0, v1_1, (.int .i64 x1.2.2.1), (.int .i64 x1.2.2.2)])) tf_30 rfl rfl hS96 rfl rfl rfl (by simp) ?_
    refine WH.one (i := 5) (by kernel_rfl) rfl ?_
    refine wl_on rfl rfl h105 ?_
    obtain ⟨u106, hu106, hF⟩ := bindE hF
    refine wl_call rfl Try.call18 (C_impl_IsShow w99 x1 v1_0 (h1_0.ro hB101) v1_1 (h1_1.ro hB101) _ hu106) rfl ?_
    rintro _ w107 ⟨rfl, hb108⟩
    refine ⟨_, rfl, ?_⟩
    have hB109 := hB101.trans (hb108.mono hB101.size)
    have hS110 := hS102.below hb108
    have hSW112 := hSW104.ext hb108
    refine WL.nil (WH.ret hSW112 ?_)
    refine WH.takexg (i := 6) rfl (by kernel_rfl) (by kernel_rfl) (by kernel_rfl) hP rfl rfl h105 hSW112 ?_
    refine pr_not rfl rfl ?_
    refine WH.takex (i := 7) rfl (by kernel_rfl) (by kernel_rfl) (by kernel_rfl) hP hSW112 ?_
    refine pr_pick_f rfl rfl h105 rfl ?_
    refine WH.takex (i := 8) rfl (by kernel_rfl) (by kernel_rfl) (by kernel_rfl) hP hSW112 ?_
    refine pr_move rfl rfl ?_
    rcases bE (!u106) with h113 | h113
    · replace hF := ifP h113 hF
      refine WH.off (i := 9) rfl (by kernel_rfl) (by kernel_rfl) (by kernel_rfl) hP rfl rfl h113 rfl hSW112 ?_
      refine WH.off (i := 10) rfl (by kernel_rfl) (by kernel_rfl) (by kernel_rfl) hP rfl rfl h113 rfl hSW112 ?_
      refine WH.off (i := 11) rfl (by kernel_rfl) (by kernel_rfl) (by kernel_rfl) hP rfl rfl h113 rfl hSW112 ?_
      refine WH.off (i := 12) rfl (by kernel_rfl) (by kernel_rfl) (by kernel_rfl) hP rfl rfl h113 rfl hSW112 ?_
      refine WH.off (i := 13) rfl (by kernel_rfl) (by kernel_rfl) (by kernel_rfl) hP rfl rfl h113 rfl hSW112 ?_
      refine WH.off (i := 14) rfl (by kernel_rfl) (by kernel_rfl) (by kernel_rfl) hP rfl rfl h113 rfl hSW112 ?_
      refine WH.off (i := 15) rfl (by kernel_rfl) (by kernel_rfl) (by kernel_rfl) hP rfl rfl h113 rfl hSW112 ?_
      refine WH.takex (i := 16) rfl (by kernel_rfl) (by kernel_rfl) (by kernel_rfl) hP hSW112 ?_
      refine pr_pick_t rfl rfl h113 rfl ?_
      refine WH.takex (i := 17) rfl (by kernel_rfl) (by kernel_rfl) (by kernel_rfl) hP hSW112 ?_
      refine pr_move rfl rfl ?_
      refine WH.off (i := 18) rfl (by kernel_rfl) (by kernel_rfl) (by kernel_rfl) hP rfl rfl rfl rfl hSW112 ?_
      refine WH.off (i := 19) rfl (by kernel_rfl) (by kernel_rfl) (by kernel_rfl) hP rfl rfl rfl rfl hSW112 ?_
      refine WH.off (i := 20) rfl (by kernel_rfl) (by kernel_rfl) (by kernel_rfl) hP rfl rfl rfl rfl hSW112 ?_
      refine WH.off (i := 21) rfl (by kernel_rfl) (by kernel_rfl) (by kernel_rfl) hP rfl rfl rfl rfl hSW112 ?_
      refine WH.off (i := 22) rfl (by kernel_rfl) (by kernel_rfl) (by kernel_rfl) hP rfl rfl rfl rfl hSW112 ?_
      refine WH.off (i := 23) rfl (by kernel_rfl) (by kernel_rfl) (by kernel_rfl) hP rfl rfl rfl rfl hSW112 ?_
      refine WH.off (i := 24) rfl (by kernel_rfl) (by kernel_rfl) (by kernel_rfl) hP rfl rfl rfl rfl hSW112 ?_
      refine WH.off (i := 25) rfl (by kernel_rfl) (by kernel_rfl) (by kernel_rfl) hP rfl rfl rfl rfl hSW112 ?_
      refine WH.off (i := 26) rfl (by kernel_rfl) (by kernel_rfl) (by kernel_rfl) hP rfl rfl rfl rfl hSW112 ?_
      refine WH.off (i := 27) rfl (by kernel_rfl) (by kernel_rfl) (by kernel_rfl) hP rfl rfl rfl rfl hSW112 ?_
      refine WH.off (i := 28) rfl (by kernel_rfl) (by kernel_rfl) (by kernel_rfl) hP rfl rfl rfl rfl hSW112 ?_
      refine WH.takex (i := 29) rfl (by kernel_rfl) (by kernel_rfl) (by kernel_rfl) hP hSW112 ?_
      refine pr_pick_t rfl rfl rfl rfl ?_
      refine WH.done (by kernel_rfl) ?_
      exact fun a ha => hJ19 (true) _ hF hB109 (hS110.sel [1, 0] rfl) a (ha.sub ⟨rfl, rfl, rfl, trivial⟩)
    · replace hF := ifN h113 hF
      refine WH.takexg (i := 9) rfl (by kernel_rfl) (by kernel_rfl) (by kernel_rfl) hP rfl rfl h113 hSW112 ?_
      refine pr_field (o := 0) (off' := 0) ff_30_0 rfl rfl rfl ?_
      refine WH.takexg (i := 10) rfl (by kernel_rfl) (by kernel_rfl) (by kernel_rfl) hP rfl rfl h113 hSW112 ?_
      refine pr_load_blk (i := 1) (vs := [v0_0]) (v := v0_0) tf_28 rfl rfl hS96 rfl rfl rfl (by simp) ?_
      refine WH.takexg (i := 11) rfl (by kernel_rfl) (by kernel_rfl) (by kernel_rfl) hP rfl rfl h113 hSW112 ?_
      refine pr_lenr (e := ty_109) (l := x0.1) Try.underlying28 rfl rfl h0_0 ?_
      refine WH.takexg (i := 12) rfl (by kernel_rfl) (by kernel_rfl) (by kernel_rfl) hP rfl rfl h113 hSW112 ?_
      refine pr_field (o := 0) (off' := 0) ff_30_0 rfl rfl rfl ?_
      refine WH.takexg (i := 13) rfl (by kernel_rfl) (by kernel_rfl) (by kernel_rfl) hP rfl rfl h113 hSW112 ?_
      refine pr_load_blk (i := 0) (vs := [v1_0]) (v := v1_0) tf_28 rfl rfl hS96 rfl rfl rfl (by simp) ?_
      refine WH.takexg (i := 14) rfl (by kernel_rfl) (by kernel_rfl) (by kernel_rfl) hP rfl rfl h113 hSW112 ?_
      refine pr_lenr (e := ty_109) (l := x1.1) Try.underlying28 rfl rfl h1_0 ?_
      refine WH.takexg (i := 15) rfl (by kernel_rfl) (by kernel_rfl) (by kernel_rfl) hP rfl rfl h113 hSW112 ?_
      refine pr_neq rfl rfl rfl ?_
      refine WH.takex (i := 16) rfl (by kernel_rfl) (by kernel_rfl) (by kernel_rfl) hP hSW112 ?_
      refine pr_pick_f rfl rfl h113 rfl ?_
      refine WH.takex (i := 17) rfl (by kernel_rfl) (by kernel_rfl) (by kernel_rfl) hP hSW112 ?_
      refine pr_move rfl rfl ?_
      rcases bE ((List.length x0.1 : Int) != (List.length x1.1 : Int)) with h114 | h114
      · replace hF := ifP h114 hF
        refine WH.off (i := 18) rfl (by kernel_rfl) (by kernel_rfl) (by kernel_rfl) hP rfl rfl h114 rfl hSW112 ?_
        refine WH.off (i := 19) rfl (by kernel_rfl) (by kernel_rfl) (by kernel_rfl) hP rfl rfl h114 rfl hSW112 ?_
        refine WH.off (i := 20) rfl (by kernel_rfl) (by kernel_rfl) (by kernel_rfl) hP rfl rfl h114 rfl hSW112 ?_
        refine WH.off (i := 21) rfl (by kernel_rfl) (by kernel_rfl) (by kernel_rfl) hP rfl rfl h114 rfl hSW112 ?_
        refine WH.off (i := 22) rfl (by kernel_rfl) (by kernel_rfl) (by kernel_rfl) hP rfl rfl h114 rfl hSW112 ?_
        refine WH.off (i := 23) rfl (by kernel_rfl) (by kernel_rfl) (by kernel_rfl) hP rfl rfl h114 rfl hSW112 ?_
        refine WH.off (i := 24) rfl (by kernel_rfl) (by kernel_rfl) (by kernel_rfl) hP rfl rfl h114 rfl hSW112 ?_
        refine WH.off (i := 25) rfl (by kernel_rfl) (by kernel_rfl) (by kernel_rfl) hP rfl rfl h114 rfl hSW112 ?_
        refine WH.off (i := 26) rfl (by kernel_rfl) (by kernel_rfl) (by kernel_rfl) hP rfl rfl h114 rfl hSW112 ?_
        refine WH.off (i := 27) rfl (by kernel_rfl) (by kernel_rfl) (by kernel_rfl) hP rfl rfl h114 rfl hSW112 ?_
        refine WH.off (i := 28) rfl (by kernel_rfl) (by kernel_rfl) (by kernel_rfl) hP rfl rfl h114 rfl hSW112 ?_
        refine WH.takex (i := 29) rfl (by kernel_rfl) (by kernel_rfl) (by kernel_rfl) hP hSW112 ?_
        refine pr_pick_t rfl rfl h114 rfl ?_
        refine WH.done (by kernel_rfl) ?_
        exact fun a ha => hJ19 (true) _ hF hB109 (hS110.sel [1, 0] rfl) a (ha.sub ⟨rfl, rfl, rfl, trivial⟩)
      · replace hF := ifN h114 hF
        refine WH.takexg (i := 18) rfl (by kernel_rfl) (by kernel_rfl) (by kernel_rfl) hP rfl rfl h114 hSW112 ?_
        refine pr_field (o := 0) (off' := 0) ff_30_0 rfl rfl rfl ?_
        refine WH.takexg (i := 19) rfl (by kernel_rfl) (by kernel_rfl) (by kernel_rfl) hP rfl rfl h114 hSW112 ?_
        refine pr_load_blk (i := 1) (vs := [v0_0]) (v := v0_0) tf_28 rfl rfl hS96 rfl rfl rfl (by simp) ?_
        obtain ⟨u115, hu115, hF⟩ := bindE hF
        refine WH.takexg (i := 20) rfl (by kernel_rfl) (by kernel_rfl) (by kernel_rfl) hP rfl rfl h114 hSW112 ?_
        refine pr_index (e := ty_109) Try.underlying28 rfl rfl rfl h0_0 hu115 ?_
        rintro p116 _ ⟨v118, rfl, hv119⟩ hp117
        refine WH.takexg (i := 21) rfl (by kernel_rfl) (by kernel_rfl) (by kernel_rfl) hP rfl rfl h114 hSW112 ?_
        refine pr_load_p (vs := [v118]) (v := v118) tf_109 rfl rfl (hp117.kx hB95 (by simp)) rfl rfl ?_
        refine WH.takexg (i := 22) rfl (by kernel_rfl) (by kernel_rfl) (by kernel_rfl) hP rfl rfl h114 hSW112 ?_
        refine pr_lenr (e := ty_105) (l := u115) Try.underlying109 rfl rfl hv119 ?_
        refine WH.takexg (i := 23) rfl (by kernel_rfl) (by kernel_rfl) (by kernel_rfl) hP rfl rfl h114 hSW112 ?_
        refine pr_field (o := 0) (off' := 0) ff_30_0 rfl rfl rfl ?_
        refine WH.takexg (i := 24) rfl (by kernel_rfl) (by kernel_rfl) (by kernel_rfl) hP rfl rfl h114 hSW112 ?_
        refine pr_load_blk (i := 0) (vs := [v1_0]) (v := v1_0) tf_28 rfl rfl hS96 rfl rfl rfl (by simp) ?_
        obtain ⟨u120, hu120, hF⟩ := bindE hF
        refine WH.takexg (i := 25) rfl (by kernel_rfl) (by kernel_rfl) (by kernel_rfl) hP rfl rfl h114 hSW112 ?_
        refine pr_index (e := ty_109) Try.underlying28 rfl rfl rfl h1_0 hu120 ?_
        rintro p121 _ ⟨v123, rfl, hv124⟩ hp122
        refine WH.takexg (i := 26) rfl (by kernel_rfl) (by kernel_rfl) (by kernel_rfl) hP rfl rfl h114 hSW112 ?_
        refine pr_load_p (vs := [v123]) (v := v123) tf_109 rfl rfl (hp122.kx hB95 (by simp)) rfl rfl ?_
        refine WH.takexg (i := 27) rfl (by kernel_rfl) (by kernel_rfl) (by kernel_rfl) hP rfl rfl h114 hSW112 ?_
        refine pr_lenr (e := ty_105) (l := u120) Try.underlying109 rfl rfl hv124 ?_
        refine WH.takexg (i := 28) rfl (by kernel_rfl) (by kernel_rfl) (by kernel_rfl) hP rfl rfl h114 hSW112 ?_
        refine pr_neq rfl rfl rfl ?_
        refine WH.takex (i := 29) rfl (by kernel_rfl) (by kernel_rfl) (by kernel_rfl) hP hSW112 ?_
        refine pr_pick_f rfl rfl h114 rfl ?_
        refine WH.done (by kernel_rfl) ?_
        exact fun a ha => hJ19 (((List.length u115 : Int) != (List.length u120 : Int))) _ hF hB109 (hS110.sel [1, 0] rfl) a (ha.sub ⟨rfl, rfl, rfl, trivial⟩)
theorem C_laws_markSpotS (w0 : World) (x0 : (List (Int × Int))) (v0_0 : Value) (B0_0 : List Nat) (x1 : Int) (hS0 : Sep 0 w0 [R.own ty_105 B0_0 v0_0 x0]) (r : (Int × (List (Int × Int)))) (hF : F_laws_markSpotS x0 x1 = some r) :
    Calls Try.prog 122 [v0_0, (.int .i64 x1)].toArray w0 fun e w' => e = .returned (.int .i64 r.1) ∧ Below 0 (wE w0) w' ∧ Sep 0 w' [R.rest w0 (fps [R.own ty_105 B0_0 v0_0 x0]), R.own ty_105 B0_0 v0_0 r.2] := by
  refine calls_mk' Try.func122 rfl Try.ntmps122 rfl rfl fun Q hQ hP => ?_
  have hB : Below (wE w0).heap.size (wE w0) w0 := wE_below w0
  have hS : Sep (wE w0).heap.size w0 [R.rest w0 (fps [R.own ty_105 B0_0 v0_0 x0]), R.own ty_105 B0_0 v0_0 x0] := hS0.rest
  unfold F_laws_markSpotS at hF
  refine W.seq fun K1 hK1 => ?_
  refine W.region ?_
  refine wl_assign rfl rfl ?_
  refine WL.nil ?_
  refine fun a ha => hK1 _ _ ?_ a ha
  refine W.seq fun K2 hK2 => ?_
  refine W.seq fun K3 hK3 => ?_
  refine W.region ?_
  refine wl_assign rfl rfl ?_
  refine WL.nil ?_
  refine fun a ha => hK3 _ _ ?_ a ha
  refine W.block ?_
  refine W.loopk (fun m a w4 => ∃ (l7 : (List (Int × Int))) (y8 : Int) (y9 : Int), St 27 [(0, v0_0), (1, (.int .i64 y8)), (5, (.int .i64 y9))] a ∧ Below (wE w0).heap.size (wE w0) w4 ∧ Sep (wE w0).heap.size w4 [R.rest w0 (fps [R.own ty_105 B0_0 v0_0 x0]), R.own ty_105 B0_0 v0_0 l7] ∧ F_laws_markSpotS_L1 m l7 y8 y9 = some r) FU ?_ ?_
  ·
    exact fun a ha => ⟨x0, x1, 0, ha.sub ⟨rfl, rfl, rfl, trivial⟩, hB, (hS.sel [0, 1] rfl), hF⟩
  ·
    rintro m12 a w4 ⟨l7, y8, y9, ha, hB5, hS6, hF⟩ KL11 hKL11
    refine W.at ?_ ha
    cases m12 with
    | zero => exact noneE hF
    | succ m12 =>
      obtain ⟨nx10, hnx10⟩ : ∃ k, k = F_laws_markSpotS_L1 m12 := ⟨_, rfl⟩
      rw [F_laws_markSpotS_L1, ← hnx10] at hF
      refine W.seq fun K13 hK13 => ?_
      refine W.seq fun K14 hK14 => ?_
      refine W.region ?_
      refine wl_move rfl rfl ?_
      refine wl_move rfl rfl ?_
      refine wl_lenr (e := ty_105) (l := l7) Try.underlying109 rfl rfl (hS6.own_ro (i := 1) rfl) ?_
      refine wl_lss rfl rfl rfl ?_
      refine WL.nil ?_
      refine fun a ha => hK14 _ _ ?_ a ha
      refine W.cond rfl (fun h15 => ?_) (fun h15 => ?_)
      · replace hF := ifP h15 hF
        refine W.skip ?_
        refine fun a ha => hK13 _ _ ?_ a ha
        refine W.seq fun K16 hK16 => ?_
        refine W.block ?_
        refine W.seq fun K17 hK17 => ?_
        refine W.region ?_
        refine wl_move rfl rfl ?_
        refine wl_move rfl rfl ?_
        refine wl_move rfl rfl ?_
        obtain ⟨u18, hu18, hF⟩ := bindE hF
        refine wl_indexo (e := ty_105) (i := 1) Try.underlying109 rfl rfl rfl hS6 rfl hu18 ?_
        rintro p19 _ rfl hp20 ho21
        refine wl_fieldp (o := 0) ff_105_0 rfl rfl ?_
        refine wl_storeo (i := 1) (o := 0) (vs := [(.int .i64 y8)]) (u' := (y8, u18.2)) fl_105 tf_3 rfl rfl rfl rfl ho21 hu18 hB5 hS6 rfl rfl ⟨rfl, trivial⟩ rfl ?_
        intro w22 hk25 hB23 hS24
        refine WL.nil ?_
        refine fun a ha => hK17 _ _ ?_ a ha
        refine W.seq fun K26 hK26 => ?_
        refine W.region ?_
        refine wl_move rfl rfl ?_
        refine wl_add rfl rfl rfl ?_
        refine wl_assign rfl rfl ?_
        refine WL.nil ?_
        refine fun a ha => hK26 _ _ ?_ a ha
        refine W.seq fun K27 hK27 => ?_
        refine W.region ?_
        refine wl_move rfl rfl ?_
        refine wl_move rfl rfl ?_
        refine wl_move rfl rfl ?_
        obtain ⟨u28, hu28, hF⟩ := bindE hF
        refine wl_indexo (e := ty_105) (i := 1) Try.underlying109 rfl rfl rfl hS24 rfl hu28 ?_
        rintro p29 _ rfl hp30 ho31
        refine wl_fieldp (o := 1) ff_105_1 rfl rfl ?_
        refine wl_storeo (i := 1) (o := 1) (vs := [(.int .i64 (w64 (y8 + 1)))]) (u' := (u28.1, (w64 (y8 + 1)))) fl_105 tf_3 rfl rfl rfl rfl (ho31.add 1) hu28 hB23 hS24 rfl rfl ⟨rfl, trivial⟩ rfl ?_
        intro w32 hk35 hB33 hS34
        refine WL.nil ?_
        refine fun a ha => hK27 _ _ ?_ a ha
        refine W.region ?_
        refine wl_move rfl rfl ?_
        refine wl_add rfl rfl rfl ?_
        refine wl_assign rfl rfl ?_
        refine WL.nil ?_
        refine fun a ha => hK16 _ _ ?_ a ha
        refine W.region ?_
        refine wl_move rfl rfl ?_
        refine wl_add rfl rfl rfl ?_
        refine wl_assign rfl rfl ?_
        refine WL.nil ?_
        rw [hnx10] at hF
        exact fun a ha => hKL11 a _ m12 (Nat.lt_succ_self m12) ⟨(seti (seti l7 y9 (y8, u18.2)) y9 (u28.1, (w64 (y8 + 1)))), (w64 ((w64 (y8 + 1)) + 1)), (w64 (y9 + 1)), ha.sub ⟨rfl, rfl, rfl, trivial⟩, hB33, (hS34.sel [0, 1] rfl), hF⟩
      · replace hF := ifN h15 hF
        refine W.exit ?_
        refine fun a ha => hK2 _ _ ?_ a ha
        refine W.seq fun K36 hK36 => ?_
        refine W.region ?_
        refine wl_move rfl rfl ?_
        refine wl_assign rfl rfl ?_
        refine WL.nil ?_
        refine fun a ha => hK36 _ _ ?_ a ha
        refine W.ret ?_
        have hr := Option.some.inj hF
        subst hr
        exact rets (vs := [(.int .i64 y8)]) hQ rfl ⟨rv_tmp rfl, trivial⟩ ⟨rfl, hB5, hS6.sel [0, 1] rfl⟩
theorem C_laws_markSpotSS (w0 : World) (x0 : (List (List (Int × Int)))) (v0_0 : Value) (B0_0 : List Nat) (x1 : Int) (hS0 : Sep 0 w0 [R.own ty_109 B0_0 v0_0 x0]) (r : (Int × (List (List (Int × Int))))) (hF : F_laws_markSpotSS x0 x1 = some r) :
    Calls Try.prog 97 [v0_0, (.int .i64 x1)].toArray w0 fun e w' => e = .returned (.int .i64 r.1) ∧ Below 0 (wE w0) w' ∧ Sep 0 w' [R.rest w0 (fps [R.own ty_109 B0_0 v0_0 x0]), R.own ty_109 B0_0 v0_0 r.2] := by
  refine calls_mk' Try.func97 rfl Try.ntmps97 rfl rfl fun Q hQ hP => ?_
  have hB : Below (wE w0).heap.size (wE w0) w0 := wE_below w0
  have hS : Sep (wE w0).heap.size w0 [R.rest w0 (fps [R.own ty_109 B0_0 v0_0 x0]), R.own ty_109 B0_0 v0_0 x0] := hS0.rest
  unfold F_laws_markSpotSS at hF
  refine W.seq fun K1 hK1 => ?_
  refine W.region ?_
  refine wl_assign rfl rfl ?_
  refine WL.nil ?_
  refine fun a ha => hK1 _ _ ?_ a ha
  refine W.seq fun K2 hK2 => ?_
  refine W.seq fun K3 hK3 => ?_
  refine W.region ?_
  refine wl_assign rfl rfl ?_
  refine WL.nil ?_
  refine fun a ha => hK3 _ _ ?_ a ha
  refine W.block ?_
  refine W.loopk (fun m a w4 => ∃ (l7 : (List (List (Int × Int)))) (y8 : Int) (y9 : Int), St 19 [(0, v0_0), (1, (.int .i64 y8)), (5, (.int .i64 y9))] a ∧ Below (wE w0).heap.size (wE w0) w4 ∧ Sep (wE w0).heap.size w4 [R.rest w0 (fps [R.own ty_109 B0_0 v0_0 x0]), R.own ty_109 B0_0 v0_0 l7] ∧ F_laws_markSpotSS_L1 m l7 y8 y9 = some r) FU ?_ ?_
  ·
    exact fun a ha => ⟨x0, x1, 0, ha.sub ⟨rfl, rfl, rfl, trivial⟩, hB, (hS.sel [0, 1] rfl), hF⟩
  ·
    rintro m12 a w4 ⟨l7, y8, y9, ha, hB5, hS6, hF⟩ KL11 hKL11
    refine W.at ?_ ha
    cases m12 with
    | zero => exact noneE hF
    | succ m12 =>
      obtain ⟨nx10, hnx10⟩ : ∃ k, k = F_laws_markSpotSS_L1 m12 := ⟨_, rfl⟩
      rw [F_laws_markSpotSS_L1, ← hnx10] at hF
      refine W.seq fun K13 hK13 => ?_
      refine W.seq fun K14 hK14 => ?_
      refine W.region ?_
      refine wl_move rfl rfl ?_
      refine wl_move rfl rfl ?_
      refine wl_lenr (e := ty_109) (l := l7) Try.underlying28 rfl rfl (hS6.own_ro (i := 1) rfl) ?_
      refine wl_lss rfl rfl rfl ?_
      refine WL.nil ?_
      refine fun a ha => hK14 _ _ ?_ a ha
      refine W.cond rfl (fun h15 => ?_) (fun h15 => ?_)
      · replace hF := ifP h15 hF
        refine W.skip ?_
        refine fun a ha => hK13 _ _ ?_ a ha
        refine W.seq fun K16 hK16 => ?_
        refine W.block ?_
        refine W.region ?_
        refine wl_move rfl rfl ?_
        refine wl_move rfl rfl ?_
        obtain ⟨u17, hu17, hF⟩ := bindE hF
        refine wl_indexo (e := ty_109) (i := 1) Try.underlying28 rfl rfl rfl hS6 rfl hu17 ?_
        rintro p18 _ ⟨v20, rfl, hv21⟩ hp19 ho22
        refine wl_load_p (vs := [v20]) (v := v20) tf_109 rfl rfl hp19 rfl rfl ?_
        refine wl_move rfl rfl ?_
        obtain ⟨F23, hS24, hq25, hq26⟩ := (hS6.sel [1, 0] rfl).borrow (e := ty_109) (F := B0_0) (v := v0_0) (l := l7) hu17 ho22 hp19 rfl
        have hS27 : Sep (wE w0).heap.size w4 [R.own ty_105 F23 v20 u17, R.hole ty_109 B0_0 F23 v0_0 l7 y9.toNat [v20], R.rest w0 (fps [R.own ty_109 B0_0 v0_0 x0])] := hS24.head rfl fun _ h => by obtain ⟨_, h1, h2⟩ := h; cases h1; exact h2
        obtain ⟨u28, hu28, hF⟩ := bindE hF
        refine wl_call rfl Try.call122 (C_laws_markSpotS w4 u17 v20 F23 y8 (hS27.sel [0] rfl).base0 _ hu28) rfl ?_
        rintro _ w29 ⟨rfl, hE30, hM31⟩
        refine ⟨_, rfl, ?_⟩
        have hB32 := hS27.mutB [0] rfl (M := [R.own ty_105 F23 v20 u17]) rfl (M' := [R.own ty_105 F23 v20 u28.2]) rfl hB5 hB5.size hE30 hM31
        have hS33 : Sep (wE w0).heap.size w29 [R.own ty_105 F23 v20 u28.2, R.hole ty_109 B0_0 F23 v0_0 l7 y9.toNat [v20], R.rest w0 (fps [R.own ty_109 B0_0 v0_0 x0])] := hS27.mut [0] [1, 2] rfl (M := [R.own ty_105 F23 v20 u17]) rfl (M' := [R.own ty_105 F23 v20 u28.2]) rfl hM31
        have hS34 := hS33.head (r' := R.cel ty_109 F23 [v20] u28.2) rfl fun _ h => ⟨_, rfl, h⟩
        have hS35 : Sep (wE w0).heap.size w29 [R.own ty_109 B0_0 v0_0 (seti l7 y9 u28.2), R.rest w0 (fps [R.own ty_109 B0_0 v0_0 x0])] := hS34.unborrow hq25 hq26
        refine wl_assign rfl rfl ?_
        refine WL.nil ?_
        refine fun a ha => hK16 _ _ ?_ a ha
        refine W.region ?_
        refine wl_move rfl rfl ?_
        refine wl_add rfl rfl rfl ?_
        refine wl_assign rfl rfl ?_
        refine WL.nil ?_
        rw [hnx10] at hF
        exact fun a ha => hKL11 a _ m12 (Nat.lt_succ_self m12) ⟨(seti l7 y9 u28.2), u28.1, (w64 (y9 + 1)), ha.sub ⟨rfl, rfl, rfl, trivial⟩, hB32, (hS35.sel [1, 0] rfl), hF⟩
      · replace hF := ifN h15 hF
        refine W.exit ?_
        refine fun a ha => hK2 _ _ ?_ a ha
        refine W.seq fun K36 hK36 => ?_
        refine W.region ?_
        refine wl_move rfl rfl ?_
        refine wl_assign rfl rfl ?_
        refine WL.nil ?_
        refine fun a ha => hK36 _ _ ?_ a ha
        refine W.ret ?_
        have hr := Option.some.inj hF
        subst hr
        exact rets (vs := [(.int .i64 y8)]) hQ rfl ⟨rv_tmp rfl, trivial⟩ ⟨rfl, hB5, hS6.sel [0, 1] rfl⟩
theorem C_laws_markShow (w0 : World) (x0 : ((List (List (Int × Int))) × (List Int) × Int × Int)) (v0_0 : Value) (B0_0 : List Nat) (v0_1 : Value) (B0_1 : List Nat) (x1 : Int) (hS0 : Sep 0 w0 [R.own ty_109 B0_0 v0_0 x0.1, R.own ty_3 B0_1 v0_1 x0.2.1]) (r : (Int × ((List (List (Int × Int))) × (List Int) × Int × Int))) (hF : F_laws_markShow x0 x1 = some r) :
    Calls Try.prog 57 [(.agg #[v0_0, v0_1, (.int .i64 x0.2.2.1), (.int .i64 x0.2.2.2)]), (.int .i64 x1)].toArray w0 fun e w' => e = .returned (.int .i64 r.1) ∧ Below 0 (wE w0) w' ∧ Sep 0 w' [R.rest w0 (fps [R.own ty_109 B0_0 v0_0 x0.1, R.own ty_3 B0_1 v0_1 x0.2.1]), R.own ty_109 B0_0 v0_0 r.2.1, R.own ty_3 B0_1 v0_1 r.2.2.1] := by
  refine calls_mk' Try.func57 rfl Try.ntmps57 rfl rfl fun Q hQ hP => ?_
  have hB : Below (wE w0).heap.size (wE w0) w0 := wE_below w0
  have hS : Sep (wE w0).heap.size w0 [R.rest w0 (fps [R.own ty_109 B0_0 v0_0 x0.1, R.own ty_3 B0_1 v0_1 x0.2.1]), R.own ty_109 B0_0 v0_0 x0.1, R.own ty_3 B0_1 v0_1 x0.2.1] := hS0.rest
  unfold F_laws_markShow at hF
  refine W.seq fun K1 hK1 => ?_
  refine W.region ?_
  refine wl_box (cs := [v0_0, v0_1, (.int .i64 x0.2.2.1), (.int .i64 x0.2.2.2)]) rfl rfl rfl hB hS ?_
  intro b2 w3 hb4 hB5 hS6
  refine wl_assign rfl rfl ?_
  refine WL.nil ?_
  refine fun a ha => hK1 _ _ ?_ a ha
  refine W.seq fun K7 hK7 => ?_
  refine W.region ?_
  refine wl_field (o := 0) (off' := 0) ff_30_0 rfl rfl rfl ?_
  refine wl_load_blk (i := 0) (vs := [v0_0]) (v := v0_0) tf_28 rfl rfl hS6 rfl rfl rfl ?_
  refine wl_move rfl rfl ?_
  obtain ⟨u8, hu8, hF⟩ := bindE hF
  refine wl_call rfl Try.call97 (C_laws_markSpotSS w3 x0.1 v0_0 B0_0 x1 (hS6.sel [2] rfl).base0 _ hu8) rfl ?_
  rintro _ w9 ⟨rfl, hE10, hM11⟩
  refine ⟨_, rfl, ?_⟩
  have hB12 := hS6.mutB [2] rfl (M := [R.own ty_109 B0_0 v0_0 x0.1]) rfl (M' := [R.own ty_109 B0_0 v0_0 u8.2]) rfl hB5 hB5.size hE10 hM11
  have hS13 : Sep (wE w0).heap.size w9 [R.own ty_109 B0_0 v0_0 u8.2, R.blk b2 30 [v0_0, v0_1, (.int .i64 x0.2.2.1), (.int .i64 x0.2.2.2)], R.rest w0 (fps [R.own ty_109 B0_0 v0_0 x0.1, R.own ty_3 B0_1 v0_1 x0.2.1]), R.own ty_3 B0_1 v0_1 x0.2.1] := hS6.mut [2] [0, 1, 3] rfl (M := [R.own ty_109 B0_0 v0_0 x0.1]) rfl (M' := [R.own ty_109 B0_0 v0_0 u8.2]) rfl hM11
  refine wl_assign rfl rfl ?_
  refine WL.nil ?_
  refine fun a ha => hK7 _ _ ?_ a ha
  refine W.seq fun K14 hK14 => ?_
  refine W.region ?_
  refine wl_field (o := 1) (off' := 1) ff_30_1 rfl rfl rfl ?_
  refine wl_load_blk (i := 1) (vs := [v0_1]) (v := v0_1) tf_23 rfl rfl hS13 rfl rfl rfl ?_
  refine wl_move rfl rfl ?_
  obtain ⟨u15, hu15, hF⟩ := bindE hF
  refine wl_call rfl Try.call53 (C_laws_markIntS w9 x0.2.1 v0_1 B0_1 u8.1 (hS13.sel [3] rfl).base0 _ hu15) rfl ?_
  rintro _ w16 ⟨rfl, hE17, hM18⟩
  refine ⟨_, rfl, ?_⟩
  have hB19 := hS13.mutB [3] rfl (M := [R.own ty_3 B0_1 v0_1 x0.2.1]) rfl (M' := [R.own ty_3 B0_1 v0_1 u15.2]) rfl hB12 hB12.size hE17 hM18
  have hS20 : Sep (wE w0).heap.size w16 [R.own ty_3 B0_1 v0_1 u15.2, R.own ty_109 B0_0 v0_0 u8.2, R.blk b2 30 [v0_0, v0_1, (.int .i64 x0.2.2.1), (.int .i64 x0.2.2.2)], R.rest w0 (fps [R.own ty_109 B0_0 v0_0 x0.1, R.own ty_3 B0_1 v0_1 x0.2.1])] := hS13.mut [3] [0, 1, 2] rfl (M := [R.own ty_3 B0_1 v0_1 x0.2.1]) rfl (M' := [R.own ty_3 B0_1 v0_1 u15.2]) rfl hM18
  refine wl_assign rfl rfl ?_
  refine WL.nil ?_
  refine fun a ha => hK14 _ _ ?_ a ha
  refine W.seq fun K21 hK21 => ?_
  refine W.region ?_
  refine wl_move rfl rfl ?_
  refine wl_assign rfl rfl ?_
  refine WL.nil ?_
  refine fun a ha => hK21 _ _ ?_ a ha
  refine W.ret ?_
  have hr := Option.some.inj hF
  subst hr
  exact rets (vs := [(.int .i64 u15.1)]) hQ rfl ⟨rv_tmp rfl, trivial⟩ ⟨rfl, hB19, hS20.sel [3, 1, 0] rfl⟩
theorem C_laws_FnExactDifferentCharts (w0 : World) (x0 : ((List (List (Int × Int))) × (List Int) × Int × Int)) (v0_0 : Value) (h0_0 : rdS ty_119 (· < w0.heap.size) w0 v0_0 x0.1) (v0_1 : Value) (h0_1 : rdS ty_3 (· < w0.heap.size) w0 v0_1 x0.2.1) (x1 : ((List (List (Int × Int))) × (List Int) × Int × Int)) (v1_0 : Value) (h1_0 : rdS ty_119 (· < w0.heap.size) w0 v1_0 x1.1) (v1_1 : Value) (h1_1 : rdS ty_3 (· < w0.heap.size) w0 v1_1 x1.2.1) (r : Bool) (hF : F_laws_FnExactDifferentCharts x0 x1 = some r) :
    Calls Try.prog 13 [(.agg #[v0_0, v0_1, (.int .i64 x0.2.2.1), (.int .i64 x0.2.2.2)]), (.agg #[v1_0, v1_1, (.int .i64 x1.2.2.1), (.int .i64 x1.2.2.2)])].toArray w0 fun e w' => e = .returned (.bool r) ∧ Below w0.heap.size w0 w' := by
  refine calls_mk' Try.func13 rfl Try.ntmps13 rfl rfl fun Q hQ hP => ?_
  have hB : Below w0.heap.size w0 w0 := Below.refl _ _
  have hS : Sep w0.heap.size w0 [] := Sep.nil _ _
  unfold F_laws_FnExactDifferentCharts at hF
  refine W.seq fun K1 hK1 => ?_
  refine W.region ?_
  refine wl_box (cs := [v0_0, v0_1, (.int .i64 x0.2.2.1), (.int .i64 x0.2.2.2)]) rfl rfl rfl hB hS ?_
  intro b2 w3 hb4 hB5 hS6
  refine wl_box (cs := [v1_0, v1_1, (.int .i64 x1.2.2.1), (.int .i64 x1.2.2.2)]) rfl rfl rfl hB5 hS6 ?_
  intro b7 w8 hb9 hB10 hS11
  refine wl_assign rfl rfl ?_
  refine WL.nil ?_
  refine fun a ha => hK1 _ _ ?_ a ha
  refine W.seq fun K12 hK12 => ?_
  refine W.region ?_
  refine wl_assign rfl rfl ?_
  refine WL.nil ?_
  refine fun a ha => hK12 _ _ ?_ a ha
  refine W.seq fun K13 hK13 => ?_
  refine W.region ?_
  refine wl_load_blk (i := 1) (vs := [v0_0, v0_1, (.int .i64 x0.2.2.1), (.int .i64 x0.2.2.2)]) (v := (.agg #[v0_0, v0_1, (.int .i64 x0.2.2.1), (.int .i64 x0.2.2.2)])) tf_25 rfl rfl hS11 rfl rfl rfl ?_
  refine wl_move rfl rfl ?_
  obtain ⟨u14, hu14, hF⟩ := bindE hF
  refine wl_call rfl Try.call15 (C_laws_szShow w8 x0 v0_0 (h0_0.ro hB10) v0_1 (h0_1.ro hB10) 1048576 _ hu14) rfl ?_
  rintro _ w15 ⟨rfl, hb16⟩
  refine ⟨_, rfl, ?_⟩
  have hB17 := hB10.trans (hb16.mono hB10.size)
  have hS18 := hS11.below hb16
  refine wl_assign rfl rfl ?_
  refine WL.nil ?_
  refine fun a ha => hK13 _ _ ?_ a ha
  refine W.seq fun K20 hK20 => ?_
  refine W.seq fun K21 hK21 => ?_
  refine W.region ?_
  refine wl_move rfl rfl ?_
  refine wl_lss rfl rfl rfl ?_
  refine WL.nil ?_
  refine fun a ha => hK21 _ _ ?_ a ha
  refine W.cond rfl (fun h22 => ?_) (fun h22 => ?_)
  · replace hF := ifP h22 hF
    refine W.seq fun K23 hK23 => ?_
    refine W.region ?_
    refine wl_assign rfl rfl ?_
    refine WL.nil ?_
    refine fun a ha => hK23 _ _ ?_ a ha
    refine W.ret ?_
    have hr := Option.some.inj hF
    subst hr
    exact rets (vs := [(.bool true)]) hQ rfl ⟨rv_tmp rfl, trivial⟩ ⟨rfl, hB17⟩
  · replace hF := ifN h22 hF
    refine W.skip ?_
    refine fun a ha => hK20 _ _ ?_ a ha
    refine W.seq fun K24 hK24 => ?_
    refine W.region ?_
    refine wl_load_blk (i := 0) (vs := [v1_0, v1_1, (.int .i64 x1.2.2.1), (.int .i64 x1.2.2.2)]) (v := (.agg #[v1_0, v1_1, (.int .i64 x1.2.2.1), (.int .i64 x1.2.2.2)])) tf_25 rfl rfl hS18 rfl rfl rfl ?_
    refine wl_move rfl rfl ?_
    obtain ⟨u25, hu25, hF⟩ := bindE hF
    refine wl_call rfl Try.call15 (C_laws_szShow w15 x1 v1_0 (h1_0.ro hB17) v1_1 (h1_1.ro hB17) u14 _ hu25) rfl ?_
    rintro _ w26 ⟨rfl, hb27⟩
    refine ⟨_, rfl, ?_⟩
    have hB28 := hB17.trans (hb27.mono hB17.size)
    have hS29 := hS18.below hb27
    refine wl_assign rfl rfl ?_
    refine WL.nil ?_
    refine fun a ha => hK24 _ _ ?_ a ha
    refine W.seq fun K31 hK31 => ?_
    refine W.seq fun K32 hK32 => ?_
    refine W.region ?_
    refine wl_move rfl rfl ?_
    refine wl_lss rfl rfl rfl ?_
    refine WL.nil ?_
    refine fun a ha => hK32 _ _ ?_ a ha
    refine W.cond rfl (fun h33 => ?_) (fun h33 => ?_)
    · replace hF := ifP h33 hF
      refine W.seq fun K34 hK34 => ?_
      refine W.region ?_
      refine wl_assign rfl rfl ?_
      refine WL.nil ?_
      refine fun a ha => hK34 _ _ ?_ a ha
      refine W.ret ?_
      have hr := Option.some.inj hF
      subst hr
      exact rets (vs := [(.bool true)]) hQ rfl ⟨rv_tmp rfl, trivial⟩ ⟨rfl, hB28⟩
    · replace hF := ifN h33 hF
      refine W.skip ?_
      refine fun a ha => hK31 _ _ ?_ a ha
      refine W.seq fun K35 hK35 => ?_
      refine W.regionH mixed_ [] hB28 hS29 ?_
      intro w36 hb37 hB38 hS39
      have hSW40 := KeepX.refl w36 []
      refine WH.takex (i := 0) rfl (by kernel_rfl) (by kernel_rfl) (by kernel_rfl) hP hSW40 ?_
      refine pr_load_blk (i := 1) (vs := [v0_0, v0_1, (.int .i64 x0.2.2.1), (.int .i64 x0.2.2.2)]) (v := (.agg #[v0_0, v0_1, (.int .i64 x0.2.2.1), (.int .i64 x0.2.2.2)])) tf_25 rfl rfl hS39 rfl rfl rfl (by simp) ?_
      refine WH.takex (i := 2) rfl (by kernel_rfl) (by kernel_rfl) (by kernel_rfl) hP hSW40 ?_
      refine pr_load_blk (i := 0) (vs := [v1_0, v1_1, (.int .i64 x1.2.2.1), (.int .i64 x1.2.2.2)]) (v := (.agg #[v1_0, v1_1, (.int .i64 x1.2.2.1), (.int .i64 x1.2.2.2)])) tf_25 rfl rfl hS39 rfl rfl rfl (by simp) ?_
      refine WH.one (i := 1) (by kernel_rfl) rfl ?_
      obtain ⟨u41, hu41, hF⟩ := bindE hF
      refine wl_call rfl Try.call17 (C_laws_toShow w36 x0 v0_0 (h0_0.ro hB38) v0_1 (h0_1.ro hB38) _ hu41) rfl ?_
      rintro _ w46 ⟨v42, F43, v44, F45, rfl, hb47, hM50⟩
      refine ⟨_, rfl, ?_⟩
      have hB48 := hB38.trans (hb47.mono hB38.size)
      have hS49 := hS39.join hb47 hM50 hB38.size
      have hSW51 := hSW40.ext hb47
      refine WL.nil (WH.ret hSW51 ?_)
      refine WH.one (i := 3) (by kernel_rfl) rfl ?_
      obtain ⟨u52, hu52, hF⟩ := bindE hF
      refine wl_call rfl Try.call17 (C_laws_toShow w46 x1 v1_0 (h1_0.ro hB48) v1_1 (h1_1.ro hB48) _ hu52) rfl ?_
      rintro _ w57 ⟨v53, F54, v55, F56, rfl, hb58, hM61⟩
      refine ⟨_, rfl, ?_⟩
      have hB59 := hB48.trans (hb58.mono hB48.size)
      have hS60 := hS49.join hb58 hM61 hB48.size
      have hSW62 := hSW51.ext hb58
      refine WL.nil (WH.ret hSW62 ?_)
      refine WH.one (i := 4) (by kernel_rfl) rfl ?_
      obtain ⟨u63, hu63, hF⟩ := bindE hF
      refine wl_call rfl Try.call55 (C_spec_DifferentCharts w57 u41 v42 (hS60.own_ro (i := 2) rfl) v44 (hS60.own_ro (i := 3) rfl) u52 v53 (hS60.own_ro (i := 0) rfl) v55 (hS60.own_ro (i := 1) rfl) _ hu63) rfl ?_
      rintro _ w66 ⟨v64, F65, rfl, hb67, hM70⟩
      refine ⟨_, rfl, ?_⟩
      have hB68 := hB59.trans (hb67.mono hB59.size)
      have hS69 := hS60.join hb67 hM70 hB59.size
      have hSW71 := hSW62.ext hb67
      refine WL.nil (WH.ret hSW71 ?_)
      refine WH.takex (i := 5) rfl (by kernel_rfl) (by kernel_rfl) (by kernel_rfl) hP hSW71 ?_
      refine pr_move rfl rfl ?_
      refine WH.takex (i := 6) rfl (by kernel_rfl) (by kernel_rfl) (by kernel_rfl) hP hSW71 ?_
      refine pr_extract rfl rfl rfl ?_
      refine WH.takex (i := 7) rfl (by kernel_rfl) (by kernel_rfl) (by kernel_rfl) hP hSW71 ?_
      refine pr_extract rfl rfl rfl ?_
      refine WH.takex (i := 8) rfl (by kernel_rfl) (by kernel_rfl) (by kernel_rfl) hP hSW71 ?_
      refine pr_assign rfl rfl ?_
      refine WH.takex (i := 9) rfl (by kernel_rfl) (by kernel_rfl) (by kernel_rfl) hP hSW71 ?_
      refine pr_assign rfl rfl ?_
      refine WH.done (by kernel_rfl) ?_
      refine fun a ha => hK35 _ _ ?_ a ha
      refine W.seq fun K72 hK72 => ?_
      refine W.region ?_
      refine wl_load_blk (i := 6) (vs := [v0_0, v0_1, (.int .i64 x0.2.2.1), (.int .i64 x0.2.2.2)]) (v := (.agg #[v0_0, v0_1, (.int .i64 x0.2.2.1), (.int .i64 x0.2.2.2)])) tf_25 rfl rfl hS69 rfl rfl rfl ?_
      obtain ⟨u73, hu73, hF⟩ := bindE hF
      refine wl_call rfl Try.call17 (C_laws_toShow w66 x0 v0_0 (h0_0.ro hB68) v0_1 (h0_1.ro hB68) _ hu73) rfl ?_
      rintro _ w78 ⟨v74, F75, v76, F77, rfl, hb79, hM82⟩
      refine ⟨_, rfl, ?_⟩
      have hB80 := hB68.trans (hb79.mono hB68.size)
      have hS81 := hS69.join hb79 hM82 hB68.size
      refine wl_alloc (cs := [(.slice none 0 0), (.slice none 0 0), (.int .i64 0), (.int .i64 0)]) tf_30 rfl rfl hB80 hS81 ?_
      intro b83 w84 hb85 hB86 hS87
      refine wl_store_blk (i := 0) (vs := [v74, v76, (.int .i64 u73.2.2.1), (.int .i64 u73.2.2.2)]) (cs' := [v74, v76, (.int .i64 u73.2.2.1), (.int .i64 u73.2.2.2)]) tf_30 rfl rfl rfl rfl hB86 hS87 rfl rfl ⟨(hS87.own_ro (i := 1) rfl).one, (hS87.own_ro (i := 2) rfl).one, rfl, rfl, trivial⟩ rfl ?_
      intro w88 hk91 hB89 hS90
      refine WL.nil ?_
      refine fun a ha => hK72 _ _ ?_ a ha
      refine W.seq fun K92 hK92 => ?_
      refine W.region ?_
      refine wl_load_blk (i := 8) (vs := [v1_0, v1_1, (.int .i64 x1.2.2.1), (.int .i64 x1.2.2.2)]) (v := (.agg #[v1_0, v1_1, (.int .i64 x1.2.2.1), (.int .i64 x1.2.2.2)])) tf_25 rfl rfl hS90 rfl rfl rfl ?_
      obtain ⟨u93, hu93, hF⟩ := bindE hF
      refine wl_call rfl Try.call17 (C_laws_toShow w88 x1 v1_0 (h1_0.ro hB89) v1_1 (h1_1.ro hB89) _ hu93) rfl ?_
      rintro _ w98 ⟨v94, F95, v96, F97, rfl, hb99, hM102⟩
      refine ⟨_, rfl, ?_⟩
      have hB100 := hB89.trans (hb99.mono hB89.size)
      have hS101 := hS90.join hb99 hM102 hB89.size
      refine wl_alloc (cs := [(.slice none 0 0), (.slice none 0 0), (.int .i64 0), (.int .i64 0)]) tf_30 rfl rfl hB100 hS101 ?_
      intro b103 w104 hb105 hB106 hS107
      refine wl_store_blk (i := 0) (vs := [v94, v96, (.int .i64 u93.2.2.1), (.int .i64 u93.2.2.2)]) (cs' := [v94, v96, (.int .i64 u93.2.2.1), (.int .i64 u93.2.2.2)]) tf_30 rfl rfl rfl rfl hB106 hS107 rfl rfl ⟨(hS107.own_ro (i := 1) rfl).one, (hS107.own_ro (i := 2) rfl).one, rfl, rfl, trivial⟩ rfl ?_
      intro w108 hk111 hB109 hS110
      refine WL.nil ?_
      refine fun a ha => hK92 _ _ ?_ a ha
      refine W.seq fun K112 hK112 => ?_
      refine W.region ?_
      refine wl_load_blk (i := 3) (vs := [v74, v76, (.int .i64 u73.2.2.1), (.int .i64 u73.2.2.2)]) (v := (.agg #[v74, v76, (.int .i64 u73.2.2.1), (.int .i64 u73.2.2.2)])) tf_30 rfl rfl hS110 rfl rfl rfl ?_
      refine wl_load_blk (i := 0) (vs := [v94, v96, (.int .i64 u93.2.2.1), (.int .i64 u93.2.2.2)]) (v := (.agg #[v94, v96, (.int .i64 u93.2.2.1), (.int .i64 u93.2.2.2)])) tf_30 rfl rfl hS110 rfl rfl rfl ?_
      obtain ⟨u113, hu113, hF⟩ := bindE hF
      refine wl_call rfl Try.call56 (C_impl_DifferentCharts w108 u73 v74 (hS110.own_ro (i := 4) rfl) v76 (hS110.own_ro (i := 5) rfl) u93 v94 (hS110.own_ro (i := 1) rfl) v96 (hS110.own_ro (i := 2) rfl) _ hu113) rfl ?_
      rintro _ w116 ⟨v114, F115, rfl, hb117, hM120⟩
      refine ⟨_, rfl, ?_⟩
      have hB118 := hB109.trans (hb117.mono hB109.size)
      have hS119 := hS110.join hb117 hM120 hB109.size
      refine wl_move rfl rfl ?_
      refine wl_extract rfl rfl rfl ?_
      refine wl_extract rfl rfl rfl ?_
      refine wl_assign rfl rfl ?_
      refine wl_assign rfl rfl ?_
      refine WL.nil ?_
      refine fun a ha => hK112 _ _ ?_ a ha
      refine W.seq fun K121 hK121 => ?_
      refine W.seq fun K122 hK122 => ?_
      obtain ⟨k127, hk127, hF⟩ := jE1 hF
      have hJ128 : ∀ (y126 : Bool) (w123 : World) (_ : k127 y126 = some r) (_ : Below w0.heap.size w0 w123) (_ : Sep w0.heap.size w123 [R.blk b2 25 [v0_0, v0_1, (.int .i64 x0.2.2.1), (.int .i64 x0.2.2.2)], R.blk b7 25 [v1_0, v1_1, (.int .i64 x1.2.2.1), (.int .i64 x1.2.2.2)], R.own ty_3 F65 v64 u63.1, R.own ty_109 F75 v74 u73.1, R.own ty_3 F77 v76 u73.2.1, R.blk b83 30 [v74, v76, (.int .i64 u73.2.2.1), (.int .i64 u73.2.2.2)], R.own ty_109 F95 v94 u93.1, R.own ty_3 F97 v96 u93.2.1, R.blk b103 30 [v94, v96, (.int .i64 u93.2.2.1), (.int .i64 u93.2.2.2)], R.own ty_3 F115 v114 u113.1]), ∀ a, St 119 [(2, (.pointer (some ⟨b2, 0, none⟩))), (3, (.pointer (some ⟨b7, 0, none⟩))), (6, v64), (7, (.bool u63.2)), (8, (.pointer (some ⟨b83, 0, none⟩))), (9, (.pointer (some ⟨b103, 0, none⟩))), (10, v114), (11, (.bool u113.2)), (53, (.bool y126))] a → K122 a w123 := by
        intro y126 w123 hF hB124 hS125
        subst hk127
        refine fun a ha => hK122 _ _ ?_ a ha
        refine W.cond rfl (fun h129 => ?_) (fun h129 => ?_)
        · replace hF := ifP h129 hF
          refine W.seq fun K130 hK130 => ?_
          refine W.region ?_
          refine wl_assign rfl rfl ?_
          refine WL.nil ?_
          refine fun a ha => hK130 _ _ ?_ a ha
          refine W.ret ?_
          have hr := Option.some.inj hF
          subst hr
          exact rets (vs := [(.bool false)]) hQ rfl ⟨rv_tmp rfl, trivial⟩ ⟨rfl, hB124⟩
        · replace hF := ifN h129 hF
          refine W.skip ?_
          refine fun a ha => hK121 _ _ ?_ a ha
          refine W.seq fun K131 hK131 => ?_
          refine W.seq fun K132 hK132 => ?_
          refine W.regionH mixed_ [] hB124 hS125 ?_
          intro w133 hb134 hB135 hS136
          have hSW137 := KeepX.refl w133 []
          refine WH.takex (i := 0) rfl (by kernel_rfl) (by kernel_rfl) (by kernel_rfl) hP hSW137 ?_
          refine pr_load_blk (i := 5) (vs := [v74, v76, (.int .i64 u73.2.2.1), (.int .i64 u73.2.2.2)]) (v := (.agg #[v74, v76, (.int .i64 u73.2.2.1), (.int .i64 u73.2.2.2)])) tf_30 rfl rfl hS136 rfl rfl rfl (by simp) ?_
          refine WH.takex (i := 1) rfl (by kernel_rfl) (by kernel_rfl) (by kernel_rfl) hP hSW137 ?_
          refine pr_load_blk (i := 0) (vs := [v0_0, v0_1, (.int .i64 x0.2.2.1), (.int .i64 x0.2.2.2)]) (v := (.agg #[v0_0, v0_1, (.int .i64 x0.2.2.1), (.int .i64 x0.2.2.2)])) tf_25 rfl rfl hS136 rfl rfl rfl (by simp) ?_
          refine WH.one (i := 2) (by kernel_rfl) rfl ?_
          obtain ⟨u138, hu138, hF⟩ := bindE hF
          refine wl_call rfl Try.call17 (C_laws_toShow w133 x0 v0_0 (h0_0.ro hB135) v0_1 (h0_1.ro hB135) _ hu138) rfl ?_
          rintro _ w143 ⟨v139, F140, v141, F142, rfl, hb144, hM147⟩
          refine ⟨_, rfl, ?_⟩
          have hB145 := hB135.trans (hb144.mono hB135.size)
          have hS146 := hS136.join hb144 hM147 hB135.size
          have hSW148 := hSW137.ext hb144
          refine WL.nil (WH.ret hSW148 ?_)
          refine WH.one (i := 3) (by kernel_rfl) rfl ?_
          obtain ⟨u149, hu149, hF⟩ := bindE hF
          refine wl_call rfl Try.call19 (C_laws_eqShow w143 u73 v74 (hS146.own_ro (i := 5) rfl) v76 (hS146.own_ro (i := 6) rfl) u138 v139 (hS146.own_ro (i := 0) rfl) v141 (hS146.own_ro (i := 1) rfl) _ hu149) rfl ?_
          rintro _ w150 ⟨rfl, hb151⟩
          refine ⟨_, rfl, ?_⟩
          have hB152 := hB145.trans (hb151.mono hB145.size)
          have hS153 := hS146.below hb151
          have hSW155 := hSW148.ext hb151
          refine WL.nil (WH.ret hSW155 ?_)
          refine WH.takex (i := 4) rfl (by kernel_rfl) (by kernel_rfl) (by kernel_rfl) hP hSW155 ?_
          refine pr_not rfl rfl ?_
          refine WH.done (by kernel_rfl) ?_
          refine fun a ha => hK132 _ _ ?_ a ha
          refine W.cond rfl (fun h156 => ?_) (fun h156 => ?_)
          · replace hF := ifP h156 hF
            refine W.seq fun K157 hK157 => ?_
            refine W.region ?_
            refine wl_assign rfl rfl ?_
            refine WL.nil ?_
            refine fun a ha => hK157 _ _ ?_ a ha
            refine W.ret ?_
            have hr := Option.some.inj hF
            subst hr
            exact rets (vs := [(.bool false)]) hQ rfl ⟨rv_tmp rfl, trivial⟩ ⟨rfl, hB152⟩
          · replace hF := ifN h156 hF
            refine W.skip ?_
            refine fun a ha => hK131 _ _ ?_ a ha
            refine W.seq fun K158 hK158 => ?_
            refine W.seq fun K159 hK159 => ?_
            refine W.regionH mixed_ [] hB152 hS153 ?_
            intro w160 hb161 hB162 hS163
            have hSW164 := KeepX.refl w160 []
            refine WH.takex (i := 0) rfl (by kernel_rfl) (by kernel_rfl) (by kernel_rfl) hP hSW164 ?_
            refine pr_load_blk (i := 10) (vs := [v94, v96, (.int .i64 u93.2.2.1), (.int .i64 u93.2.2.2)]) (v := (.agg #[v94, v96, (.int .i64 u93.2.2.1), (.int .i64 u93.2.2.2)])) tf_30 rfl rfl hS163 rfl rfl rfl (by simp) ?_
            refine WH.takex (i := 1) rfl (by kernel_rfl) (by kernel_rfl) (by kernel_rfl) hP hSW164 ?_
            refine pr_load_blk (i := 3) (vs := [v1_0, v1_1, (.int .i64 x1.2.2.1), (.int .i64 x1.2.2.2)]) (v := (.agg #[v1_0, v1_1, (.int .i64 x1.2.2.1), (.int .i64 x1.2.2.2)])) tf_25 rfl rfl hS163 rfl rfl rfl (by simp) ?_
            refine WH.one (i := 2) (by kernel_rfl) rfl ?_
            obtain ⟨u165, hu165, hF⟩ := bindE hF
            refine wl_call rfl Try.call17 (C_laws_toShow w160 x1 v1_0 (h1_0.ro hB162) v1_1 (h1_1.ro hB162) _ hu165) rfl ?_
            rintro _ w170 ⟨v166, F167, v168, F169, rfl, hb171, hM174⟩
            refine ⟨_, rfl, ?_⟩
            have hB172 := hB162.trans (hb171.mono hB162.size)
            have hS173 := hS163.join hb171 hM174 hB162.size
            have hSW175 := hSW164.ext hb171
            refine WL.nil (WH.ret hSW175 ?_)
            refine WH.one (i := 3) (by kernel_rfl) rfl ?_
            obtain ⟨u176, hu176, hF⟩ := bindE hF
            refine wl_call rfl Try.call19 (C_laws_eqShow w170 u93 v94 (hS173.own_ro (i := 10) rfl) v96 (hS173.own_ro (i := 11) rfl) u165 v166 (hS173.own_ro (i := 0) rfl) v168 (hS173.own_ro (i := 1) rfl) _ hu176) rfl ?_
            rintro _ w177 ⟨rfl, hb178⟩
            refine ⟨_, rfl, ?_⟩
            have hB179 := hB172.trans (hb178.mono hB172.size)
            have hS180 := hS173.below hb178
            have hSW182 := hSW175.ext hb178
            refine WL.nil (WH.ret hSW182 ?_)
            refine WH.takex (i := 4) rfl (by kernel_rfl) (by kernel_rfl) (by kernel_rfl) hP hSW182 ?_
            refine pr_not rfl rfl ?_
            refine WH.done (by kernel_rfl) ?_
            refine fun a ha => hK159 _ _ ?_ a ha
            refine W.cond rfl (fun h183 => ?_) (fun h183 => ?_)
            · replace hF := ifP h183 hF
              refine W.seq fun K184 hK184 => ?_
              refine W.region ?_
              refine wl_assign rfl rfl ?_
              refine WL.nil ?_
              refine fun a ha => hK184 _ _ ?_ a ha
              refine W.ret ?_
              have hr := Option.some.inj hF
              subst hr
              exact rets (vs := [(.bool false)]) hQ rfl ⟨rv_tmp rfl, trivial⟩ ⟨rfl, hB179⟩
            · replace hF := ifN h183 hF
              refine W.skip ?_
              refine fun a ha => hK158 _ _ ?_ a ha
              refine W.seq fun K185 hK185 => ?_
              refine W.region ?_
              refine wl_assign rfl rfl ?_
              refine WL.nil ?_
              refine fun a ha => hK185 _ _ ?_ a ha
              refine W.seq fun K186 hK186 => ?_
              refine W.region ?_
              refine wl_load_blk (i := 9) (vs := [v74, v76, (.int .i64 u73.2.2.1), (.int .i64 u73.2.2.2)]) (v := (.agg #[v74, v76, (.int .i64 u73.2.2.1), (.int .i64 u73.2.2.2)])) tf_30 rfl rfl hS180 rfl rfl rfl ?_
              refine wl_move rfl rfl ?_
              obtain ⟨u187, hu187, hF⟩ := bindE hF
              refine wl_call rfl Try.call57 (C_laws_markShow w177 u73 v74 F75 v76 F77 1 (hS180.sel [7, 8] rfl).base0 _ hu187) rfl ?_
              rintro _ w188 ⟨rfl, hE189, hM190⟩
              refine ⟨_, rfl, ?_⟩
              have hB191 := hS180.mutB [7, 8] rfl (M := [R.own ty_109 F75 v74 u73.1, R.own ty_3 F77 v76 u73.2.1]) rfl (M' := [R.own ty_109 F75 v74 u187.2.1, R.own ty_3 F77 v76 u187.2.2.1]) rfl hB179 hB179.size hE189 hM190
              have hS192 : Sep w0.heap.size w188 [R.own ty_109 F75 v74 u187.2.1, R.own ty_3 F77 v76 u187.2.2.1, R.own ty_109 F167 v166 u165.1, R.own ty_3 F169 v168 u165.2.1, R.own ty_109 F140 v139 u138.1, R.own ty_3 F142 v141 u138.2.1, R.blk b2 25 [v0_0, v0_1, (.int .i64 x0.2.2.1), (.int .i64 x0.2.2.2)], R.blk b7 25 [v1_0, v1_1, (.int .i64 x1.2.2.1), (.int .i64 x1.2.2.2)], R.own ty_3 F65 v64 u63.1, R.blk b83 30 [v74, v76, (.int .i64 u73.2.2.1), (.int .i64 u73.2.2.2)], R.own ty_109 F95 v94 u93.1, R.own ty_3 F97 v96 u93.2.1, R.blk b103 30 [v94, v96, (.int .i64 u93.2.2.1), (.int .i64 u93.2.2.2)], R.own ty_3 F115 v114 u113.1] := hS180.mut [7, 8] [0, 1, 2, 3, 4, 5, 6, 9, 10, 11, 12, 13] rfl (M := [R.own ty_109 F75 v74 u73.1, R.own ty_3 F77 v76 u73.2.1]) rfl (M' := [R.own ty_109 F75 v74 u187.2.1, R.own ty_3 F77 v76 u187.2.2.1]) rfl hM190
              refine wl_assign rfl rfl ?_
              refine WL.nil ?_
              refine fun a ha => hK186 _ _ ?_ a ha
              refine W.seq fun K193 hK193 => ?_
              refine W.region ?_
              refine wl_load_blk (i := 12) (vs := [v94, v96, (.int .i64 u93.2.2.1), (.int .i64 u93.2.2.2)]) (v := (.agg #[v94, v96, (.int .i64 u93.2.2.1), (.int .i64 u93.2.2.2)])) tf_30 rfl rfl hS192 rfl rfl rfl ?_
              refine wl_move rfl rfl ?_
              obtain ⟨u194, hu194, hF⟩ := bindE hF
              refine wl_call rfl Try.call57 (C_laws_markShow w188 u93 v94 F95 v96 F97 u187.1 (hS192.sel [10, 11] rfl).base0 _ hu194) rfl ?_
              rintro _ w195 ⟨rfl, hE196, hM197⟩
              refine ⟨_, rfl, ?_⟩
              have hB198 := hS192.mutB [10, 11] rfl (M := [R.own ty_109 F95 v94 u93.1, R.own ty_3 F97 v96 u93.2.1]) rfl (M' := [R.own ty_109 F95 v94 u194.2.1, R.own ty_3 F97 v96 u194.2.2.1]) rfl hB191 hB191.size hE196 hM197
              have hS199 : Sep w0.heap.size w195 [R.own ty_109 F95 v94 u194.2.1, R.own ty_3 F97 v96 u194.2.2.1, R.own ty_109 F75 v74 u187.2.1, R.own ty_3 F77 v76 u187.2.2.1, R.own ty_109 F167 v166 u165.1, R.own ty_3 F169 v168 u165.2.1, R.own ty_109 F140 v139 u138.1, R.own ty_3 F142 v141 u138.2.1, R.blk b2 25 [v0_0, v0_1, (.int .i64 x0.2.2.1), (.int .i64 x0.2.2.2)], R.blk b7 25 [v1_0, v1_1, (.int .i64 x1.2.2.1), (.int .i64 x1.2.2.2)], R.own ty_3 F65 v64 u63.1, R.blk b83 30 [v74, v76, (.int .i64 u73.2.2.1), (.int .i64 u73.2.2.2)], R.blk b103 30 [v94, v96, (.int .i64 u93.2.2.1), (.int .i64 u93.2.2.2)], R.own ty_3 F115 v114 u113.1] := hS192.mut [10, 11] [0, 1, 2, 3, 4, 5, 6, 7, 8, 9, 12, 13] rfl (M := [R.own ty_109 F95 v94 u93.1, R.own ty_3 F97 v96 u93.2.1]) rfl (M' := [R.own ty_109 F95 v94 u194.2.1, R.own ty_3 F97 v96 u194.2.2.1]) rfl hM197
              refine wl_assign rfl rfl ?_
              refine WL.nil ?_
              refine fun a ha => hK193 _ _ ?_ a ha
              refine W.seq fun K200 hK200 => ?_
              refine W.seq fun K201 hK201 => ?_
              obtain ⟨k206, hk206, hF⟩ := jE1 hF
              have hJ207 : ∀ (y205 : Bool) (w202 : World) (_ : k206 y205 = some r) (_ : Below w0.heap.size w0 w202) (_ : Sep w0.heap.size w202 [R.blk b2 25 [v0_0, v0_1, (.int .i64 x0.2.2.1), (.int .i64 x0.2.2.2)], R.blk b7 25 [v1_0, v1_1, (.int .i64 x1.2.2.1), (.int .i64 x1.2.2.2)], R.own ty_3 F65 v64 u63.1, R.own ty_3 F115 v114 u113.1]), ∀ a, St 119 [(2, (.pointer (some ⟨b2, 0, none⟩))), (3, (.pointer (some ⟨b7, 0, none⟩))), (6, v64), (7, (.bool u63.2)), (10, v114), (82, (.bool y205))] a → K201 a w202 := by
                intro y205 w202 hF hB203 hS204
                subst hk206
                refine fun a ha => hK201 _ _ ?_ a ha
                refine W.cond rfl (fun h208 => ?_) (fun h208 => ?_)
                · replace hF := ifP h208 hF
                  refine W.seq fun K209 hK209 => ?_
                  refine W.region ?_
                  refine wl_assign rfl rfl ?_
                  refine WL.nil ?_
                  refine fun a ha => hK209 _ _ ?_ a ha
                  refine W.ret ?_
                  have hr := Option.some.inj hF
                  subst hr
                  exact rets (vs := [(.bool false)]) hQ rfl ⟨rv_tmp rfl, trivial⟩ ⟨rfl, hB203⟩
                · replace hF := ifN h208 hF
                  refine W.skip ?_
                  refine fun a ha => hK200 _ _ ?_ a ha
                  refine W.seq fun K210 hK210 => ?_
                  refine W.region ?_
                  refine wl_assign rfl rfl ?_
                  refine WL.nil ?_
                  refine fun a ha => hK210 _ _ ?_ a ha
                  refine W.seq fun K211 hK211 => ?_
                  refine W.region ?_
                  refine wl_move rfl rfl ?_
                  refine wl_move rfl rfl ?_
                  obtain ⟨u212, hu212, hF⟩ := bindE hF
                  refine wl_call rfl Try.call53 (C_laws_markIntS w202 u113.1 v114 F115 1 (hS204.sel [3] rfl).base0 _ hu212) rfl ?_
                  rintro _ w213 ⟨rfl, hE214, hM215⟩
                  refine ⟨_, rfl, ?_⟩
                  have hB216 := hS204.mutB [3] rfl (M := [R.own ty_3 F115 v114 u113.1]) rfl (M' := [R.own ty_3 F115 v114 u212.2]) rfl hB203 hB203.size hE214 hM215
                  have hS217 : Sep w0.heap.size w213 [R.own ty_3 F115 v114 u212.2, R.blk b2 25 [v0_0, v0_1, (.int .i64 x0.2.2.1), (.int .i64 x0.2.2.2)], R.blk b7 25 [v1_0, v1_1, (.int .i64 x1.2.2.1), (.int .i64 x1.2.2.2)], R.own ty_3 F65 v64 u63.1] := hS204.mut [3] [0, 1, 2] rfl (M := [R.own ty_3 F115 v114 u113.1]) rfl (M' := [R.own ty_3 F115 v114 u212.2]) rfl hM215
                  refine wl_assign rfl rfl ?_
                  refine WL.nil ?_
                  refine fun a ha => hK211 _ _ ?_ a ha
                  refine W.seq fun K218 hK218 => ?_
                  refine W.region ?_
                  refine wl_assign rfl rfl ?_
                  refine WL.nil ?_
                  refine fun a ha => hK218 _ _ ?_ a ha
                  refine W.seq fun K219 hK219 => ?_
                  refine W.region ?_
                  refine wl_move rfl rfl ?_
                  refine wl_move rfl rfl ?_
                  obtain ⟨u220, hu220, hF⟩ := bindE hF
                  refine wl_call rfl Try.call54 (C_laws_heldIntS w213 u212.2 v114 (hS217.own_ro (i := 0) rfl) 1 _ hu220) rfl ?_
                  rintro _ w221 ⟨rfl, hb222⟩
                  refine ⟨_, rfl, ?_⟩
                  have hB223 := hB216.trans (hb222.mono hB216.size)
                  have hS224 := hS217.below hb222
                  refine wl_assign rfl rfl ?_
                  refine WL.nil ?_
                  refine fun a ha => hK219 _ _ ?_ a ha
                  refine W.seq fun K226 hK226 => ?_
                  refine W.seq fun K227 hK227 => ?_
                  refine W.region ?_
                  refine wl_move rfl rfl ?_
                  refine wl_lss rfl rfl rfl ?_
                  refine WL.nil ?_
                  refine fun a ha => hK227 _ _ ?_ a ha
                  refine W.cond rfl (fun h228 => ?_) (fun h228 => ?_)
                  · replace hF := ifP h228 hF
                    refine W.seq fun K229 hK229 => ?_
                    refine W.region ?_
                    refine wl_assign rfl rfl ?_
                    refine WL.nil ?_
                    refine fun a ha => hK229 _ _ ?_ a ha
                    refine W.ret ?_
                    have hr := Option.some.inj hF
                    subst hr
                    exact rets (vs := [(.bool false)]) hQ rfl ⟨rv_tmp rfl, trivial⟩ ⟨rfl, hB223⟩
                  · replace hF := ifN h228 hF
                    refine W.skip ?_
                    refine fun a ha => hK226 _ _ ?_ a ha
                    refine W.seq fun K230 hK230 => ?_
                    refine W.seq fun K231 hK231 => ?_
                    refine W.region ?_
                    refine wl_move rfl rfl ?_
                    refine wl_move rfl rfl ?_
                    refine wl_neq rfl rfl rfl ?_
                    refine WL.nil ?_
                    refine fun a ha => hK231 _ _ ?_ a ha
                    refine W.cond rfl (fun h232 => ?_) (fun h232 => ?_)
                    · replace hF := ifP h232 hF
                      refine W.seq fun K233 hK233 => ?_
                      refine W.region ?_
                      refine wl_assign rfl rfl ?_
                      refine WL.nil ?_
                      refine fun a ha => hK233 _ _ ?_ a ha
                      refine W.ret ?_
                      have hr := Option.some.inj hF
                      subst hr
                      exact rets (vs := [(.bool false)]) hQ rfl ⟨rv_tmp rfl, trivial⟩ ⟨rfl, hB223⟩
                    · replace hF := ifN h232 hF
                      refine W.skip ?_
                      refine fun a ha => hK230 _ _ ?_ a ha
                      refine W.seq fun K234 hK234 => ?_
                      refine W.regionH mixed_ [] hB223 hS224 ?_
                      intro w235 hb236 hB237 hS238
                      have hSW239 := KeepX.refl w235 []
                      refine WH.takex (i := 0) rfl (by kernel_rfl) (by kernel_rfl) (by kernel_rfl) hP hSW239 ?_
                      refine pr_load_blk (i := 1) (vs := [v0_0, v0_1, (.int .i64 x0.2.2.1), (.int .i64 x0.2.2.2)]) (v := (.agg #[v0_0, v0_1, (.int .i64 x0.2.2.1), (.int .i64 x0.2.2.2)])) tf_25 rfl rfl hS238 rfl rfl rfl (by simp) ?_
                      refine WH.takex (i := 2) rfl (by kernel_rfl) (by kernel_rfl) (by kernel_rfl) hP hSW239 ?_
                      refine pr_load_blk (i := 2) (vs := [v1_0, v1_1, (.int .i64 x1.2.2.1), (.int .i64 x1.2.2.2)]) (v := (.agg #[v1_0, v1_1, (.int .i64 x1.2.2.1), (.int .i64 x1.2.2.2)])) tf_25 rfl rfl hS238 rfl rfl rfl (by simp) ?_
                      refine WH.one (i := 1) (by kernel_rfl) rfl ?_
                      obtain ⟨u240, hu240, hF⟩ := bindE hF
                      refine wl_call rfl Try.call17 (C_laws_toShow w235 x0 v0_0 (h0_0.ro hB237) v0_1 (h0_1.ro hB237) _ hu240) rfl ?_
                      rintro _ w245 ⟨v241, F242, v243, F244, rfl, hb246, hM249⟩
                      refine ⟨_, rfl, ?_⟩
                      have hB247 := hB237.trans (hb246.mono hB237.size)
                      have hS248 := hS238.join hb246 hM249 hB237.size
                      have hSW250 := hSW239.ext hb246
                      refine WL.nil (WH.ret hSW250 ?_)
                      refine WH.one (i := 3) (by kernel_rfl) rfl ?_
                      obtain ⟨u251, hu251, hF⟩ := bindE hF
                      refine wl_call rfl Try.call17 (C_laws_toShow w245 x1 v1_0 (h1_0.ro hB247) v1_1 (h1_1.ro hB247) _ hu251) rfl ?_
                      rintro _ w256 ⟨v252, F253, v254, F255, rfl, hb257, hM260⟩
                      refine ⟨_, rfl, ?_⟩
                      have hB258 := hB247.trans (hb257.mono hB247.size)
                      have hS259 := hS248.join hb257 hM260 hB247.size
                      have hSW261 := hSW250.ext hb257
                      refine WL.nil (WH.ret hSW261 ?_)
                      refine WH.one (i := 4) (by kernel_rfl) rfl ?_
                      obtain ⟨u262, hu262, hF⟩ := bindE hF
                      refine wl_call rfl Try.call56 (C_impl_DifferentCharts w256 u240 v241 (hS259.own_ro (i := 2) rfl) v243 (hS259.own_ro (i := 3) rfl) u251 v252 (hS259.own_ro (i := 0) rfl) v254 (hS259.own_ro (i := 1) rfl) _ hu262) rfl ?_
                      rintro _ w265 ⟨v263, F264, rfl, hb266, hM269⟩
                      refine ⟨_, rfl, ?_⟩
                      have hB267 := hB258.trans (hb266.mono hB258.size)
                      have hS268 := hS259.join hb266 hM269 hB258.size
                      have hSW270 := hSW261.ext hb266
                      refine WL.nil (WH.ret hSW270 ?_)
                      refine WH.takex (i := 5) rfl (by kernel_rfl) (by kernel_rfl) (by kernel_rfl) hP hSW270 ?_
                      refine pr_move rfl rfl ?_
                      refine WH.takex (i := 6) rfl (by kernel_rfl) (by kernel_rfl) (by kernel_rfl) hP hSW270 ?_
                      refine pr_extract rfl rfl rfl ?_
                      refine WH.takex (i := 7) rfl (by kernel_rfl) (by kernel_rfl) (by kernel_rfl) hP hSW270 ?_
                      refine pr_extract rfl rfl rfl ?_
                      refine WH.takex (i := 8) rfl (by kernel_rfl) (by kernel_rfl) (by kernel_rfl) hP hSW270 ?_
                      refine pr_assign rfl rfl ?_
                      refine WH.takex (i := 9) rfl (by kernel_rfl) (by kernel_rfl) (by kernel_rfl) hP hSW270 ?_
                      refine pr_assign rfl rfl ?_
                      refine WH.done (by kernel_rfl) ?_
                      refine fun a ha => hK234 _ _ ?_ a ha
                      refine W.seq fun K271 hK271 => ?_
                      refine W.seq fun K272 hK272 => ?_
                      obtain ⟨k277, hk277, hF⟩ := jE1 hF
                      have hJ278 : ∀ (y276 : Bool) (w273 : World) (_ : k277 y276 = some r) (_ : Below w0.heap.size w0 w273) (_ : Sep w0.heap.size w273 [R.own ty_3 F115 v114 u212.2]), ∀ a, St 119 [(10, v114), (13, (.int .i64 u212.1)), (110, (.bool y276))] a → K272 a w273 := by
                        intro y276 w273 hF hB274 hS275
                        subst hk277
                        refine fun a ha => hK272 _ _ ?_ a ha
                        refine W.cond rfl (fun h279 => ?_) (fun h279 => ?_)
                        · replace hF := ifP h279 hF
                          refine W.seq fun K280 hK280 => ?_
                          refine W.region ?_
                          refine wl_assign rfl rfl ?_
                          refine WL.nil ?_
                          refine fun a ha => hK280 _ _ ?_ a ha
                          refine W.ret ?_
                          have hr := Option.some.inj hF
                          subst hr
                          exact rets (vs := [(.bool false)]) hQ rfl ⟨rv_tmp rfl, trivial⟩ ⟨rfl, hB274⟩
                        · replace hF := ifN h279 hF
                          refine W.skip ?_
                          refine fun a ha => hK271 _ _ ?_ a ha
                          refine W.seq fun K281 hK281 => ?_
                          refine W.region ?_
                          refine wl_assign rfl rfl ?_
                          refine WL.nil ?_
                          refine fun a ha => hK281 _ _ ?_ a ha
                          refine W.seq fun K282 hK282 => ?_
                          refine W.region ?_
                          refine wl_move rfl rfl ?_
                          refine wl_move rfl rfl ?_
                          obtain ⟨u283, hu283, hF⟩ := bindE hF
                          refine wl_call rfl Try.call54 (C_laws_heldIntS w273 u212.2 v114 (hS275.own_ro (i := 0) rfl) 1 _ hu283) rfl ?_
                          rintro _ w284 ⟨rfl, hb285⟩
                          refine ⟨_, rfl, ?_⟩
                          have hB286 := hB274.trans (hb285.mono hB274.size)
                          have hS287 := hS275.below hb285
                          refine wl_assign rfl rfl ?_
                          refine WL.nil ?_
                          refine fun a ha => hK282 _ _ ?_ a ha
                          refine W.seq fun K289 hK289 => ?_
                          refine W.seq fun K290 hK290 => ?_
                          refine W.region ?_
                          refine wl_move rfl rfl ?_
                          refine wl_lss rfl rfl rfl ?_
                          refine WL.nil ?_
                          refine fun a ha => hK290 _ _ ?_ a ha
                          refine W.cond rfl (fun h291 => ?_) (fun h291 => ?_)
                          · replace hF := ifP h291 hF
                            refine W.seq fun K292 hK292 => ?_
                            refine W.region ?_
                            refine wl_assign rfl rfl ?_
                            refine WL.nil ?_
                            refine fun a ha => hK292 _ _ ?_ a ha
                            refine W.ret ?_
                            have hr := Option.some.inj hF
                            subst hr
                            exact rets (vs := [(.bool false)]) hQ rfl ⟨rv_tmp rfl, trivial⟩ ⟨rfl, hB286⟩
                          · replace hF := ifN h291 hF
                            refine W.skip ?_
                            refine fun a ha => hK289 _ _ ?_ a ha
                            refine W.seq fun K293 hK293 => ?_
                            refine W.seq fun K294 hK294 => ?_
                            refine W.region ?_
                            refine wl_move rfl rfl ?_
                            refine wl_move rfl rfl ?_
                            refine wl_neq rfl rfl rfl ?_
                            refine WL.nil ?_
                            refine fun a ha => hK294 _ _ ?_ a ha
                            refine W.cond rfl (fun h295 => ?_) (fun h295 => ?_)
                            · replace hF := ifP h295 hF
                              refine W.seq fun K296 hK296 => ?_
                              refine W.region ?_
                              refine wl_assign rfl rfl ?_
                              refine WL.nil ?_
                              refine fun a ha => hK296 _ _ ?_ a ha
                              refine W.ret ?_
                              have hr := Option.some.inj hF
                              subst hr
                              exact rets (vs := [(.bool false)]) hQ rfl ⟨rv_tmp rfl, trivial⟩ ⟨rfl, hB286⟩
                            · replace hF := ifN h295 hF
                              refine W.skip ?_
                              refine fun a ha => hK293 _ _ ?_ a ha
                              refine W.seq fun K297 hK297 => ?_
                              refine W.region ?_
                              refine wl_assign rfl rfl ?_
                              refine WL.nil ?_
                              refine fun a ha => hK297 _ _ ?_ a ha
                              refine W.ret ?_
                              have hr := Option.some.inj hF
                              subst hr
                              exact rets (vs := [(.bool true)]) hQ rfl ⟨rv_tmp rfl, trivial⟩ ⟨rfl, hB286⟩
                      refine W.region ?_
                      refine wl_move rfl rfl ?_
                      refine wl_move rfl rfl ?_
                      obtain ⟨u298, hu298, hF⟩ := bindE hF
                      refine wl_call rfl Try.call52 (C_laws_eqIntS w265 u262.1 v263 (hS268.own_ro (i := 0) rfl) u63.1 v64 (hS268.own_ro (i := 8) rfl) _ hu298) rfl ?_
                      rintro _ w299 ⟨rfl, hb300⟩
                      refine ⟨_, rfl, ?_⟩
                      have hB301 := hB267.trans (hb300.mono hB267.size)
                      have hS302 := hS268.below hb300
                      refine wl_not rfl rfl ?_
                      refine wl_move rfl rfl ?_
                      rcases bE (!u298) with h304 | h304
                      · replace hF := ifP h304 hF
                        refine wl_off rfl rfl rfl h304 ?_
                        refine wl_off rfl rfl rfl h304 ?_
                        refine wl_off rfl rfl rfl h304 ?_
                        refine wl_pick_t rfl rfl h304 rfl ?_
                        refine WL.nil ?_
                        exact fun a ha => hJ278 (true) _ hF hB301 (hS302.sel [5] rfl) a (ha.sub ⟨rfl, rfl, rfl, trivial⟩)
                      · replace hF := ifN h304 hF
                        refine wl_on rfl rfl h304 ?_
                        refine wl_move rfl rfl ?_
                        refine wl_on rfl rfl h304 ?_
                        refine wl_move rfl rfl ?_
                        refine wl_on rfl rfl h304 ?_
                        refine wl_neqb Try.underlying4 rfl rfl rfl ?_
                        refine wl_pick_f rfl rfl h304 rfl ?_
                        refine WL.nil ?_
                        exact fun a ha => hJ278 ((u262.2 != u63.2)) _ hF hB301 (hS302.sel [5] rfl) a (ha.sub ⟨rfl, rfl, rfl, trivial⟩)
              refine W.region ?_
              refine wl_move rfl rfl ?_
              refine wl_lss rfl rfl rfl ?_
              refine wl_move rfl rfl ?_
              rcases bE (decide (u194.1 < 0)) with h305 | h305
              · replace hF := ifP h305 hF
                refine wl_off rfl rfl rfl h305 ?_
                refine wl_off rfl rfl rfl h305 ?_
                refine wl_off rfl rfl rfl h305 ?_
                refine wl_off rfl rfl rfl h305 ?_
                refine wl_pick_t rfl rfl h305 rfl ?_
                refine wl_move rfl rfl ?_
                refine wl_off rfl rfl rfl rfl ?_
                refine wl_off rfl rfl rfl rfl ?_
                refine wl_off rfl rfl rfl rfl ?_
                refine wl_pick_t rfl rfl rfl rfl ?_
                refine WL.nil ?_
                exact fun a ha => hJ207 (true) _ hF hB198 (hS199.sel [8, 9, 10, 13] rfl) a (ha.sub ⟨rfl, rfl, rfl, rfl, rfl, rfl, trivial⟩)
              · replace hF := ifN h305 hF
                refine wl_on rfl rfl h305 ?_
                refine wl_move rfl rfl ?_
                refine wl_on rfl rfl h305 ?_
                refine wl_move rfl rfl ?_
                refine wl_on rfl rfl h305 ?_
                obtain ⟨u306, hu306, hF⟩ := bindE hF
                refine wl_call rfl Try.call52 (C_laws_eqIntS w195 u113.1 v114 (hS199.own_ro (i := 13) rfl) u63.1 v64 (hS199.own_ro (i := 10) rfl) _ hu306) rfl ?_
                rintro _ w307 ⟨rfl, hb308⟩
                refine ⟨_, rfl, ?_⟩
                have hB309 := hB198.trans (hb308.mono hB198.size)
                have hS310 := hS199.below hb308
                refine wl_on rfl rfl h305 ?_
                refine wl_not rfl rfl ?_
                refine wl_pick_f rfl rfl h305 rfl ?_
                refine wl_move rfl rfl ?_
                rcases bE (!u306) with h312 | h312
                · replace hF := ifP h312 hF
                  refine wl_off rfl rfl rfl h312 ?_
                  refine wl_off rfl rfl rfl h312 ?_
                  refine wl_off rfl rfl rfl h312 ?_
                  refine wl_pick_t rfl rfl h312 rfl ?_
                  refine WL.nil ?_
                  exact fun a ha => hJ207 (true) _ hF hB309 (hS310.sel [8, 9, 10, 13] rfl) a (ha.sub ⟨rfl, rfl, rfl, rfl, rfl, rfl, trivial⟩)
                · replace hF := ifN h312 hF
                  refine wl_on rfl rfl h312 ?_
                  refine wl_move rfl rfl ?_
                  refine wl_on rfl rfl h312 ?_
                  refine wl_move rfl rfl ?_
                  refine wl_on rfl rfl h312 ?_
                  refine wl_neqb Try.underlying4 rfl rfl rfl ?_
                  refine wl_pick_f rfl rfl h312 rfl ?_
                  refine WL.nil ?_
                  exact fun a ha => hJ207 ((u113.2 != u63.2)) _ hF hB309 (hS310.sel [8, 9, 10, 13] rfl) a (ha.sub ⟨rfl, rfl, rfl, rfl, rfl, rfl, trivial⟩)
      refine W.region ?_
      refine wl_move rfl rfl ?_
      refine wl_move rfl rfl ?_
      obtain ⟨u313, hu313, hF⟩ := bindE hF
      refine wl_call rfl Try.call52 (C_laws_eqIntS w116 u113.1 v114 (hS119.own_ro (i := 0) rfl) u63.1 v64 (hS119.own_ro (i := 7) rfl) _ hu313) rfl ?_
      rintro _ w314 ⟨rfl, hb315⟩
      refine ⟨_, rfl, ?_⟩
      have hB316 := hB118.trans (hb315.mono hB118.size)
      have hS317 := hS119.below hb315
      refine wl_not rfl rfl ?_
      refine wl_move rfl rfl ?_
      rcases bE (!u313) with h319 | h319
      · replace hF := ifP h319 hF
        refine wl_off rfl rfl rfl h319 ?_
        refine wl_off rfl rfl rfl h319 ?_
        refine wl_off rfl rfl rfl h319 ?_
        refine wl_pick_t rfl rfl h319 rfl ?_
        refine WL.nil ?_
        exact fun a ha => hJ128 (true) _ hF hB316 (hS317.sel [13, 12, 7, 5, 6, 4, 2, 3, 1, 0] rfl) a (ha.sub ⟨rfl, rfl, rfl, rfl, rfl, rfl, rfl, rfl, rfl, trivial⟩)
      · replace hF := ifN h319 hF
        refine wl_on rfl rfl h319 ?_
        refine wl_move rfl rfl ?_
        refine wl_on rfl rfl h319 ?_
        refine wl_move rfl rfl ?_
        refine wl_on rfl rfl h319 ?_
        refine wl_neqb Try.underlying4 rfl rfl rfl ?_
        refine wl_pick_f rfl rfl h319 rfl ?_
        refine WL.nil ?_
        exact fun a ha => hJ128 ((u113.2 != u63.2)) _ hF hB316 (hS317.sel [13, 12, 7, 5, 6, 4, 2, 3, 1, 0] rfl) a (ha.sub ⟨rfl, rfl, rfl, rfl, rfl, rfl, rfl, rfl, rfl, trivial⟩)
end Go.Proofs.Ytmbhdelegdhieaa
