/-
  THE WALKS of functions of this seat, by program (gen.py).
-/
import Derived.Test.YtmbhdelegdhieaaH
import Derived.Test.YtmbhdelegdhieaaWFnExactIsShow
set_option linter.unusedSimpArgs false
set_option linter.unusedVariables false
set_option maxRecDepth 100000
namespace Go.Proofs.Ytmbhdelegdhieaa
open Go Go.RowKit
theorem C_spec_mgSame (w0 : World) (x0 : (List (Int × Int))) (v0_0 : Value) (h0_0 : rdS ty_105 (· < w0.heap.size) w0 v0_0 x0) (x1 : (List (Int × Int))) (v1_0 : Value) (h1_0 : rdS ty_105 (· < w0.heap.size) w0 v1_0 x1) (r : Bool) (hF : F_spec_mgSame x0 x1 = some r) :
    Calls Try.prog 119 [v0_0, v1_0].toArray w0 fun e w' => e = .returned (.bool r) ∧ Below w0.heap.size w0 w' := by
  refine calls_mk' Try.func119 rfl Try.ntmps119 rfl rfl fun Q hQ hP => ?_
  have hB : Below w0.heap.size w0 w0 := Below.refl _ _
  have hS : Sep w0.heap.size w0 [] := Sep.nil _ _
  unfold F_spec_mgSame at hF
  refine W.seq fun K1 hK1 => ?_
  refine W.region ?_
  refine wl_assign rfl rfl ?_
  refine WL.nil ?_
  refine fun a ha => hK1 _ _ ?_ a ha
  refine W.seq fun K2 hK2 => ?_
  refine W.seq fun K3 hK3 => ?_
  refine W.region ?_
  refine wl_move rfl rfl ?_
  refine wl_lenr (e := ty_105) (l := x0) Try.underlying109 rfl rfl h0_0 ?_
  refine wl_move rfl rfl ?_
  refine WL.nil ?_
  refine fun a ha => hK3 _ _ ?_ a ha
  refine W.block ?_
  refine W.loopk (fun m a w4 => ∃ (y7 : Int), St 21 [(1, v1_0), (7, v0_0), (8, (.int .i64 (List.length x0 : Int))), (9, (.int .i64 y7))] a ∧ Below w0.heap.size w0 w4 ∧ Sep w0.heap.size w4 [] ∧ F_spec_mgSame_L1 x0 x1 m y7 = some r) FU ?_ ?_
  ·
    exact fun a ha => ⟨0, ha.sub ⟨rfl, rfl, rfl, rfl, trivial⟩, hB, (hS.sel [] rfl), hF⟩
  ·
    rintro m10 a w4 ⟨y7, ha, hB5, hS6, hF⟩ KL9 hKL9
    refine W.at ?_ ha
    cases m10 with
    | zero => exact noneE hF
    | succ m10 =>
      obtain ⟨nx8, hnx8⟩ : ∃ k, k = F_spec_mgSame_L1 x0 x1 m10 := ⟨_, rfl⟩
      rw [F_spec_mgSame_L1, ← hnx8] at hF
      refine W.seq fun K11 hK11 => ?_
      refine W.region ?_
      refine wl_lss rfl rfl rfl ?_
      refine WL.nil ?_
      refine fun a ha => hK11 _ _ ?_ a ha
      refine W.seq fun K12 hK12 => ?_
      refine W.cond rfl (fun h13 => ?_) (fun h13 => ?_)
      · replace hF := ifP h13 hF
        refine W.skip ?_
        refine fun a ha => hK12 _ _ ?_ a ha
        refine W.seq fun K14 hK14 => ?_
        refine W.block ?_
        refine W.seq fun K15 hK15 => ?_
        refine W.region ?_
        refine wl_move rfl rfl ?_
        obtain ⟨u16, hu16, hF⟩ := bindE hF
        refine wl_index (e := ty_105) Try.underlying109 rfl rfl rfl h0_0 hu16 ?_
        rintro p17 _ rfl hp18
        refine wl_load_p (vs := [(.int .i64 u16.1), (.int .i64 u16.2)]) (v := (.agg #[(.int .i64 u16.1), (.int .i64 u16.2)])) tf_105 rfl rfl (hp18.ro hB5) rfl rfl ?_
        refine wl_alloc (cs := [(.int .i64 0), (.int .i64 0)]) tf_105 rfl rfl hB5 hS6 ?_
        intro b19 w20 hb21 hB22 hS23
        refine wl_assign rfl rfl ?_
        refine wl_store_blk (i := 0) (vs := [(.int .i64 u16.1), (.int .i64 u16.2)]) (cs' := [(.int .i64 u16.1), (.int .i64 u16.2)]) tf_105 rfl rfl rfl rfl hB22 hS23 rfl rfl ⟨rfl, rfl, trivial⟩ rfl ?_
        intro w24 hk27 hB25 hS26
        refine WL.nil ?_
        refine fun a ha => hK15 _ _ ?_ a ha
        refine W.seq fun K28 hK28 => ?_
        refine W.regionH mixed_ [] hB25 hS26 ?_
        intro w29 hb30 hB31 hS32
        have hSW33 := KeepX.refl w29 []
        refine WH.takex (i := 0) rfl (by kernel_rfl) (by kernel_rfl) (by kernel_rfl) hP hSW33 ?_
        refine pr_load_blk (i := 0) (vs := [(.int .i64 u16.1), (.int .i64 u16.2)]) (v := (.agg #[(.int .i64 u16.1), (.int .i64 u16.2)])) tf_105 rfl rfl hS32 rfl rfl rfl (by simp) ?_
        refine WH.takex (i := 1) rfl (by kernel_rfl) (by kernel_rfl) (by kernel_rfl) hP hSW33 ?_
        refine pr_move rfl rfl ?_
        refine WH.takex (i := 2) rfl (by kernel_rfl) (by kernel_rfl) (by kernel_rfl) hP hSW33 ?_
        refine pr_move rfl rfl ?_
        obtain ⟨u34, hu34, hF⟩ := bindE hF
        refine WH.takex (i := 3) rfl (by kernel_rfl) (by kernel_rfl) (by kernel_rfl) hP hSW33 ?_
        refine pr_index (e := ty_105) Try.underlying109 rfl rfl rfl h1_0 hu34 ?_
        rintro p35 _ rfl hp36
        refine WH.takex (i := 4) rfl (by kernel_rfl) (by kernel_rfl) (by kernel_rfl) hP hSW33 ?_
        refine pr_load_p (vs := [(.int .i64 u34.1), (.int .i64 u34.2)]) (v := (.agg #[(.int .i64 u34.1), (.int .i64 u34.2)])) tf_105 rfl rfl (hp36.kx hB31 (by simp)) rfl rfl ?_
        refine WH.takex (i := 5) rfl (by kernel_rfl) (by kernel_rfl) (by kernel_rfl) hP hSW33 ?_
        refine pr_nes Try.eqGuardType105 (eq_105 u16 u34) rfl rfl rfl ?_
        refine WH.done (by kernel_rfl) ?_
        refine fun a ha => hK28 _ _ ?_ a ha
        refine W.cond rfl (fun h37 => ?_) (fun h37 => ?_)
        · replace hF := ifP h37 hF
          refine W.seq fun K38 hK38 => ?_
          refine W.region ?_
          refine wl_assign rfl rfl ?_
          refine WL.nil ?_
          refine fun a ha => hK38 _ _ ?_ a ha
          refine W.ret ?_
          have hr := Option.some.inj hF
          subst hr
          exact rets (vs := [(.bool false)]) hQ rfl ⟨rv_tmp rfl, trivial⟩ ⟨rfl, hB31⟩
        · replace hF := ifN h37 hF
          refine W.skip ?_
          refine fun a ha => hK14 _ _ ?_ a ha
          refine W.region ?_
          refine wl_add rfl rfl rfl ?_
          refine wl_move rfl rfl ?_
          refine WL.nil ?_
          rw [hnx8] at hF
          exact fun a ha => hKL9 a _ m10 (Nat.lt_succ_self m10) ⟨(w64 (y7 + 1)), ha.sub ⟨rfl, rfl, rfl, rfl, trivial⟩, hB31, (hS32.sel [] rfl), hF⟩
      · replace hF := ifN h13 hF
        refine W.exit ?_
        refine fun a ha => hK2 _ _ ?_ a ha
        refine W.seq fun K39 hK39 => ?_
        refine W.region ?_
        refine wl_assign rfl rfl ?_
        refine WL.nil ?_
        refine fun a ha => hK39 _ _ ?_ a ha
        refine W.ret ?_
        have hr := Option.some.inj hF
        subst hr
        exact rets (vs := [(.bool true)]) hQ rfl ⟨rv_tmp rfl, trivial⟩ ⟨rfl, hB5⟩
theorem C_spec_cpDifferent (w0 : World) (x0 : ((List (List (Int × Int))) × (List Int) × Int × Int)) (v0_0 : Value) (h0_0 : rdS ty_109 (· < w0.heap.size) w0 v0_0 x0.1) (v0_1 : Value) (h0_1 : rdS ty_3 (· < w0.heap.size) w0 v0_1 x0.2.1) (x1 : ((List (List (Int × Int))) × (List Int) × Int × Int)) (v1_0 : Value) (h1_0 : rdS ty_109 (· < w0.heap.size) w0 v1_0 x1.1) (v1_1 : Value) (h1_1 : rdS ty_3 (· < w0.heap.size) w0 v1_1 x1.2.1) (r : (List Int)) (hF : F_spec_cpDifferent x0 x1 = some r) :
    Calls Try.prog 88 [(.agg #[v0_0, v0_1, (.int .i64 x0.2.2.1), (.int .i64 x0.2.2.2)]), (.agg #[v1_0, v1_1, (.int .i64 x1.2.2.1), (.int .i64 x1.2.2.2)])].toArray w0 fun e w' => ∃ (q0 : Value) (G0 : List Nat), e = .returned q0 ∧ Below w0.heap.size w0 w' ∧ Sep w0.heap.size w' [R.own ty_3 G0 q0 r] := by
  refine calls_mk' Try.func88 rfl Try.ntmps88 rfl rfl fun Q hQ hP => ?_
  have hB : Below w0.heap.size w0 w0 := Below.refl _ _
  have hS : Sep w0.heap.size w0 [] := Sep.nil _ _
  unfold F_spec_cpDifferent at hF
  refine W.seq fun K1 hK1 => ?_
  refine W.region ?_
  refine wl_box (cs := [v0_0, v0_1, (.int .i64 x0.2.2.1), (.int .i64 x0.2.2.2)]) rfl rfl rfl hB hS ?_
  intro b2 w3 hb4 hB5 hS6
  refine wl_box (cs := [v1_0, v1_1, (.int .i64 x1.2.2.1), (.int .i64 x1.2.2.2)]) rfl rfl rfl hB5 hS6 ?_
  intro b7 w8 hb9 hB10 hS11
  refine wl_assign rfl rfl ?_
  refine WL.nil ?_
  refine fun a ha => hK1 _ _ ?_ a ha
  refine W.seq fun K12 hK12 => ?_
  refine W.region ?_
  refine wl_assign rfl rfl ?_
  refine WL.nil ?_
  refine fun a ha => hK12 _ _ ?_ a ha
  refine W.seq fun K13 hK13 => ?_
  refine W.seq fun K14 hK14 => ?_
  refine W.region ?_
  refine wl_field (o := 0) (off' := 0) ff_30_0 rfl rfl rfl ?_
  refine wl_load_blk (i := 1) (vs := [v0_0]) (v := v0_0) tf_28 rfl rfl hS11 rfl rfl rfl ?_
  refine wl_lenr (e := ty_109) (l := x0.1) Try.underlying28 rfl rfl h0_0 ?_
  refine wl_move rfl rfl ?_
  refine WL.nil ?_
  refine fun a ha => hK14 _ _ ?_ a ha
  refine W.block ?_
  refine W.loopk (fun m a w15 => ∃ (l18 : (List Int)) (y21 : Int) (v19 : Value) (F20 : List Nat), St 30 [(3, (.pointer (some ⟨b7, 0, none⟩))), (5, v19), (9, v0_0), (10, (.int .i64 (List.length x0.1 : Int))), (11, (.int .i64 y21))] a ∧ Below w0.heap.size w0 w15 ∧ Sep w0.heap.size w15 [R.blk b7 30 [v1_0, v1_1, (.int .i64 x1.2.2.1), (.int .i64 x1.2.2.2)], R.own ty_3 F20 v19 l18] ∧ F_spec_cpDifferent_L1 x0 x1 m l18 y21 = some r) FU ?_ ?_
  ·
    have hS23 := hS11.push0 (r := R.own ty_3 [] (.slice none 0 0) []) rfl fun _ => .inl ⟨rfl, rfl, rfl⟩
    exact fun a ha => ⟨[], 0, (.slice none 0 0), [], ha.sub ⟨rfl, rfl, rfl, rfl, rfl, trivial⟩, hB10, (hS23.sel [1, 0] rfl), hF⟩
  ·
    rintro m25 a w15 ⟨l18, y21, v19, F20, ha, hB16, hS17, hF⟩ KL24 hKL24
    refine W.at ?_ ha
    cases m25 with
    | zero => exact noneE hF
    | succ m25 =>
      obtain ⟨nx22, hnx22⟩ : ∃ k, k = F_spec_cpDifferent_L1 x0 x1 m25 := ⟨_, rfl⟩
      rw [F_spec_cpDifferent_L1, ← hnx22] at hF
      refine W.seq fun K26 hK26 => ?_
      refine W.region ?_
      refine wl_lss rfl rfl rfl ?_
      refine WL.nil ?_
      refine fun a ha => hK26 _ _ ?_ a ha
      refine W.seq fun K27 hK27 => ?_
      refine W.cond rfl (fun h28 => ?_) (fun h28 => ?_)
      · replace hF := ifP h28 hF
        refine W.skip ?_
        refine fun a ha => hK27 _ _ ?_ a ha
        refine W.seq fun K29 hK29 => ?_
        obtain ⟨k36, hk36, hF⟩ := jE1 hF
        have hJ37 : ∀ (l33 : (List Int)) (v34 : Value) (F35 : List Nat) (w30 : World) (_ : k36 l33 = some r) (_ : Below w0.heap.size w0 w30) (_ : Sep w0.heap.size w30 [R.blk b7 30 [v1_0, v1_1, (.int .i64 x1.2.2.1), (.int .i64 x1.2.2.2)], R.own ty_3 F35 v34 l33]), ∀ a, St 30 [(3, (.pointer (some ⟨b7, 0, none⟩))), (5, v34), (9, v0_0), (10, (.int .i64 (List.length x0.1 : Int))), (11, (.int .i64 y21))] a → K29 a w30 := by
          intro l33 v34 F35 w30 hF hB31 hS32
          subst hk36
          refine fun a ha => hK29 _ _ ?_ a ha
          refine W.region ?_
          refine wl_add rfl rfl rfl ?_
          refine wl_move rfl rfl ?_
          refine WL.nil ?_
          rw [hnx22] at hF
          exact fun a ha => hKL24 a _ m25 (Nat.lt_succ_self m25) ⟨l33, (w64 (y21 + 1)), v34, F35, ha.sub ⟨rfl, rfl, rfl, rfl, rfl, trivial⟩, hB31, (hS32.sel [0, 1] rfl), hF⟩
        refine W.block ?_
        refine W.seq fun K38 hK38 => ?_
        refine W.region ?_
        refine wl_move rfl rfl ?_
        obtain ⟨u39, hu39, hF⟩ := bindE hF
        refine wl_index (e := ty_109) Try.underlying28 rfl rfl rfl h0_0 hu39 ?_
        rintro p40 _ ⟨v42, rfl, hv43⟩ hp41
        refine wl_load_p (vs := [v42]) (v := v42) tf_109 rfl rfl (hp41.ro hB16) rfl rfl ?_
        refine wl_assign rfl rfl ?_
        refine wl_assign rfl rfl ?_
        refine WL.nil ?_
        refine fun a ha => hK38 _ _ ?_ a ha
        refine W.seq fun K44 hK44 => ?_
        refine W.region ?_
        refine wl_move rfl rfl ?_
        refine wl_field (o := 0) (off' := 0) ff_30_0 rfl rfl rfl ?_
        refine wl_load_blk (i := 0) (vs := [v1_0]) (v := v1_0) tf_28 rfl rfl hS17 rfl rfl rfl ?_
        refine wl_move rfl rfl ?_
        obtain ⟨u45, hu45, hF⟩ := bindE hF
        refine wl_index (e := ty_109) Try.underlying28 rfl rfl rfl h1_0 hu45 ?_
        rintro p46 _ ⟨v48, rfl, hv49⟩ hp47
        refine wl_load_p (vs := [v48]) (v := v48) tf_109 rfl rfl (hp47.ro hB16) rfl rfl ?_
        obtain ⟨u50, hu50, hF⟩ := bindE hF
        refine wl_call rfl Try.call119 (C_spec_mgSame w15 u39 v42 (hv43.ro hB16) u45 v48 (hv49.ro hB16) _ hu50) rfl ?_
        rintro _ w51 ⟨rfl, hb52⟩
        refine ⟨_, rfl, ?_⟩
        have hB53 := hB16.trans (hb52.mono hB16.size)
        have hS54 := hS17.below hb52
        refine wl_not rfl rfl ?_
        refine WL.nil ?_
        refine fun a ha => hK44 _ _ ?_ a ha
        refine W.cond rfl (fun h56 => ?_) (fun h56 => ?_)
        · replace hF := ifP h56 hF
          refine W.region ?_
          refine wl_move rfl rfl ?_
          refine wl_move rfl rfl ?_
          refine wl_lit (vs := [(.int .i64 y21)]) (l := [y21]) fl_3 Try.underlying23 rfl rfl rfl rfl rfl rfl hB53 hS54 ?_
          intro v57 F58 w59 hb60 hB61 hS62
          obtain ⟨u63, hu63, hF⟩ := bindE hF
          refine wl_append (i := 2) (S := (· < w59.heap.size)) fl_3 Try.underlying23 rfl rfl rfl hB61 hS62 rfl (hS62.own_ro (i := 0) rfl) hu63 ?_
          intro v64 F65 w66 hk67 hB68 hS69
          refine wl_assign rfl rfl ?_
          refine WL.nil ?_
          exact fun a ha => hJ37 (u63) (v64) (F65) _ hF hB68 (hS69.sel [1, 2] rfl) a (ha.sub ⟨rfl, rfl, rfl, rfl, rfl, trivial⟩)
        · replace hF := ifN h56 hF
          refine W.skip ?_
          exact fun a ha => hJ37 (l18) (v19) (F20) _ hF hB53 (hS54.sel [0, 1] rfl) a (ha.sub ⟨rfl, rfl, rfl, rfl, rfl, trivial⟩)
      · replace hF := ifN h28 hF
        refine W.exit ?_
        refine fun a ha => hK13 _ _ ?_ a ha
        refine W.seq fun K70 hK70 => ?_
        refine W.region ?_
        refine wl_move rfl rfl ?_
        refine wl_assign rfl rfl ?_
        refine WL.nil ?_
        refine fun a ha => hK70 _ _ ?_ a ha
        refine W.ret ?_
        have hr := Option.some.inj hF
        subst hr
        exact rets (vs := [v19]) hQ rfl ⟨rv_tmp rfl, trivial⟩ ⟨v19, F20, rfl, hB16, hS17.sel [1] rfl⟩
theorem C_spec_l1Same (w0 : World) (x0 : (List Int)) (v0_0 : Value) (h0_0 : rdS ty_3 (· < w0.heap.size) w0 v0_0 x0) (x1 : (List Int)) (v1_0 : Value) (h1_0 : rdS ty_3 (· < w0.heap.size) w0 v1_0 x1) (r : Bool) (hF : F_spec_l1Same x0 x1 = some r) :
    Calls Try.prog 89 [v0_0, v1_0].toArray w0 fun e w' => e = .returned (.bool r) ∧ Below w0.heap.size w0 w' := by
  refine calls_mk' Try.func89 rfl Try.ntmps89 rfl rfl fun Q hQ hP => ?_
  have hB : Below w0.heap.size w0 w0 := Below.refl _ _
  have hS : Sep w0.heap.size w0 [] := Sep.nil _ _
  unfold F_spec_l1Same at hF
  refine W.seq fun K1 hK1 => ?_
  refine W.region ?_
  refine wl_assign rfl rfl ?_
  refine WL.nil ?_
  refine fun a ha => hK1 _ _ ?_ a ha
  refine W.seq fun K2 hK2 => ?_
  refine W.seq fun K3 hK3 => ?_
  refine W.region ?_
  refine wl_move rfl rfl ?_
  refine wl_lenr (e := ty_3) (l := x0) Try.underlying23 rfl rfl h0_0 ?_
  refine wl_move rfl rfl ?_
  refine wl_lenr (e := ty_3) (l := x1) Try.underlying23 rfl rfl h1_0 ?_
  refine wl_neq rfl rfl rfl ?_
  refine WL.nil ?_
  refine fun a ha => hK3 _ _ ?_ a ha
  refine W.cond rfl (fun h4 => ?_) (fun h4 => ?_)
  · replace hF := ifP h4 hF
    refine W.seq fun K5 hK5 => ?_
    refine W.region ?_
    refine wl_assign rfl rfl ?_
    refine WL.nil ?_
    refine fun a ha => hK5 _ _ ?_ a ha
    refine W.ret ?_
    have hr := Option.some.inj hF
    subst hr
    exact rets (vs := [(.bool false)]) hQ rfl ⟨rv_tmp rfl, trivial⟩ ⟨rfl, hB⟩
  · replace hF := ifN h4 hF
    refine W.skip ?_
    refine fun a ha => hK2 _ _ ?_ a ha
    refine W.seq fun K6 hK6 => ?_
    refine W.seq fun K7 hK7 => ?_
    refine W.region ?_
    refine wl_move rfl rfl ?_
    refine wl_lenr (e := ty_3) (l := x0) Try.underlying23 rfl rfl h0_0 ?_
    refine wl_move rfl rfl ?_
    refine WL.nil ?_
    refine fun a ha => hK7 _ _ ?_ a ha
    refine W.block ?_
    refine W.loopk (fun m a w8 => ∃ (y11 : Int), St 26 [(0, v0_0), (1, v1_0), (12, (.int .i64 (List.length x0 : Int))), (13, (.int .i64 y11))] a ∧ Below w0.heap.size w0 w8 ∧ Sep w0.heap.size w8 [] ∧ F_spec_l1Same_L1 x0 x1 m y11 = some r) FU ?_ ?_
    ·
      exact fun a ha => ⟨0, ha.sub ⟨rfl, rfl, rfl, rfl, trivial⟩, hB, (hS.sel [] rfl), hF⟩
    ·
      rintro m14 a w8 ⟨y11, ha, hB9, hS10, hF⟩ KL13 hKL13
      refine W.at ?_ ha
      cases m14 with
      | zero => exact noneE hF
      | succ m14 =>
        obtain ⟨nx12, hnx12⟩ : ∃ k, k = F_spec_l1Same_L1 x0 x1 m14 := ⟨_, rfl⟩
        rw [F_spec_l1Same_L1, ← hnx12] at hF
        refine W.seq fun K15 hK15 => ?_
        refine W.region ?_
        refine wl_lss rfl rfl rfl ?_
        refine WL.nil ?_
        refine fun a ha => hK15 _ _ ?_ a ha
        refine W.seq fun K16 hK16 => ?_
        refine W.cond rfl (fun h17 => ?_) (fun h17 => ?_)
        · replace hF := ifP h17 hF
          refine W.skip ?_
          refine fun a ha => hK16 _ _ ?_ a ha
          refine W.seq fun K18 hK18 => ?_
          refine W.block ?_
          refine W.seq fun K19 hK19 => ?_
          refine W.region ?_
          refine wl_move rfl rfl ?_
          refine wl_assign rfl rfl ?_
          refine WL.nil ?_
          refine fun a ha => hK19 _ _ ?_ a ha
          refine W.seq fun K20 hK20 => ?_
          refine W.regionH mixed_ [] hB9 hS10 ?_
          intro w21 hb22 hB23 hS24
          have hSW25 := KeepX.refl w21 []
          refine WH.takex (i := 0) rfl (by kernel_rfl) (by kernel_rfl) (by kernel_rfl) hP hSW25 ?_
          refine pr_move rfl rfl ?_
          refine WH.takex (i := 1) rfl (by kernel_rfl) (by kernel_rfl) (by kernel_rfl) hP hSW25 ?_
          refine pr_move rfl rfl ?_
          obtain ⟨u26, hu26, hF⟩ := bindE hF
          refine WH.takex (i := 2) rfl (by kernel_rfl) (by kernel_rfl) (by kernel_rfl) hP hSW25 ?_
          refine pr_index (e := ty_3) Try.underlying23 rfl rfl rfl h0_0 hu26 ?_
          rintro p27 _ rfl hp28
          refine WH.takex (i := 3) rfl (by kernel_rfl) (by kernel_rfl) (by kernel_rfl) hP hSW25 ?_
          refine pr_load_p (vs := [(.int .i64 u26)]) (v := (.int .i64 u26)) tf_3 rfl rfl (hp28.kx hB23 (by simp)) rfl rfl ?_
          refine WH.takex (i := 4) rfl (by kernel_rfl) (by kernel_rfl) (by kernel_rfl) hP hSW25 ?_
          refine pr_move rfl rfl ?_
          refine WH.takex (i := 5) rfl (by kernel_rfl) (by kernel_rfl) (by kernel_rfl) hP hSW25 ?_
          refine pr_move rfl rfl ?_
          obtain ⟨u29, hu29, hF⟩ := bindE hF
          refine WH.takex (i := 6) rfl (by kernel_rfl) (by kernel_rfl) (by kernel_rfl) hP hSW25 ?_
          refine pr_index (e := ty_3) Try.underlying23 rfl rfl rfl h1_0 hu29 ?_
          rintro p30 _ rfl hp31
          refine WH.takex (i := 7) rfl (by kernel_rfl) (by kernel_rfl) (by kernel_rfl) hP hSW25 ?_
          refine pr_load_p (vs := [(.int .i64 u29)]) (v := (.int .i64 u29)) tf_3 rfl rfl (hp31.kx hB23 (by simp)) rfl rfl ?_
          refine WH.takex (i := 8) rfl (by kernel_rfl) (by kernel_rfl) (by kernel_rfl) hP hSW25 ?_
          refine pr_neq rfl rfl rfl ?_
          refine WH.done (by kernel_rfl) ?_
          refine fun a ha => hK20 _ _ ?_ a ha
          refine W.cond rfl (fun h32 => ?_) (fun h32 => ?_)
          · replace hF := ifP h32 hF
            refine W.seq fun K33 hK33 => ?_
            refine W.region ?_
            refine wl_assign rfl rfl ?_
            refine WL.nil ?_
            refine fun a ha => hK33 _ _ ?_ a ha
            refine W.ret ?_
            have hr := Option.some.inj hF
            subst hr
            exact rets (vs := [(.bool false)]) hQ rfl ⟨rv_tmp rfl, trivial⟩ ⟨rfl, hB23⟩
          · replace hF := ifN h32 hF
            refine W.skip ?_
            refine fun a ha => hK18 _ _ ?_ a ha
            refine W.region ?_
            refine wl_add rfl rfl rfl ?_
            refine wl_move rfl rfl ?_
            refine WL.nil ?_
            rw [hnx12] at hF
            exact fun a ha => hKL13 a _ m14 (Nat.lt_succ_self m14) ⟨(w64 (y11 + 1)), ha.sub ⟨rfl, rfl, rfl, rfl, trivial⟩, hB23, (hS24.sel [] rfl), hF⟩
        · replace hF := ifN h17 hF
          refine W.exit ?_
          refine fun a ha => hK6 _ _ ?_ a ha
          refine W.seq fun K34 hK34 => ?_
          refine W.region ?_
          refine wl_assign rfl rfl ?_
          refine WL.nil ?_
          refine fun a ha => hK34 _ _ ?_ a ha
          refine W.ret ?_
          have hr := Option.some.inj hF
          subst hr
          exact rets (vs := [(.bool true)]) hQ rfl ⟨rv_tmp rfl, trivial⟩ ⟨rfl, hB9⟩
theorem C_spec_SameShows (w0 : World) (x0 : ((List (List (Int × Int))) × (List Int) × Int × Int)) (v0_0 : Value) (h0_0 : rdS ty_109 (· < w0.heap.size) w0 v0_0 x0.1) (v0_1 : Value) (h0_1 : rdS ty_3 (· < w0.heap.size) w0 v0_1 x0.2.1) (x1 : ((List (List (Int × Int))) × (List Int) × Int × Int)) (v1_0 : Value) (h1_0 : rdS ty_109 (· < w0.heap.size) w0 v1_0 x1.1) (v1_1 : Value) (h1_1 : rdS ty_3 (· < w0.heap.size) w0 v1_1 x1.2.1) (r : (Bool × Bool)) (hF : F_spec_SameShows x0 x1 = some r) :
    Calls Try.prog 41 [(.agg #[v0_0, v0_1, (.int .i64 x0.2.2.1), (.int .i64 x0.2.2.2)]), (.agg #[v1_0, v1_1, (.int .i64 x1.2.2.1), (.int .i64 x1.2.2.2)])].toArray w0 fun e w' => e = .returned (.tuple #[(.bool r.1), (.bool r.2)]) ∧ Below w0.heap.size w0 w' := by
  refine calls_mk' Try.func41 rfl Try.ntmps41 rfl rfl fun Q hQ hP => ?_
  have hB : Below w0.heap.size w0 w0 := Below.refl _ _
  have hS : Sep w0.heap.size w0 [] := Sep.nil _ _
  unfold F_spec_SameShows at hF
  refine W.seq fun K1 hK1 => ?_
  refine W.region ?_
  refine wl_box (cs := [v0_0, v0_1, (.int .i64 x0.2.2.1), (.int .i64 x0.2.2.2)]) rfl rfl rfl hB hS ?_
  intro b2 w3 hb4 hB5 hS6
  refine wl_box (cs := [v1_0, v1_1, (.int .i64 x1.2.2.1), (.int .i64 x1.2.2.2)]) rfl rfl rfl hB5 hS6 ?_
  intro b7 w8 hb9 hB10 hS11
  refine wl_assign rfl rfl ?_
  refine wl_assign rfl rfl ?_
  refine WL.nil ?_
  refine fun a ha => hK1 _ _ ?_ a ha
  refine W.seq fun K12 hK12 => ?_
  refine W.seq fun K13 hK13 => ?_
  obtain ⟨k18, hk18, hF⟩ := jE1 hF
  have hJ19 : ∀ (y17 : Bool) (w14 : World) (_ : k18 y17 = some r) (_ : Below w0.heap.size w0 w14) (_ : Sep w0.heap.size w14 [R.blk b2 30 [v0_0, v0_1, (.int .i64 x0.2.2.1), (.int .i64 x0.2.2.2)], R.blk b7 30 [v1_0, v1_1, (.int .i64 x1.2.2.1), (.int .i64 x1.2.2.2)]]), ∀ a, St 60 [(2, (.pointer (some ⟨b2, 0, none⟩))), (3, (.pointer (some ⟨b7, 0, none⟩))), (13, (.bool y17))] a → K13 a w14 := by
    intro y17 w14 hF hB15 hS16
    subst hk18
    refine fun a ha => hK13 _ _ ?_ a ha
    refine W.cond rfl (fun h20 => ?_) (fun h20 => ?_)
    · replace hF := ifP h20 hF
      refine W.seq fun K21 hK21 => ?_
      refine W.region ?_
      refine wl_assign rfl rfl ?_
      refine wl_assign rfl rfl ?_
      refine WL.nil ?_
      refine fun a ha => hK21 _ _ ?_ a ha
      refine W.ret ?_
      have hr := Option.some.inj hF
      subst hr
      exact rets (vs := [(.bool false), (.bool false)]) hQ rfl ⟨rv_tmp rfl, rv_tmp rfl, trivial⟩ ⟨rfl, hB15⟩
    · replace hF := ifN h20 hF
      refine W.skip ?_
      refine fun a ha => hK12 _ _ ?_ a ha
      refine W.seq fun K22 hK22 => ?_
      refine W.seq fun K23 hK23 => ?_
      obtain ⟨k28, hk28, hF⟩ := jE1 hF
      have hJ29 : ∀ (y27 : Bool) (w24 : World) (_ : k28 y27 = some r) (_ : Below w0.heap.size w0 w24) (_ : Sep w0.heap.size w24 [R.blk b2 30 [v0_0, v0_1, (.int .i64 x0.2.2.1), (.int .i64 x0.2.2.2)], R.blk b7 30 [v1_0, v1_1, (.int .i64 x1.2.2.1), (.int .i64 x1.2.2.2)]]), ∀ a, St 60 [(2, (.pointer (some ⟨b2, 0, none⟩))), (3, (.pointer (some ⟨b7, 0, none⟩))), (33, (.bool y27))] a → K23 a w24 := by
        intro y27 w24 hF hB25 hS26
        subst hk28
        refine fun a ha => hK23 _ _ ?_ a ha
        refine W.cond rfl (fun h30 => ?_) (fun h30 => ?_)
        · replace hF := ifP h30 hF
          refine W.seq fun K31 hK31 => ?_
          refine W.region ?_
          refine wl_assign rfl rfl ?_
          refine wl_assign rfl rfl ?_
          refine WL.nil ?_
          refine fun a ha => hK31 _ _ ?_ a ha
          refine W.ret ?_
          have hr := Option.some.inj hF
          subst hr
          exact rets (vs := [(.bool false), (.bool true)]) hQ rfl ⟨rv_tmp rfl, rv_tmp rfl, trivial⟩ ⟨rfl, hB25⟩
        · replace hF := ifN h30 hF
          refine W.skip ?_
          refine fun a ha => hK22 _ _ ?_ a ha
          refine W.seq fun K32 hK32 => ?_
          obtain ⟨k37, hk37, hF⟩ := jE1 hF
          have hJ38 : ∀ (y36 : Bool) (w33 : World) (_ : k37 y36 = some r) (_ : Below w0.heap.size w0 w33) (_ : Sep w0.heap.size w33 []), ∀ a, St 60 [(4, (.bool y36)), (5, (.bool true))] a → K32 a w33 := by
            intro y36 w33 hF hB34 hS35
            subst hk37
            refine fun a ha => hK32 _ _ ?_ a ha
            refine W.ret ?_
            have hr := Option.some.inj hF
            subst hr
            exact rets (vs := [(.bool y36), (.bool true)]) hQ rfl ⟨rv_tmp rfl, rv_tmp rfl, trivial⟩ ⟨rfl, hB34⟩
          refine W.region ?_
          refine wl_load_blk (i := 0) (vs := [v0_0, v0_1, (.int .i64 x0.2.2.1), (.int .i64 x0.2.2.2)]) (v := (.agg #[v0_0, v0_1, (.int .i64 x0.2.2.1), (.int .i64 x0.2.2.2)])) tf_30 rfl rfl hS26 rfl rfl rfl ?_
          refine wl_load_blk (i := 1) (vs := [v1_0, v1_1, (.int .i64 x1.2.2.1), (.int .i64 x1.2.2.2)]) (v := (.agg #[v1_0, v1_1, (.int .i64 x1.2.2.1), (.int .i64 x1.2.2.2)])) tf_30 rfl rfl hS26 rfl rfl rfl ?_
          obtain ⟨u39, hu39, hF⟩ := bindE hF
          refine wl_call rfl Try.call88 (C_spec_cpDifferent w24 x0 v0_0 (h0_0.ro hB25) v0_1 (h0_1.ro hB25) x1 v1_0 (h1_0.ro hB25) v1_1 (h1_1.ro hB25) _ hu39) rfl ?_
          rintro _ w42 ⟨v40, F41, rfl, hb43, hM46⟩
          refine ⟨_, rfl, ?_⟩
          have hB44 := hB25.trans (hb43.mono hB25.size)
          have hS45 := hS26.join hb43 hM46 hB25.size
          refine wl_lenr (e := ty_3) (l := u39) Try.underlying23 rfl rfl (hS45.own_ro (i := 0) rfl) ?_
          refine wl_eql rfl rfl rfl ?_
          refine wl_move rfl rfl ?_
          rcases bE ((List.length u39 : Int) == 0) with h47 | h47
          · replace hF := ifP h47 hF
            refine wl_on rfl rfl h47 ?_
            refine wl_field (o := 1) (off' := 1) ff_30_1 rfl rfl rfl ?_
            refine wl_on rfl rfl h47 ?_
            refine wl_load_blk (i := 1) (vs := [v0_1]) (v := v0_1) tf_23 rfl rfl hS45 rfl rfl rfl ?_
            refine wl_on rfl rfl h47 ?_
            refine wl_field (o := 1) (off' := 1) ff_30_1 rfl rfl rfl ?_
            refine wl_on rfl rfl h47 ?_
            refine wl_load_blk (i := 2) (vs := [v1_1]) (v := v1_1) tf_23 rfl rfl hS45 rfl rfl rfl ?_
            refine wl_on rfl rfl h47 ?_
            obtain ⟨u48, hu48, hF⟩ := bindE hF
            refine wl_call rfl Try.call89 (C_spec_l1Same w42 x0.2.1 v0_1 (h0_1.ro hB44) x1.2.1 v1_1 (h1_1.ro hB44) _ hu48) rfl ?_
            rintro _ w49 ⟨rfl, hb50⟩
            refine ⟨_, rfl, ?_⟩
            have hB51 := hB44.trans (hb50.mono hB44.size)
            have hS52 := hS45.below hb50
            refine wl_pick_t rfl rfl h47 rfl ?_
            refine wl_move rfl rfl ?_
            rcases bE u48 with h54 | h54
            · replace hF := ifP h54 hF
              refine wl_on rfl rfl h54 ?_
              refine wl_field (o := 2) (off' := 2) ff_30_2 rfl rfl rfl ?_
              refine wl_on rfl rfl h54 ?_
              refine wl_load_blk (i := 1) (vs := [(.int .i64 x0.2.2.1)]) (v := (.int .i64 x0.2.2.1)) tf_3 rfl rfl hS52 rfl rfl rfl ?_
              refine wl_on rfl rfl h54 ?_
              refine wl_field (o := 2) (off' := 2) ff_30_2 rfl rfl rfl ?_
              refine wl_on rfl rfl h54 ?_
              refine wl_load_blk (i := 2) (vs := [(.int .i64 x1.2.2.1)]) (v := (.int .i64 x1.2.2.1)) tf_3 rfl rfl hS52 rfl rfl rfl ?_
              refine wl_on rfl rfl h54 ?_
              refine wl_eql rfl rfl rfl ?_
              refine wl_pick_t rfl rfl h54 rfl ?_
              refine wl_move rfl rfl ?_
              rcases bE (x0.2.2.1 == x1.2.2.1) with h55 | h55
              · replace hF := ifP h55 hF
                refine wl_on rfl rfl h55 ?_
                refine wl_field (o := 3) (off' := 3) ff_30_3 rfl rfl rfl ?_
                refine wl_on rfl rfl h55 ?_
                refine wl_load_blk (i := 1) (vs := [(.int .i64 x0.2.2.2)]) (v := (.int .i64 x0.2.2.2)) tf_3 rfl rfl hS52 rfl rfl rfl ?_
                refine wl_on rfl rfl h55 ?_
                refine wl_field (o := 3) (off' := 3) ff_30_3 rfl rfl rfl ?_
                refine wl_on rfl rfl h55 ?_
                refine wl_load_blk (i := 2) (vs := [(.int .i64 x1.2.2.2)]) (v := (.int .i64 x1.2.2.2)) tf_3 rfl rfl hS52 rfl rfl rfl ?_
                refine wl_on rfl rfl h55 ?_
                refine wl_eql rfl rfl rfl ?_
                refine wl_pick_t rfl rfl h55 rfl ?_
                refine wl_assign rfl rfl ?_
                refine wl_assign rfl rfl ?_
                refine WL.nil ?_
                exact fun a ha => hJ38 ((x0.2.2.2 == x1.2.2.2)) _ hF hB51 (hS52.sel [] rfl) a (ha.sub ⟨rfl, rfl, trivial⟩)
              · replace hF := ifN h55 hF
                refine wl_off rfl rfl rfl h55 ?_
                refine wl_off rfl rfl rfl h55 ?_
                refine wl_off rfl rfl rfl h55 ?_
                refine wl_off rfl rfl rfl h55 ?_
                refine wl_off rfl rfl rfl h55 ?_
                refine wl_pick_f rfl rfl h55 rfl ?_
                refine wl_assign rfl rfl ?_
                refine wl_assign rfl rfl ?_
                refine WL.nil ?_
                exact fun a ha => hJ38 (false) _ hF hB51 (hS52.sel [] rfl) a (ha.sub ⟨rfl, rfl, trivial⟩)
            · replace hF := ifN h54 hF
              refine wl_off rfl rfl rfl h54 ?_
              refine wl_off rfl rfl rfl h54 ?_
              refine wl_off rfl rfl rfl h54 ?_
              refine wl_off rfl rfl rfl h54 ?_
              refine wl_off rfl rfl rfl h54 ?_
              refine wl_pick_f rfl rfl h54 rfl ?_
              refine wl_move rfl rfl ?_
              refine wl_off rfl rfl rfl rfl ?_
              refine wl_off rfl rfl rfl rfl ?_
              refine wl_off rfl rfl rfl rfl ?_
              refine wl_off rfl rfl rfl rfl ?_
              refine wl_off rfl rfl rfl rfl ?_
              refine wl_pick_f rfl rfl rfl rfl ?_
              refine wl_assign rfl rfl ?_
              refine wl_assign rfl rfl ?_
              refine WL.nil ?_
              exact fun a ha => hJ38 (false) _ hF hB51 (hS52.sel [] rfl) a (ha.sub ⟨rfl, rfl, trivial⟩)
          · replace hF := ifN h47 hF
            refine wl_off rfl rfl rfl h47 ?_
            refine wl_off rfl rfl rfl h47 ?_
            refine wl_off rfl rfl rfl h47 ?_
            refine wl_off rfl rfl rfl h47 ?_
            refine wl_off rfl rfl rfl h47 ?_
            refine wl_pick_f rfl rfl h47 rfl ?_
            refine wl_move rfl rfl ?_
            refine wl_off rfl rfl rfl rfl ?_
            refine wl_off rfl rfl rfl rfl ?_
            refine wl_off rfl rfl rfl rfl ?_
            refine wl_off rfl rfl rfl rfl ?_
            refine wl_off rfl rfl rfl rfl ?_
            refine wl_pick_f rfl rfl rfl rfl ?_
            refine wl_move rfl rfl ?_
            refine wl_off rfl rfl rfl rfl ?_
            refine wl_off rfl rfl rfl rfl ?_
            refine wl_off rfl rfl rfl rfl ?_
            refine wl_off rfl rfl rfl rfl ?_
            refine wl_off rfl rfl rfl rfl ?_
            refine wl_pick_f rfl rfl rfl rfl ?_
            refine wl_assign rfl rfl ?_
            refine wl_assign rfl rfl ?_
            refine WL.nil ?_
            exact fun a ha => hJ38 (false) _ hF hB44 (hS45.sel [] rfl) a (ha.sub ⟨rfl, rfl, trivial⟩)
      refine W.regionH mixed_ [] hB15 hS16 ?_
      intro w56 hb57 hB58 hS59
      have hSW60 := KeepX.refl w56 []
      refine WH.takex (i := 0) rfl (by kernel_rfl) (by kernel_rfl) (by kernel_rfl) hP hSW60 ?_
      refine pr_field (o := 0) (off' := 0) ff_30_0 rfl rfl rfl ?_
      refine WH.takex (i := 1) rfl (by kernel_rfl) (by kernel_rfl) (by kernel_rfl) hP hSW60 ?_
      refine pr_load_blk (i := 0) (vs := [v0_0]) (v := v0_0) tf_28 rfl rfl hS59 rfl rfl rfl (by simp) ?_
      refine WH.takex (i := 2) rfl (by kernel_rfl) (by kernel_rfl) (by kernel_rfl) hP hSW60 ?_
      refine pr_lenr (e := ty_109) (l := x0.1) Try.underlying28 rfl rfl h0_0 ?_
      refine WH.takex (i := 3) rfl (by kernel_rfl) (by kernel_rfl) (by kernel_rfl) hP hSW60 ?_
      refine pr_field (o := 0) (off' := 0) ff_30_0 rfl rfl rfl ?_
      refine WH.takex (i := 4) rfl (by kernel_rfl) (by kernel_rfl) (by kernel_rfl) hP hSW60 ?_
      refine pr_load_blk (i := 1) (vs := [v1_0]) (v := v1_0) tf_28 rfl rfl hS59 rfl rfl rfl (by simp) ?_
      refine WH.takex (i := 5) rfl (by kernel_rfl) (by kernel_rfl) (by kernel_rfl) hP hSW60 ?_
      refine pr_lenr (e := ty_109) (l := x1.1) Try.underlying28 rfl rfl h1_0 ?_
      refine WH.takex (i := 6) rfl (by kernel_rfl) (by kernel_rfl) (by kernel_rfl) hP hSW60 ?_
      refine pr_neq rfl rfl rfl ?_
      refine WH.takex (i := 7) rfl (by kernel_rfl) (by kernel_rfl) (by kernel_rfl) hP hSW60 ?_
      refine pr_move rfl rfl ?_
      rcases bE ((List.length x0.1 : Int) != (List.length x1.1 : Int)) with h61 | h61
      · replace hF := ifP h61 hF
        refine WH.off (i := 8) rfl (by kernel_rfl) (by kernel_rfl) (by kernel_rfl) hP rfl rfl h61 rfl hSW60 ?_
        refine WH.off (i := 9) rfl (by kernel_rfl) (by kernel_rfl) (by kernel_rfl) hP rfl rfl h61 rfl hSW60 ?_
        refine WH.off (i := 10) rfl (by kernel_rfl) (by kernel_rfl) (by kernel_rfl) hP rfl rfl h61 rfl hSW60 ?_
        refine WH.off (i := 11) rfl (by kernel_rfl) (by kernel_rfl) (by kernel_rfl) hP rfl rfl h61 rfl hSW60 ?_
        refine WH.off (i := 12) rfl (by kernel_rfl) (by kernel_rfl) (by kernel_rfl) hP rfl rfl h61 rfl hSW60 ?_
        refine WH.off (i := 13) rfl (by kernel_rfl) (by kernel_rfl) (by kernel_rfl) hP rfl rfl h61 rfl hSW60 ?_
        refine WH.off (i := 14) rfl (by kernel_rfl) (by kernel_rfl) (by kernel_rfl) hP rfl rfl h61 rfl hSW60 ?_
        refine WH.off (i := 15) rfl (by kernel_rfl) (by kernel_rfl) (by kernel_rfl) hP rfl rfl h61 rfl hSW60 ?_
        refine WH.off (i := 16) rfl (by kernel_rfl) (by kernel_rfl) (by kernel_rfl) hP rfl rfl h61 rfl hSW60 ?_
        refine WH.off (i := 17) rfl (by kernel_rfl) (by kernel_rfl) (by kernel_rfl) hP rfl rfl h61 rfl hSW60 ?_
        refine WH.off (i := 18) rfl (by kernel_rfl) (by kernel_rfl) (by kernel_rfl) hP rfl rfl h61 rfl hSW60 ?_
        refine WH.takex (i := 19) rfl (by kernel_rfl) (by kernel_rfl) (by kernel_rfl) hP hSW60 ?_
        refine pr_pick_t rfl rfl h61 rfl ?_
        refine WH.done (by kernel_rfl) ?_
        exact fun a ha => hJ29 (true) _ hF hB58 (hS59.sel [0, 1] rfl) a (ha.sub ⟨rfl, rfl, rfl, trivial⟩)
      · replace hF := ifN h61 hF
        refine WH.takexg (i := 8) rfl (by kernel_rfl) (by kernel_rfl) (by kernel_rfl) hP rfl rfl h61 hSW60 ?_
        refine pr_field (o := 0) (off' := 0) ff_30_0 rfl rfl rfl ?_
        refine WH.takexg (i := 9) rfl (by kernel_rfl) (by kernel_rfl) (by kernel_rfl) hP rfl rfl h61 hSW60 ?_
        refine pr_load_blk (i := 0) (vs := [v0_0]) (v := v0_0) tf_28 rfl rfl hS59 rfl rfl rfl (by simp) ?_
        obtain ⟨u62, hu62, hF⟩ := bindE hF
        refine WH.takexg (i := 10) rfl (by kernel_rfl) (by kernel_rfl) (by kernel_rfl) hP rfl rfl h61 hSW60 ?_
        refine pr_index (e := ty_109) Try.underlying28 rfl rfl rfl h0_0 hu62 ?_
        rintro p63 _ ⟨v65, rfl, hv66⟩ hp64
        refine WH.takexg (i := 11) rfl (by kernel_rfl) (by kernel_rfl) (by kernel_rfl) hP rfl rfl h61 hSW60 ?_
        refine pr_load_p (vs := [v65]) (v := v65) tf_109 rfl rfl (hp64.kx hB58 (by simp)) rfl rfl ?_
        refine WH.takexg (i := 12) rfl (by kernel_rfl) (by kernel_rfl) (by kernel_rfl) hP rfl rfl h61 hSW60 ?_
        refine pr_lenr (e := ty_105) (l := u62) Try.underlying109 rfl rfl hv66 ?_
        refine WH.takexg (i := 13) rfl (by kernel_rfl) (by kernel_rfl) (by kernel_rfl) hP rfl rfl h61 hSW60 ?_
        refine pr_field (o := 0) (off' := 0) ff_30_0 rfl rfl rfl ?_
        refine WH.takexg (i := 14) rfl (by kernel_rfl) (by kernel_rfl) (by kernel_rfl) hP rfl rfl h61 hSW60 ?_
        refine pr_load_blk (i := 1) (vs := [v1_0]) (v := v1_0) tf_28 rfl rfl hS59 rfl rfl rfl (by simp) ?_
        obtain ⟨u67, hu67, hF⟩ := bindE hF
        refine WH.takexg (i := 15) rfl (by kernel_rfl) (by kernel_rfl) (by kernel_rfl) hP rfl rfl h61 hSW60 ?_
        refine pr_index (e := ty_109) Try.underlying28 rfl rfl rfl h1_0 hu67 ?_
        rintro p68 _ ⟨v70, rfl, hv71⟩ hp69
        refine WH.takexg (i := 16) rfl (by kernel_rfl) (by kernel_rfl) (by kernel_rfl) hP rfl rfl h61 hSW60 ?_
        refine pr_load_p (vs := [v70]) (v := v70) tf_109 rfl rfl (hp69.kx hB58 (by simp)) rfl rfl ?_
        refine WH.takexg (i := 17) rfl (by kernel_rfl) (by kernel_rfl) (by kernel_rfl) hP rfl rfl h61 hSW60 ?_
        refine pr_lenr (e := ty_105) (l := u67) Try.underlying109 rfl rfl hv71 ?_
        refine WH.takexg (i := 18) rfl (by kernel_rfl) (by kernel_rfl) (by kernel_rfl) hP rfl rfl h61 hSW60 ?_
        refine pr_neq rfl rfl rfl ?_
        refine WH.takex (i := 19) rfl (by kernel_rfl) (by kernel_rfl) (by kernel_rfl) hP hSW60 ?_
        refine pr_pick_f rfl rfl h61 rfl ?_
        refine WH.done (by kernel_rfl) ?_
        exact fun a ha => hJ29 (((List.length u62 : Int) != (List.length u67 : Int))) _ hF hB58 (hS59.sel [0, 1] rfl) a (ha.sub ⟨rfl, rfl, rfl, trivial⟩)
  refine W.region ?_
  refine wl_load_blk (i := 1) (vs := [v0_0, v0_1, (.int .i64 x0.2.2.1), (.int .i64 x0.2.2.2)]) (v := (.agg #[v0_0, v0_1, (.int .i64 x0.2.2.1), (.int .i64 x0.2.2.2)])) tf_30 rfl rfl hS11 rfl rfl rfl ?_
  obtain ⟨u72, hu72, hF⟩ := bindE hF
  refine wl_call rfl Try.call62 (C_spec_swGood w8 x0 v0_0 (h0_0.ro hB10) v0_1 (h0_1.ro hB10) _ hu72) rfl ?_
  rintro _ w73 ⟨rfl, hb74⟩
  refine ⟨_, rfl, ?_⟩
  have hB75 := hB10.trans (hb74.mono hB10.size)
  have hS76 := hS11.below hb74
  refine wl_not rfl rfl ?_
  refine wl_move rfl rfl ?_
  rcases bE (!u72) with h78 | h78
  · replace hF := ifP h78 hF
    refine wl_off rfl rfl rfl h78 ?_
    refine wl_off rfl rfl rfl h78 ?_
    refine wl_off rfl rfl rfl h78 ?_
    refine wl_pick_t rfl rfl h78 rfl ?_
    refine WL.nil ?_
    exact fun a ha => hJ19 (true) _ hF hB75 (hS76.sel [1, 0] rfl) a (ha.sub ⟨rfl, rfl, rfl, trivial⟩)
  · replace hF := ifN h78 hF
    refine wl_on rfl rfl h78 ?_
    refine wl_load_blk (i := 0) (vs := [v1_0, v1_1, (.int .i64 x1.2.2.1), (.int .i64 x1.2.2.2)]) (v := (.agg #[v1_0, v1_1, (.int .i64 x1.2.2.1), (.int .i64 x1.2.2.2)])) tf_30 rfl rfl hS76 rfl rfl rfl ?_
    refine wl_on rfl rfl h78 ?_
    obtain ⟨u79, hu79, hF⟩ := bindE hF
    refine wl_call rfl Try.call62 (C_spec_swGood w73 x1 v1_0 (h1_0.ro hB75) v1_1 (h1_1.ro hB75) _ hu79) rfl ?_
    rintro _ w80 ⟨rfl, hb81⟩
    refine ⟨_, rfl, ?_⟩
    have hB82 := hB75.trans (hb81.mono hB75.size)
    have hS83 := hS76.below hb81
    refine wl_on rfl rfl h78 ?_
    refine wl_not rfl rfl ?_
    refine wl_pick_f rfl rfl h78 rfl ?_
    refine WL.nil ?_
    exact fun a ha => hJ19 ((!u79)) _ hF hB82 (hS83.sel [1, 0] rfl) a (ha.sub ⟨rfl, rfl, rfl, trivial⟩)
theorem C_slices_Equal_int_int (w0 : World) (x0 : (List Int)) (v0_0 : Value) (h0_0 : rdS ty_3 (· < w0.heap.size) w0 v0_0 x0) (x1 : (List Int)) (v1_0 : Value) (h1_0 : rdS ty_3 (· < w0.heap.size) w0 v1_0 x1) (r : Bool) (hF : F_slices_Equal_int_int x0 x1 = some r) :
    Calls Try.prog 90 [v0_0, v1_0].toArray w0 fun e w' => e = .returned (.bool r) ∧ Below w0.heap.size w0 w' := by
  refine calls_mk' Try.func90 rfl Try.ntmps90 rfl rfl fun Q hQ hP => ?_
  have hB : Below w0.heap.size w0 w0 := Below.refl _ _
  have hS : Sep w0.heap.size w0 [] := Sep.nil _ _
  unfold F_slices_Equal_int_int at hF
  refine W.seq fun K1 hK1 => ?_
  refine W.region ?_
  refine wl_assign rfl rfl ?_
  refine WL.nil ?_
  refine fun a ha => hK1 _ _ ?_ a ha
  refine W.seq fun K2 hK2 => ?_
  refine W.seq fun K3 hK3 => ?_
  refine W.region ?_
  refine wl_move rfl rfl ?_
  refine wl_lenr (e := ty_3) (l := x0) Try.underlying23 rfl rfl h0_0 ?_
  refine wl_move rfl rfl ?_
  refine wl_lenr (e := ty_3) (l := x1) Try.underlying23 rfl rfl h1_0 ?_
  refine wl_neq rfl rfl rfl ?_
  refine WL.nil ?_
  refine fun a ha => hK3 _ _ ?_ a ha
  refine W.cond rfl (fun h4 => ?_) (fun h4 => ?_)
  · replace hF := ifP h4 hF
    refine W.seq fun K5 hK5 => ?_
    refine W.region ?_
    refine wl_assign rfl rfl ?_
    refine WL.nil ?_
    refine fun a ha => hK5 _ _ ?_ a ha
    refine W.ret ?_
    have hr := Option.some.inj hF
    subst hr
    exact rets (vs := [(.bool false)]) hQ rfl ⟨rv_tmp rfl, trivial⟩ ⟨rfl, hB⟩
  · replace hF := ifN h4 hF
    refine W.skip ?_
    refine fun a ha => hK2 _ _ ?_ a ha
    refine W.seq fun K6 hK6 => ?_
    refine W.seq fun K7 hK7 => ?_
    refine W.region ?_
    refine wl_move rfl rfl ?_
    refine wl_lenr (e := ty_3) (l := x0) Try.underlying23 rfl rfl h0_0 ?_
    refine wl_move rfl rfl ?_
    refine WL.nil ?_
    refine fun a ha => hK7 _ _ ?_ a ha
    refine W.block ?_
    refine W.loopk (fun m a w8 => ∃ (y11 : Int), St 26 [(0, v0_0), (1, v1_0), (12, (.int .i64 (List.length x0 : Int))), (13, (.int .i64 y11))] a ∧ Below w0.heap.size w0 w8 ∧ Sep w0.heap.size w8 [] ∧ F_slices_Equal_int_int_L1 x0 x1 m y11 = some r) FU ?_ ?_
    ·
      exact fun a ha => ⟨0, ha.sub ⟨rfl, rfl, rfl, rfl, trivial⟩, hB, (hS.sel [] rfl), hF⟩
    ·
      rintro m14 a w8 ⟨y11, ha, hB9, hS10, hF⟩ KL13 hKL13
      refine W.at ?_ ha
      cases m14 with
      | zero => exact noneE hF
      | succ m14 =>
        obtain ⟨nx12, hnx12⟩ : ∃ k, k = F_slices_Equal_int_int_L1 x0 x1 m14 := ⟨_, rfl⟩
        rw [F_slices_Equal_int_int_L1, ← hnx12] at hF
        refine W.seq fun K15 hK15 => ?_
        refine W.region ?_
        refine wl_lss rfl rfl rfl ?_
        refine WL.nil ?_
        refine fun a ha => hK15 _ _ ?_ a ha
        refine W.seq fun K16 hK16 => ?_
        refine W.cond rfl (fun h17 => ?_) (fun h17 => ?_)
        · replace hF := ifP h17 hF
          refine W.skip ?_
          refine fun a ha => hK16 _ _ ?_ a ha
          refine W.seq fun K18 hK18 => ?_
          refine W.block ?_
          refine W.seq fun K19 hK19 => ?_
          refine W.region ?_
          refine wl_move rfl rfl ?_
          refine wl_assign rfl rfl ?_
          refine WL.nil ?_
          refine fun a ha => hK19 _ _ ?_ a ha
          refine W.seq fun K20 hK20 => ?_
          refine W.regionH mixed_ [] hB9 hS10 ?_
          intro w21 hb22 hB23 hS24
          have hSW25 := KeepX.refl w21 []
          refine WH.takex (i := 0) rfl (by kernel_rfl) (by kernel_rfl) (by kernel_rfl) hP hSW25 ?_
          refine pr_move rfl rfl ?_
          refine WH.takex (i := 1) rfl (by kernel_rfl) (by kernel_rfl) (by kernel_rfl) hP hSW25 ?_
          refine pr_move rfl rfl ?_
          obtain ⟨u26, hu26, hF⟩ := bindE hF
          refine WH.takex (i := 2) rfl (by kernel_rfl) (by kernel_rfl) (by kernel_rfl) hP hSW25 ?_
          refine pr_index (e := ty_3) Try.underlying23 rfl rfl rfl h0_0 hu26 ?_
          rintro p27 _ rfl hp28
          refine WH.takex (i := 3) rfl (by kernel_rfl) (by kernel_rfl) (by kernel_rfl) hP hSW25 ?_
          refine pr_load_p (vs := [(.int .i64 u26)]) (v := (.int .i64 u26)) tf_3 rfl rfl (hp28.kx hB23 (by simp)) rfl rfl ?_
          refine WH.takex (i := 4) rfl (by kernel_rfl) (by kernel_rfl) (by kernel_rfl) hP hSW25 ?_
          refine pr_move rfl rfl ?_
          refine WH.takex (i := 5) rfl (by kernel_rfl) (by kernel_rfl) (by kernel_rfl) hP hSW25 ?_
          refine pr_move rfl rfl ?_
          obtain ⟨u29, hu29, hF⟩ := bindE hF
          refine WH.takex (i := 6) rfl (by kernel_rfl) (by kernel_rfl) (by kernel_rfl) hP hSW25 ?_
          refine pr_index (e := ty_3) Try.underlying23 rfl rfl rfl h1_0 hu29 ?_
          rintro p30 _ rfl hp31
          refine WH.takex (i := 7) rfl (by kernel_rfl) (by kernel_rfl) (by kernel_rfl) hP hSW25 ?_
          refine pr_load_p (vs := [(.int .i64 u29)]) (v := (.int .i64 u29)) tf_3 rfl rfl (hp31.kx hB23 (by simp)) rfl rfl ?_
          refine WH.takex (i := 8) rfl (by kernel_rfl) (by kernel_rfl) (by kernel_rfl) hP hSW25 ?_
          refine pr_neq rfl rfl rfl ?_
          refine WH.done (by kernel_rfl) ?_
          refine fun a ha => hK20 _ _ ?_ a ha
          refine W.cond rfl (fun h32 => ?_) (fun h32 => ?_)
          · replace hF := ifP h32 hF
            refine W.seq fun K33 hK33 => ?_
            refine W.region ?_
            refine wl_assign rfl rfl ?_
            refine WL.nil ?_
            refine fun a ha => hK33 _ _ ?_ a ha
            refine W.ret ?_
            have hr := Option.some.inj hF
            subst hr
            exact rets (vs := [(.bool false)]) hQ rfl ⟨rv_tmp rfl, trivial⟩ ⟨rfl, hB23⟩
          · replace hF := ifN h32 hF
            refine W.skip ?_
            refine fun a ha => hK18 _ _ ?_ a ha
            refine W.region ?_
            refine wl_add rfl rfl rfl ?_
            refine wl_move rfl rfl ?_
            refine WL.nil ?_
            rw [hnx12] at hF
            exact fun a ha => hKL13 a _ m14 (Nat.lt_succ_self m14) ⟨(w64 (y11 + 1)), ha.sub ⟨rfl, rfl, rfl, rfl, trivial⟩, hB23, (hS24.sel [] rfl), hF⟩
        · replace hF := ifN h17 hF
          refine W.exit ?_
          refine fun a ha => hK6 _ _ ?_ a ha
          refine W.seq fun K34 hK34 => ?_
          refine W.region ?_
          refine wl_assign rfl rfl ?_
          refine WL.nil ?_
          refine fun a ha => hK34 _ _ ?_ a ha
          refine W.ret ?_
          have hr := Option.some.inj hF
          subst hr
          exact rets (vs := [(.bool true)]) hQ rfl ⟨rv_tmp rfl, trivial⟩ ⟨rfl, hB9⟩
theorem C_slices_Equal_impl_Spot_impl_Spot (w0 : World) (x0 : (List (Int × Int))) (v0_0 : Value) (h0_0 : rdS ty_105 (· < w0.heap.size) w0 v0_0 x0) (x1 : (List (Int × Int))) (v1_0 : Value) (h1_0 : rdS ty_105 (· < w0.heap.size) w0 v1_0 x1) (r : Bool) (hF : F_slices_Equal_impl_Spot_impl_Spot x0 x1 = some r) :
    Calls Try.prog 91 [v0_0, v1_0].toArray w0 fun e w' => e = .returned (.bool r) ∧ Below w0.heap.size w0 w' := by
  refine calls_mk' Try.func91 rfl Try.ntmps91 rfl rfl fun Q hQ hP => ?_
  have hB : Below w0.heap.size w0 w0 := Below.refl _ _
  have hS : Sep w0.heap.size w0 [] := Sep.nil _ _
  unfold F_slices_Equal_impl_Spot_impl_Spot at hF
  refine W.seq fun K1 hK1 => ?_
  refine W.region ?_
  refine wl_assign rfl rfl ?_
  refine WL.nil ?_
  refine fun a ha => hK1 _ _ ?_ a ha
  refine W.seq fun K2 hK2 => ?_
  refine W.seq fun K3 hK3 => ?_
  refine W.region ?_
  refine wl_move rfl rfl ?_
  refine wl_lenr (e := ty_105) (l := x0) Try.underlying109 rfl rfl h0_0 ?_
  refine wl_move rfl rfl ?_
  refine wl_lenr (e := ty_105) (l := x1) Try.underlying109 rfl rfl h1_0 ?_
  refine wl_neq rfl rfl rfl ?_
  refine WL.nil ?_
  refine fun a ha => hK3 _ _ ?_ a ha
  refine W.cond rfl (fun h4 => ?_) (fun h4 => ?_)
  · replace hF := ifP h4 hF
    refine W.seq fun K5 hK5 => ?_
    refine W.region ?_
    refine wl_assign rfl rfl ?_
    refine WL.nil ?_
    refine fun a ha => hK5 _ _ ?_ a ha
    refine W.ret ?_
    have hr := Option.some.inj hF
    subst hr
    exact rets (vs := [(.bool false)]) hQ rfl ⟨rv_tmp rfl, trivial⟩ ⟨rfl, hB⟩
  · replace hF := ifN h4 hF
    refine W.skip ?_
    refine fun a ha => hK2 _ _ ?_ a ha
    refine W.seq fun K6 hK6 => ?_
    refine W.seq fun K7 hK7 => ?_
    refine W.region ?_
    refine wl_move rfl rfl ?_
    refine wl_lenr (e := ty_105) (l := x0) Try.underlying109 rfl rfl h0_0 ?_
    refine wl_move rfl rfl ?_
    refine WL.nil ?_
    refine fun a ha => hK7 _ _ ?_ a ha
    refine W.block ?_
    refine W.loopk (fun m a w8 => ∃ (y11 : Int), St 26 [(0, v0_0), (1, v1_0), (12, (.int .i64 (List.length x0 : Int))), (13, (.int .i64 y11))] a ∧ Below w0.heap.size w0 w8 ∧ Sep w0.heap.size w8 [] ∧ F_slices_Equal_impl_Spot_impl_Spot_L1 x0 x1 m y11 = some r) FU ?_ ?_
    ·
      exact fun a ha => ⟨0, ha.sub ⟨rfl, rfl, rfl, rfl, trivial⟩, hB, (hS.sel [] rfl), hF⟩
    ·
      rintro m14 a w8 ⟨y11, ha, hB9, hS10, hF⟩ KL13 hKL13
      refine W.at ?_ ha
      cases m14 with
      | zero => exact noneE hF
      | succ m14 =>
        obtain ⟨nx12, hnx12⟩ : ∃ k, k = F_slices_Equal_impl_Spot_impl_Spot_L1 x0 x1 m14 := ⟨_, rfl⟩
        rw [F_slices_Equal_impl_Spot_impl_Spot_L1, ← hnx12] at hF
        refine W.seq fun K15 hK15 => ?_
        refine W.region ?_
        refine wl_lss rfl rfl rfl ?_
        refine WL.nil ?_
        refine fun a ha => hK15 _ _ ?_ a ha
        refine W.seq fun K16 hK16 => ?_
        refine W.cond rfl (fun h17 => ?_) (fun h17 => ?_)
        · replace hF := ifP h17 hF
          refine W.skip ?_
          refine fun a ha => hK16 _ _ ?_ a ha
          refine W.seq fun K18 hK18 => ?_
          refine W.block ?_
          refine W.seq fun K19 hK19 => ?_
          refine W.region ?_
          refine wl_move rfl rfl ?_
          refine wl_assign rfl rfl ?_
          refine WL.nil ?_
          refine fun a ha => hK19 _ _ ?_ a ha
          refine W.seq fun K20 hK20 => ?_
          refine W.regionH mixed_ [] hB9 hS10 ?_
          intro w21 hb22 hB23 hS24
          have hSW25 := KeepX.refl w21 []
          refine WH.takex (i := 0) rfl (by kernel_rfl) (by kernel_rfl) (by kernel_rfl) hP hSW25 ?_
          refine pr_move rfl rfl ?_
          refine WH.takex (i := 1) rfl (by kernel_rfl) (by kernel_rfl) (by kernel_rfl) hP hSW25 ?_
          refine pr_move rfl rfl ?_
          obtain ⟨u26, hu26, hF⟩ := bindE hF
          refine WH.takex (i := 2) rfl (by kernel_rfl) (by kernel_rfl) (by kernel_rfl) hP hSW25 ?_
          refine pr_index (e := ty_105) Try.underlying109 rfl rfl rfl h0_0 hu26 ?_
          rintro p27 _ rfl hp28
          refine WH.takex (i := 3) rfl (by kernel_rfl) (by kernel_rfl) (by kernel_rfl) hP hSW25 ?_
          refine pr_load_p (vs := [(.int .i64 u26.1), (.int .i64 u26.2)]) (v := (.agg #[(.int .i64 u26.1), (.int .i64 u26.2)])) tf_105 rfl rfl (hp28.kx hB23 (by simp)) rfl rfl ?_
          refine WH.takex (i := 4) rfl (by kernel_rfl) (by kernel_rfl) (by kernel_rfl) hP hSW25 ?_
          refine pr_move rfl rfl ?_
          refine WH.takex (i := 5) rfl (by kernel_rfl) (by kernel_rfl) (by kernel_rfl) hP hSW25 ?_
          refine pr_move rfl rfl ?_
          obtain ⟨u29, hu29, hF⟩ := bindE hF
          refine WH.takex (i := 6) rfl (by kernel_rfl) (by kernel_rfl) (by kernel_rfl) hP hSW25 ?_
          refine pr_index (e := ty_105) Try.underlying109 rfl rfl rfl h1_0 hu29 ?_
          rintro p30 _ rfl hp31
          refine WH.takex (i := 7) rfl (by kernel_rfl) (by kernel_rfl) (by kernel_rfl) hP hSW25 ?_
          refine pr_load_p (vs := [(.int .i64 u29.1), (.int .i64 u29.2)]) (v := (.agg #[(.int .i64 u29.1), (.int .i64 u29.2)])) tf_105 rfl rfl (hp31.kx hB23 (by simp)) rfl rfl ?_
          refine WH.takex (i := 8) rfl (by kernel_rfl) (by kernel_rfl) (by kernel_rfl) hP hSW25 ?_
          refine pr_nes Try.eqGuardType105 (eq_105 u26 u29) rfl rfl rfl ?_
          refine WH.done (by kernel_rfl) ?_
          refine fun a ha => hK20 _ _ ?_ a ha
          refine W.cond rfl (fun h32 => ?_) (fun h32 => ?_)
          · replace hF := ifP h32 hF
            refine W.seq fun K33 hK33 => ?_
            refine W.region ?_
            refine wl_assign rfl rfl ?_
            refine WL.nil ?_
            refine fun a ha => hK33 _ _ ?_ a ha
            refine W.ret ?_
            have hr := Option.some.inj hF
            subst hr
            exact rets (vs := [(.bool false)]) hQ rfl ⟨rv_tmp rfl, trivial⟩ ⟨rfl, hB23⟩
          · replace hF := ifN h32 hF
            refine W.skip ?_
            refine fun a ha => hK18 _ _ ?_ a ha
            refine W.region ?_
            refine wl_add rfl rfl rfl ?_
            refine wl_move rfl rfl ?_
            refine WL.nil ?_
            rw [hnx12] at hF
            exact fun a ha => hKL13 a _ m14 (Nat.lt_succ_self m14) ⟨(w64 (y11 + 1)), ha.sub ⟨rfl, rfl, rfl, rfl, trivial⟩, hB23, (hS24.sel [] rfl), hF⟩
        · replace hF := ifN h17 hF
          refine W.exit ?_
          refine fun a ha => hK6 _ _ ?_ a ha
          refine W.seq fun K34 hK34 => ?_
          refine W.region ?_
          refine wl_assign rfl rfl ?_
          refine WL.nil ?_
          refine fun a ha => hK34 _ _ ?_ a ha
          refine W.ret ?_
          have hr := Option.some.inj hF
          subst hr
          exact rets (vs := [(.bool true)]) hQ rfl ⟨rv_tmp rfl, trivial⟩ ⟨rfl, hB9⟩
theorem C_impl_SameShows (w0 : World) (x0 : ((List (List (Int × Int))) × (List Int) × Int × Int)) (v0_0 : Value) (h0_0 : rdS ty_109 (· < w0.heap.size) w0 v0_0 x0.1) (v0_1 : Value) (h0_1 : rdS ty_3 (· < w0.heap.size) w0 v0_1 x0.2.1) (x1 : ((List (List (Int × Int))) × (List Int) × Int × Int)) (v1_0 : Value) (h1_0 : rdS ty_109 (· < w0.heap.size) w0 v1_0 x1.1) (v1_1 : Value) (h1_1 : rdS ty_3 (· < w0.heap.size) w0 v1_1 x1.2.1) (r : (Bool × Bool)) (hF : F_impl_SameShows x0 x1 = some r) :
    Calls Try.prog 42 [(.agg #[v0_0, v0_1, (.int .i64 x0.2.2.1), (.int .i64 x0.2.2.2)]), (.agg #[v1_0, v1_1, (.int .i64 x1.2.2.1), (.int .i64 x1.2.2.2)])].toArray w0 fun e w' => e = .returned (.tuple #[(.bool r.1), (.bool r.2)]) ∧ Below w0.heap.size w0 w' := by
  refine calls_mk' Try.func42 rfl Try.ntmps42 rfl rfl fun Q hQ hP => ?_
  have hB : Below w0.heap.size w0 w0 := Below.refl _ _
  have hS : Sep w0.heap.size w0 [] := Sep.nil _ _
  unfold F_impl_SameShows at hF
  refine W.seq fun K1 hK1 => ?_
  refine W.region ?_
  refine wl_box (cs := [v0_0, v0_1, (.int .i64 x0.2.2.1), (.int .i64 x0.2.2.2)]) rfl rfl rfl hB hS ?_
  intro b2 w3 hb4 hB5 hS6
  refine wl_box (cs := [v1_0, v1_1, (.int .i64 x1.2.2.1), (.int .i64 x1.2.2.2)]) rfl rfl rfl hB5 hS6 ?_
  intro b7 w8 hb9 hB10 hS11
  refine wl_assign rfl rfl ?_
  refine wl_assign rfl rfl ?_
  refine WL.nil ?_
  refine fun a ha => hK1 _ _ ?_ a ha
  refine W.seq fun K12 hK12 => ?_
  refine W.seq fun K13 hK13 => ?_
  obtain ⟨k18, hk18, hF⟩ := jE1 hF
  have hJ19 : ∀ (y17 : Bool) (w14 : World) (_ : k18 y17 = some r) (_ : Below w0.heap.size w0 w14) (_ : Sep w0.heap.size w14 [R.blk b2 30 [v0_0, v0_1, (.int .i64 x0.2.2.1), (.int .i64 x0.2.2.2)], R.blk b7 30 [v1_0, v1_1, (.int .i64 x1.2.2.1), (.int .i64 x1.2.2.2)]]), ∀ a, St 63 [(2, (.pointer (some ⟨b2, 0, none⟩))), (3, (.pointer (some ⟨b7, 0, none⟩))), (14, (.bool y17))] a → K13 a w14 := by
    intro y17 w14 hF hB15 hS16
    subst hk18
    refine fun a ha => hK13 _ _ ?_ a ha
    refine W.cond rfl (fun h20 => ?_) (fun h20 => ?_)
    · replace hF := ifP h20 hF
      refine W.seq fun K21 hK21 => ?_
      refine W.region ?_
      refine wl_assign rfl rfl ?_
      refine wl_assign rfl rfl ?_
      refine WL.nil ?_
      refine fun a ha => hK21 _ _ ?_ a ha
      refine W.ret ?_
      have hr := Option.some.inj hF
      subst hr
      exact rets (vs := [(.bool false), (.bool false)]) hQ rfl ⟨rv_tmp rfl, rv_tmp rfl, trivial⟩ ⟨rfl, hB15⟩
    · replace hF := ifN h20 hF
      refine W.skip ?_
      refine fun a ha => hK12 _ _ ?_ a ha
      refine W.seq fun K22 hK22 => ?_
      refine W.seq fun K23 hK23 => ?_
      obtain ⟨k28, hk28, hF⟩ := jE1 hF
      have hJ29 : ∀ (y27 : Bool) (w24 : World) (_ : k28 y27 = some r) (_ : Below w0.heap.size w0 w24) (_ : Sep w0.heap.size w24 [R.blk b2 30 [v0_0, v0_1, (.int .i64 x0.2.2.1), (.int .i64 x0.2.2.2)], R.blk b7 30 [v1_0, v1_1, (.int .i64 x1.2.2.1), (.int .i64 x1.2.2.2)]]), ∀ a, St 63 [(2, (.pointer (some ⟨b2, 0, none⟩))), (3, (.pointer (some ⟨b7, 0, none⟩))), (43, (.bool y27))] a → K23 a w24 := by
        intro y27 w24 hF hB25 hS26
        subst hk28
        refine fun a ha => hK23 _ _ ?_ a ha
        refine W.cond rfl (fun h30 => ?_) (fun h30 => ?_)
        · replace hF := ifP h30 hF
          refine W.seq fun K31 hK31 => ?_
          refine W.region ?_
          refine wl_assign rfl rfl ?_
          refine wl_assign rfl rfl ?_
          refine WL.nil ?_
          refine fun a ha => hK31 _ _ ?_ a ha
          refine W.ret ?_
          have hr := Option.some.inj hF
          subst hr
          exact rets (vs := [(.bool false), (.bool true)]) hQ rfl ⟨rv_tmp rfl, rv_tmp rfl, trivial⟩ ⟨rfl, hB25⟩
        · replace hF := ifN h30 hF
          refine W.skip ?_
          refine fun a ha => hK22 _ _ ?_ a ha
          refine W.seq fun K32 hK32 => ?_
          refine W.seq fun K33 hK33 => ?_
          refine W.region ?_
          refine wl_field (o := 0) (off' := 0) ff_30_0 rfl rfl rfl ?_
          refine wl_load_blk (i := 0) (vs := [v0_0]) (v := v0_0) tf_28 rfl rfl hS26 rfl rfl rfl ?_
          refine wl_lenr (e := ty_109) (l := x0.1) Try.underlying28 rfl rfl h0_0 ?_
          refine wl_move rfl rfl ?_
          refine WL.nil ?_
          refine fun a ha => hK33 _ _ ?_ a ha
          refine W.block ?_
          refine W.loopk (fun m a w34 => ∃ (y37 : Int), St 63 [(2, (.pointer (some ⟨b2, 0, none⟩))), (3, (.pointer (some ⟨b7, 0, none⟩))), (46, (.int .i64 (List.length x0.1 : Int))), (47, (.int .i64 y37))] a ∧ Below w0.heap.size w0 w34 ∧ Sep w0.heap.size w34 [R.blk b2 30 [v0_0, v0_1, (.int .i64 x0.2.2.1), (.int .i64 x0.2.2.2)], R.blk b7 30 [v1_0, v1_1, (.int .i64 x1.2.2.1), (.int .i64 x1.2.2.2)]] ∧ F_impl_SameShows_L1 x0 x1 m y37 = some r) FU ?_ ?_
          ·
            exact fun a ha => ⟨0, ha.sub ⟨rfl, rfl, rfl, rfl, trivial⟩, hB25, (hS26.sel [0, 1] rfl), hF⟩
          ·
            rintro m40 a w34 ⟨y37, ha, hB35, hS36, hF⟩ KL39 hKL39
            refine W.at ?_ ha
            cases m40 with
            | zero => exact noneE hF
            | succ m40 =>
              obtain ⟨nx38, hnx38⟩ : ∃ k, k = F_impl_SameShows_L1 x0 x1 m40 := ⟨_, rfl⟩
              rw [F_impl_SameShows_L1, ← hnx38] at hF
              refine W.seq fun K41 hK41 => ?_
              refine W.region ?_
              refine wl_lss rfl rfl rfl ?_
              refine WL.nil ?_
              refine fun a ha => hK41 _ _ ?_ a ha
              refine W.seq fun K42 hK42 => ?_
              refine W.cond rfl (fun h43 => ?_) (fun h43 => ?_)
              · replace hF := ifP h43 hF
                refine W.skip ?_
                refine fun a ha => hK42 _ _ ?_ a ha
                refine W.seq fun K44 hK44 => ?_
                refine W.block ?_
                refine W.seq fun K45 hK45 => ?_
                refine W.region ?_
                refine wl_move rfl rfl ?_
                refine wl_assign rfl rfl ?_
                refine WL.nil ?_
                refine fun a ha => hK45 _ _ ?_ a ha
                refine W.seq fun K46 hK46 => ?_
                refine W.regionH mixed_ [] hB35 hS36 ?_
                intro w47 hb48 hB49 hS50
                have hSW51 := KeepX.refl w47 []
                refine WH.takex (i := 0) rfl (by kernel_rfl) (by kernel_rfl) (by kernel_rfl) hP hSW51 ?_
                refine pr_field (o := 0) (off' := 0) ff_30_0 rfl rfl rfl ?_
                refine WH.takex (i := 1) rfl (by kernel_rfl) (by kernel_rfl) (by kernel_rfl) hP hSW51 ?_
                refine pr_load_blk (i := 0) (vs := [v0_0]) (v := v0_0) tf_28 rfl rfl hS50 rfl rfl rfl (by simp) ?_
                refine WH.takex (i := 2) rfl (by kernel_rfl) (by kernel_rfl) (by kernel_rfl) hP hSW51 ?_
                refine pr_move rfl rfl ?_
                obtain ⟨u52, hu52, hF⟩ := bindE hF
                refine WH.takex (i := 3) rfl (by kernel_rfl) (by kernel_rfl) (by kernel_rfl) hP hSW51 ?_
                refine pr_index (e := ty_109) Try.underlying28 rfl rfl rfl h0_0 hu52 ?_
                rintro p53 _ ⟨v55, rfl, hv56⟩ hp54
                refine WH.takex (i := 4) rfl (by kernel_rfl) (by kernel_rfl) (by kernel_rfl) hP hSW51 ?_
                refine pr_load_p (vs := [v55]) (v := v55) tf_109 rfl rfl (hp54.kx hB49 (by simp)) rfl rfl ?_
                refine WH.takex (i := 5) rfl (by kernel_rfl) (by kernel_rfl) (by kernel_rfl) hP hSW51 ?_
                refine pr_field (o := 0) (off' := 0) ff_30_0 rfl rfl rfl ?_
                refine WH.takex (i := 6) rfl (by kernel_rfl) (by kernel_rfl) (by kernel_rfl) hP hSW51 ?_
                refine pr_load_blk (i := 1) (vs := [v1_0]) (v := v1_0) tf_28 rfl rfl hS50 rfl rfl rfl (by simp) ?_
                refine WH.takex (i := 7) rfl (by kernel_rfl) (by kernel_rfl) (by kernel_rfl) hP hSW51 ?_
                refine pr_move rfl rfl ?_
                obtain ⟨u57, hu57, hF⟩ := bindE hF
                refine WH.takex (i := 8) rfl (by kernel_rfl) (by kernel_rfl) (by kernel_rfl) hP hSW51 ?_
                refine pr_index (e := ty_109) Try.underlying28 rfl rfl rfl h1_0 hu57 ?_
                rintro p58 _ ⟨v60, rfl, hv61⟩ hp59
                refine WH.takex (i := 9) rfl (by kernel_rfl) (by kernel_rfl) (by kernel_rfl) hP hSW51 ?_
                refine pr_load_p (vs := [v60]) (v := v60) tf_109 rfl rfl (hp59.kx hB49 (by simp)) rfl rfl ?_
                refine WH.one (i := 10) (by kernel_rfl) rfl ?_
                obtain ⟨u62, hu62, hF⟩ := bindE hF
                refine wl_call rfl Try.call91 (C_slices_Equal_impl_Spot_impl_Spot w47 u52 v55 (hv56.ro hB49) u57 v60 (hv61.ro hB49) _ hu62) rfl ?_
                rintro _ w63 ⟨rfl, hb64⟩
                refine ⟨_, rfl, ?_⟩
                have hB65 := hB49.trans (hb64.mono hB49.size)
                have hS66 := hS50.below hb64
                have hSW68 := hSW51.ext hb64
                refine WL.nil (WH.ret hSW68 ?_)
                refine WH.takex (i := 11) rfl (by kernel_rfl) (by kernel_rfl) (by kernel_rfl) hP hSW68 ?_
                refine pr_not rfl rfl ?_
                refine WH.done (by kernel_rfl) ?_
                refine fun a ha => hK46 _ _ ?_ a ha
                refine W.cond rfl (fun h69 => ?_) (fun h69 => ?_)
                · replace hF := ifP h69 hF
                  refine W.seq fun K70 hK70 => ?_
                  refine W.region ?_
                  refine wl_assign rfl rfl ?_
                  refine wl_assign rfl rfl ?_
                  refine WL.nil ?_
                  refine fun a ha => hK70 _ _ ?_ a ha
                  refine W.ret ?_
                  have hr := Option.some.inj hF
                  subst hr
                  exact rets (vs := [(.bool false), (.bool true)]) hQ rfl ⟨rv_tmp rfl, rv_tmp rfl, trivial⟩ ⟨rfl, hB65⟩
                · replace hF := ifN h69 hF
                  refine W.skip ?_
                  refine fun a ha => hK44 _ _ ?_ a ha
                  refine W.region ?_
                  refine wl_add rfl rfl rfl ?_
                  refine wl_move rfl rfl ?_
                  refine WL.nil ?_
                  rw [hnx38] at hF
                  exact fun a ha => hKL39 a _ m40 (Nat.lt_succ_self m40) ⟨(w64 (y37 + 1)), ha.sub ⟨rfl, rfl, rfl, rfl, trivial⟩, hB65, (hS66.sel [0, 1] rfl), hF⟩
              · replace hF := ifN h43 hF
                refine W.exit ?_
                refine fun a ha => hK32 _ _ ?_ a ha
                refine W.seq fun K71 hK71 => ?_
                refine W.region ?_
                refine wl_assign rfl rfl ?_
                refine wl_assign rfl rfl ?_
                refine WL.nil ?_
                refine fun a ha => hK71 _ _ ?_ a ha
                refine W.ret ?_
                have hr := Option.some.inj hF
                subst hr
                exact rets (vs := [(.bool true), (.bool true)]) hQ rfl ⟨rv_tmp rfl, rv_tmp rfl, trivial⟩ ⟨rfl, hB35⟩
      refine W.region ?_
      refine wl_field (o := 0) (off' := 0) ff_30_0 rfl rfl rfl ?_
      refine wl_load_blk (i := 0) (vs := [v0_0]) (v := v0_0) tf_28 rfl rfl hS16 rfl rfl rfl ?_
      refine wl_lenr (e := ty_109) (l := x0.1) Try.underlying28 rfl rfl h0_0 ?_
      refine wl_field (o := 0) (off' := 0) ff_30_0 rfl rfl rfl ?_
      refine wl_load_blk (i := 1) (vs := [v1_0]) (v := v1_0) tf_28 rfl rfl hS16 rfl rfl rfl ?_
      refine wl_lenr (e := ty_109) (l := x1.1) Try.underlying28 rfl rfl h1_0 ?_
      refine wl_neq rfl rfl rfl ?_
      refine wl_move rfl rfl ?_
      rcases bE ((List.length x0.1 : Int) != (List.length x1.1 : Int)) with h72 | h72
      · replace hF := ifP h72 hF
        refine wl_off rfl rfl rfl h72 ?_
        refine wl_off rfl rfl rfl h72 ?_
        refine wl_off rfl rfl rfl h72 ?_
        refine wl_off rfl rfl rfl h72 ?_
        refine wl_off rfl rfl rfl h72 ?_
        refine wl_off rfl rfl rfl h72 ?_
        refine wl_pick_t rfl rfl h72 rfl ?_
        refine wl_move rfl rfl ?_
        refine wl_off rfl rfl rfl rfl ?_
        refine wl_off rfl rfl rfl rfl ?_
        refine wl_off rfl rfl rfl rfl ?_
        refine wl_off rfl rfl rfl rfl ?_
        refine wl_off rfl rfl rfl rfl ?_
        refine wl_pick_t rfl rfl rfl rfl ?_
        refine wl_move rfl rfl ?_
        refine wl_off rfl rfl rfl rfl ?_
        refine wl_off rfl rfl rfl rfl ?_
        refine wl_off rfl rfl rfl rfl ?_
        refine wl_off rfl rfl rfl rfl ?_
        refine wl_off rfl rfl rfl rfl ?_
        refine wl_pick_t rfl rfl rfl rfl ?_
        refine WL.nil ?_
        exact fun a ha => hJ29 (true) _ hF hB15 (hS16.sel [0, 1] rfl) a (ha.sub ⟨rfl, rfl, rfl, trivial⟩)
      · replace hF := ifN h72 hF
        refine wl_on rfl rfl h72 ?_
        refine wl_field (o := 1) (off' := 1) ff_30_1 rfl rfl rfl ?_
        refine wl_on rfl rfl h72 ?_
        refine wl_load_blk (i := 0) (vs := [v0_1]) (v := v0_1) tf_23 rfl rfl hS16 rfl rfl rfl ?_
        refine wl_on rfl rfl h72 ?_
        refine wl_field (o := 1) (off' := 1) ff_30_1 rfl rfl rfl ?_
        refine wl_on rfl rfl h72 ?_
        refine wl_load_blk (i := 1) (vs := [v1_1]) (v := v1_1) tf_23 rfl rfl hS16 rfl rfl rfl ?_
        refine wl_on rfl rfl h72 ?_
        obtain ⟨u73, hu73, hF⟩ := bindE hF
        refine wl_call rfl Try.call90 (C_slices_Equal_int_int w14 x0.2.1 v0_1 (h0_1.ro hB15) x1.2.1 v1_1 (h1_1.ro hB15) _ hu73) rfl ?_
        rintro _ w74 ⟨rfl, hb75⟩
        refine ⟨_, rfl, ?_⟩
        have hB76 := hB15.trans (hb75.mono hB15.size)
        have hS77 := hS16.below hb75
        refine wl_on rfl rfl h72 ?_
        refine wl_not rfl rfl ?_
        refine wl_pick_f rfl rfl h72 rfl ?_
        refine wl_move rfl rfl ?_
        rcases bE (!u73) with h79 | h79
        · replace hF := ifP h79 hF
          refine wl_off rfl rfl rfl h79 ?_
          refine wl_off rfl rfl rfl h79 ?_
          refine wl_off rfl rfl rfl h79 ?_
          refine wl_off rfl rfl rfl h79 ?_
          refine wl_off rfl rfl rfl h79 ?_
          refine wl_pick_t rfl rfl h79 rfl ?_
          refine wl_move rfl rfl ?_
          refine wl_off rfl rfl rfl rfl ?_
          refine wl_off rfl rfl rfl rfl ?_
          refine wl_off rfl rfl rfl rfl ?_
          refine wl_off rfl rfl rfl rfl ?_
          refine wl_off rfl rfl rfl rfl ?_
          refine wl_pick_t rfl rfl rfl rfl ?_
          refine WL.nil ?_
          exact fun a ha => hJ29 (true) _ hF hB76 (hS77.sel [0, 1] rfl) a (ha.sub ⟨rfl, rfl, rfl, trivial⟩)
        · replace hF := ifN h79 hF
          refine wl_on rfl rfl h79 ?_
          refine wl_field (o := 2) (off' := 2) ff_30_2 rfl rfl rfl ?_
          refine wl_on rfl rfl h79 ?_
          refine wl_load_blk (i := 0) (vs := [(.int .i64 x0.2.2.1)]) (v := (.int .i64 x0.2.2.1)) tf_3 rfl rfl hS77 rfl rfl rfl ?_
          refine wl_on rfl rfl h79 ?_
          refine wl_field (o := 2) (off' := 2) ff_30_2 rfl rfl rfl ?_
          refine wl_on rfl rfl h79 ?_
          refine wl_load_blk (i := 1) (vs := [(.int .i64 x1.2.2.1)]) (v := (.int .i64 x1.2.2.1)) tf_3 rfl rfl hS77 rfl rfl rfl ?_
          refine wl_on rfl rfl h79 ?_
          refine wl_neq rfl rfl rfl ?_
          refine wl_pick_f rfl rfl h79 rfl ?_
          refine wl_move rfl rfl ?_
          rcases bE (x0.2.2.1 != x1.2.2.1) with h80 | h80
          · replace hF := ifP h80 hF
            refine wl_off rfl rfl rfl h80 ?_
            refine wl_off rfl rfl rfl h80 ?_
            refine wl_off rfl rfl rfl h80 ?_
            refine wl_off rfl rfl rfl h80 ?_
            refine wl_off rfl rfl rfl h80 ?_
            refine wl_pick_t rfl rfl h80 rfl ?_
            refine WL.nil ?_
            exact fun a ha => hJ29 (true) _ hF hB76 (hS77.sel [0, 1] rfl) a (ha.sub ⟨rfl, rfl, rfl, trivial⟩)
          · replace hF := ifN h80 hF
            refine wl_on rfl rfl h80 ?_
            refine wl_field (o := 3) (off' := 3) ff_30_3 rfl rfl rfl ?_
            refine wl_on rfl rfl h80 ?_
            refine wl_load_blk (i := 0) (vs := [(.int .i64 x0.2.2.2)]) (v := (.int .i64 x0.2.2.2)) tf_3 rfl rfl hS77 rfl rfl rfl ?_
            refine wl_on rfl rfl h80 ?_
            refine wl_field (o := 3) (off' := 3) ff_30_3 rfl rfl rfl ?_
            refine wl_on rfl rfl h80 ?_
            refine wl_load_blk (i := 1) (vs := [(.int .i64 x1.2.2.2)]) (v := (.int .i64 x1.2.2.2)) tf_3 rfl rfl hS77 rfl rfl rfl ?_
            refine wl_on rfl rfl h80 ?_
            refine wl_neq rfl rfl rfl ?_
            refine wl_pick_f rfl rfl h80 rfl ?_
            refine WL.nil ?_
            exact fun a ha => hJ29 ((x0.2.2.2 != x1.2.2.2)) _ hF hB76 (hS77.sel [0, 1] rfl) a (ha.sub ⟨rfl, rfl, rfl, trivial⟩)
  refine W.region ?_
  refine wl_load_blk (i := 1) (vs := [v0_0, v0_1, (.int .i64 x0.2.2.1), (.int .i64 x0.2.2.2)]) (v := (.agg #[v0_0, v0_1, (.int .i64 x0.2.2.1), (.int .i64 x0.2.2.2)])) tf_30 rfl rfl hS11 rfl rfl rfl ?_
  obtain ⟨u81, hu81, hF⟩ := bindE hF
  refine wl_call rfl Try.call18 (C_impl_IsShow w8 x0 v0_0 (h0_0.ro hB10) v0_1 (h0_1.ro hB10) _ hu81) rfl ?_
  rintro _ w82 ⟨rfl, hb83⟩
  refine ⟨_, rfl, ?_⟩
  have hB84 := hB10.trans (hb83.mono hB10.size)
  have hS85 := hS11.below hb83
  refine wl_not rfl rfl ?_
  refine wl_move rfl rfl ?_
  rcases bE (!u81) with h87 | h87
  · replace hF := ifP h87 hF
    refine wl_off rfl rfl rfl h87 ?_
    refine wl_off rfl rfl rfl h87 ?_
    refine wl_off rfl rfl rfl h87 ?_
    refine wl_pick_t rfl rfl h87 rfl ?_
    refine WL.nil ?_
    exact fun a ha => hJ19 (true) _ hF hB84 (hS85.sel [1, 0] rfl) a (ha.sub ⟨rfl, rfl, rfl, trivial⟩)
  · replace hF := ifN h87 hF
    refine wl_on rfl rfl h87 ?_
    refine wl_load_blk (i := 0) (vs := [v1_0, v1_1, (.int .i64 x1.2.2.1), (.int .i64 x1.2.2.2)]) (v := (.agg #[v1_0, v1_1, (.int .i64 x1.2.2.1), (.int .i64 x1.2.2.2)])) tf_30 rfl rfl hS85 rfl rfl rfl ?_
    refine wl_on rfl rfl h87 ?_
    obtain ⟨u88, hu88, hF⟩ := bindE hF
    refine wl_call rfl Try.call18 (C_impl_IsShow w82 x1 v1_0 (h1_0.ro hB84) v1_1 (h1_1.ro hB84) _ hu88) rfl ?_
    rintro _ w89 ⟨rfl, hb90⟩
    refine ⟨_, rfl, ?_⟩
    have hB91 := hB84.trans (hb90.mono hB84.size)
    have hS92 := hS85.below hb90
    refine wl_on rfl rfl h87 ?_
    refine wl_not rfl rfl ?_
    refine wl_pick_f rfl rfl h87 rfl ?_
    refine WL.nil ?_
    exact fun a ha => hJ19 ((!u88)) _ hF hB91 (hS92.sel [1, 0] rfl) a (ha.sub ⟨rfl, rfl, rfl, trivial⟩)
theorem C_laws_FnExactSameShows (w0 : World) (x0 : ((List (List (Int × Int))) × (List Int) × Int × Int)) (v0_0 : Value) (h0_0 : rdS ty_119 (· < w0.heap.size) w0 v0_0 x0.1) (v0_1 : Value) (h0_1 : rdS ty_3 (· < w0.heap.size) w0 v0_1 x0.2.1) (x1 : ((List (List (Int × Int))) × (List Int) × Int × Int)) (v1_0 : Value) (h1_0 : rdS ty_119 (· < w0.heap.size) w0 v1_0 x1.1) (v1_1 : Value) (h1_1 : rdS ty_3 (· < w0.heap.size) w0 v1_1 x1.2.1) (r : Bool) (hF : F_laws_FnExactSameShows x0 x1 = some r) :
    Calls Try.prog 9 [(.agg #[v0_0, v0_1, (.int .i64 x0.2.2.1), (.int .i64 x0.2.2.2)]), (.agg #[v1_0, v1_1, (.int .i64 x1.2.2.1), (.int .i64 x1.2.2.2)])].toArray w0 fun e w' => e = .returned (.bool r) ∧ Below w0.heap.size w0 w' := by
  refine calls_mk' Try.func9 rfl Try.ntmps9 rfl rfl fun Q hQ hP => ?_
  have hB : Below w0.heap.size w0 w0 := Below.refl _ _
  have hS : Sep w0.heap.size w0 [] := Sep.nil _ _
  unfold F_laws_FnExactSameShows at hF
  refine W.seq fun K1 hK1 => ?_
  refine W.region ?_
  refine wl_box (cs := [v0_0, v0_1, (.int .i64 x0.2.2.1), (.int .i64 x0.2.2.2)]) rfl rfl rfl hB hS ?_
  intro b2 w3 hb4 hB5 hS6
  refine wl_box (cs := [v1_0, v1_1, (.int .i64 x1.2.2.1), (.int .i64 x1.2.2.2)]) rfl rfl rfl hB5 hS6 ?_
  intro b7 w8 hb9 hB10 hS11
  refine wl_assign rfl rfl ?_
  refine WL.nil ?_
  refine fun a ha => hK1 _ _ ?_ a ha
  refine W.seq fun K12 hK12 => ?_
  refine W.region ?_
  refine wl_assign rfl rfl ?_
  refine WL.nil ?_
  refine fun a ha => hK12 _ _ ?_ a ha
  refine W.seq fun K13 hK13 => ?_
  refine W.region ?_
  refine wl_load_blk (i := 1) (vs := [v0_0, v0_1, (.int .i64 x0.2.2.1), (.int .i64 x0.2.2.2)]) (v := (.agg #[v0_0, v0_1, (.int .i64 x0.2.2.1), (.int .i64 x0.2.2.2)])) tf_25 rfl rfl hS11 rfl rfl rfl ?_
  refine wl_move rfl rfl ?_
  obtain ⟨u14, hu14, hF⟩ := bindE hF
  refine wl_call rfl Try.call15 (C_laws_szShow w8 x0 v0_0 (h0_0.ro hB10) v0_1 (h0_1.ro hB10) 1048576 _ hu14) rfl ?_
  rintro _ w15 ⟨rfl, hb16⟩
  refine ⟨_, rfl, ?_⟩
  have hB17 := hB10.trans (hb16.mono hB10.size)
  have hS18 := hS11.below hb16
  refine wl_assign rfl rfl ?_
  refine WL.nil ?_
  refine fun a ha => hK13 _ _ ?_ a ha
  refine W.seq fun K20 hK20 => ?_
  refine W.seq fun K21 hK21 => ?_
  refine W.region ?_
  refine wl_move rfl rfl ?_
  refine wl_lss rfl rfl rfl ?_
  refine WL.nil ?_
  refine fun a ha => hK21 _ _ ?_ a ha
  refine W.cond rfl (fun h22 => ?_) (fun h22 => ?_)
  · replace hF := ifP h22 hF
    refine W.seq fun K23 hK23 => ?_
    refine W.region ?_
    refine wl_assign rfl rfl ?_
    refine WL.nil ?_
    refine fun a ha => hK23 _ _ ?_ a ha
    refine W.ret ?_
    have hr := Option.some.inj hF
    subst hr
    exact rets (vs := [(.bool true)]) hQ rfl ⟨rv_tmp rfl, trivial⟩ ⟨rfl, hB17⟩
  · replace hF := ifN h22 hF
    refine W.skip ?_
    refine fun a ha => hK20 _ _ ?_ a ha
    refine W.seq fun K24 hK24 => ?_
    refine W.region ?_
    refine wl_load_blk (i := 0) (vs := [v1_0, v1_1, (.int .i64 x1.2.2.1), (.int .i64 x1.2.2.2)]) (v := (.agg #[v1_0, v1_1, (.int .i64 x1.2.2.1), (.int .i64 x1.2.2.2)])) tf_25 rfl rfl hS18 rfl rfl rfl ?_
    refine wl_move rfl rfl ?_
    obtain ⟨u25, hu25, hF⟩ := bindE hF
    refine wl_call rfl Try.call15 (C_laws_szShow w15 x1 v1_0 (h1_0.ro hB17) v1_1 (h1_1.ro hB17) u14 _ hu25) rfl ?_
    rintro _ w26 ⟨rfl, hb27⟩
    refine ⟨_, rfl, ?_⟩
    have hB28 := hB17.trans (hb27.mono hB17.size)
    have hS29 := hS18.below hb27
    refine wl_assign rfl rfl ?_
    refine WL.nil ?_
    refine fun a ha => hK24 _ _ ?_ a ha
    refine W.seq fun K31 hK31 => ?_
    refine W.seq fun K32 hK32 => ?_
    refine W.region ?_
    refine wl_move rfl rfl ?_
    refine wl_lss rfl rfl rfl ?_
    refine WL.nil ?_
    refine fun a ha => hK32 _ _ ?_ a ha
    refine W.cond rfl (fun h33 => ?_) (fun h33 => ?_)
    · replace hF := ifP h33 hF
      refine W.seq fun K34 hK34 => ?_
      refine W.region ?_
      refine wl_assign rfl rfl ?_
      refine WL.nil ?_
      refine fun a ha => hK34 _ _ ?_ a ha
      refine W.ret ?_
      have hr := Option.some.inj hF
      subst hr
      exact rets (vs := [(.bool true)]) hQ rfl ⟨rv_tmp rfl, trivial⟩ ⟨rfl, hB28⟩
    · replace hF := ifN h33 hF
      refine W.skip ?_
      refine fun a ha => hK31 _ _ ?_ a ha
      refine W.seq fun K35 hK35 => ?_
      refine W.regionH mixed_ [] hB28 hS29 ?_
      intro w36 hb37 hB38 hS39
      have hSW40 := KeepX.refl w36 []
      refine WH.takex (i := 0) rfl (by kernel_rfl) (by kernel_rfl) (by kernel_rfl) hP hSW40 ?_
      refine pr_load_blk (i := 1) (vs := [v0_0, v0_1, (.int .i64 x0.2.2.1), (.int .i64 x0.2.2.2)]) (v := (.agg #[v0_0, v0_1, (.int .i64 x0.2.2.1), (.int .i64 x0.2.2.2)])) tf_25 rfl rfl hS39 rfl rfl rfl (by simp) ?_
      refine WH.takex (i := 2) rfl (by kernel_rfl) (by kernel_rfl) (by kernel_rfl) hP hSW40 ?_
      refine pr_load_blk (i := 0) (vs := [v1_0, v1_1, (.int .i64 x1.2.2.1), (.int .i64 x1.2.2.2)]) (v := (.agg #[v1_0, v1_1, (.int .i64 x1.2.2.1), (.int .i64 x1.2.2.2)])) tf_25 rfl rfl hS39 rfl rfl rfl (by simp) ?_
      refine WH.one (i := 1) (by kernel_rfl) rfl ?_
      obtain ⟨u41, hu41, hF⟩ := bindE hF
      refine wl_call rfl Try.call17 (C_laws_toShow w36 x0 v0_0 (h0_0.ro hB38) v0_1 (h0_1.ro hB38) _ hu41) rfl ?_
      rintro _ w46 ⟨v42, F43, v44, F45, rfl, hb47, hM50⟩
      refine ⟨_, rfl, ?_⟩
      have hB48 := hB38.trans (hb47.mono hB38.size)
      have hS49 := hS39.join hb47 hM50 hB38.size
      have hSW51 := hSW40.ext hb47
      refine WL.nil (WH.ret hSW51 ?_)
      refine WH.one (i := 3) (by kernel_rfl) rfl ?_
      obtain ⟨u52, hu52, hF⟩ := bindE hF
      refine wl_call rfl Try.call17 (C_laws_toShow w46 x1 v1_0 (h1_0.ro hB48) v1_1 (h1_1.ro hB48) _ hu52) rfl ?_
      rintro _ w57 ⟨v53, F54, v55, F56, rfl, hb58, hM61⟩
      refine ⟨_, rfl, ?_⟩
      have hB59 := hB48.trans (hb58.mono hB48.size)
      have hS60 := hS49.join hb58 hM61 hB48.size
      have hSW62 := hSW51.ext hb58
      refine WL.nil (WH.ret hSW62 ?_)
      refine WH.one (i := 4) (by kernel_rfl) rfl ?_
      obtain ⟨u63, hu63, hF⟩ := bindE hF
      refine wl_call rfl Try.call41 (C_spec_SameShows w57 u41 v42 (hS60.own_ro (i := 2) rfl) v44 (hS60.own_ro (i := 3) rfl) u52 v53 (hS60.own_ro (i := 0) rfl) v55 (hS60.own_ro (i := 1) rfl) _ hu63) rfl ?_
      rintro _ w65 ⟨rfl, hb66⟩
      refine ⟨_, rfl, ?_⟩
      have hB67 := hB59.trans (hb66.mono hB59.size)
      have hS68 := hS60.below hb66
      have hSW70 := hSW62.ext hb66
      refine WL.nil (WH.ret hSW70 ?_)
      refine WH.takex (i := 5) rfl (by kernel_rfl) (by kernel_rfl) (by kernel_rfl) hP hSW70 ?_
      refine pr_move rfl rfl ?_
      refine WH.takex (i := 6) rfl (by kernel_rfl) (by kernel_rfl) (by kernel_rfl) hP hSW70 ?_
      refine pr_extract rfl rfl rfl ?_
      refine WH.takex (i := 7) rfl (by kernel_rfl) (by kernel_rfl) (by kernel_rfl) hP hSW70 ?_
      refine pr_extract rfl rfl rfl ?_
      refine WH.takex (i := 8) rfl (by kernel_rfl) (by kernel_rfl) (by kernel_rfl) hP hSW70 ?_
      refine pr_assign rfl rfl ?_
      refine WH.takex (i := 9) rfl (by kernel_rfl) (by kernel_rfl) (by kernel_rfl) hP hSW70 ?_
      refine pr_assign rfl rfl ?_
      refine WH.done (by kernel_rfl) ?_
      refine fun a ha => hK35 _ _ ?_ a ha
      refine W.seq fun K71 hK71 => ?_
      refine W.region ?_
      refine wl_load_blk (i := 5) (vs := [v0_0, v0_1, (.int .i64 x0.2.2.1), (.int .i64 x0.2.2.2)]) (v := (.agg #[v0_0, v0_1, (.int .i64 x0.2.2.1), (.int .i64 x0.2.2.2)])) tf_25 rfl rfl hS68 rfl rfl rfl ?_
      obtain ⟨u72, hu72, hF⟩ := bindE hF
      refine wl_call rfl Try.call17 (C_laws_toShow w65 x0 v0_0 (h0_0.ro hB67) v0_1 (h0_1.ro hB67) _ hu72) rfl ?_
      rintro _ w77 ⟨v73, F74, v75, F76, rfl, hb78, hM81⟩
      refine ⟨_, rfl, ?_⟩
      have hB79 := hB67.trans (hb78.mono hB67.size)
      have hS80 := hS68.join hb78 hM81 hB67.size
      refine wl_alloc (cs := [(.slice none 0 0), (.slice none 0 0), (.int .i64 0), (.int .i64 0)]) tf_30 rfl rfl hB79 hS80 ?_
      intro b82 w83 hb84 hB85 hS86
      refine wl_store_blk (i := 0) (vs := [v73, v75, (.int .i64 u72.2.2.1), (.int .i64 u72.2.2.2)]) (cs' := [v73, v75, (.int .i64 u72.2.2.1), (.int .i64 u72.2.2.2)]) tf_30 rfl rfl rfl rfl hB85 hS86 rfl rfl ⟨(hS86.own_ro (i := 1) rfl).one, (hS86.own_ro (i := 2) rfl).one, rfl, rfl, trivial⟩ rfl ?_
      intro w87 hk90 hB88 hS89
      refine WL.nil ?_
      refine fun a ha => hK71 _ _ ?_ a ha
      refine W.seq fun K91 hK91 => ?_
      refine W.region ?_
      refine wl_load_blk (i := 7) (vs := [v1_0, v1_1, (.int .i64 x1.2.2.1), (.int .i64 x1.2.2.2)]) (v := (.agg #[v1_0, v1_1, (.int .i64 x1.2.2.1), (.int .i64 x1.2.2.2)])) tf_25 rfl rfl hS89 rfl rfl rfl ?_
      obtain ⟨u92, hu92, hF⟩ := bindE hF
      refine wl_call rfl Try.call17 (C_laws_toShow w87 x1 v1_0 (h1_0.ro hB88) v1_1 (h1_1.ro hB88) _ hu92) rfl ?_
      rintro _ w97 ⟨v93, F94, v95, F96, rfl, hb98, hM101⟩
      refine ⟨_, rfl, ?_⟩
      have hB99 := hB88.trans (hb98.mono hB88.size)
      have hS100 := hS89.join hb98 hM101 hB88.size
      refine wl_alloc (cs := [(.slice none 0 0), (.slice none 0 0), (.int .i64 0), (.int .i64 0)]) tf_30 rfl rfl hB99 hS100 ?_
      intro b102 w103 hb104 hB105 hS106
      refine wl_store_blk (i := 0) (vs := [v93, v95, (.int .i64 u92.2.2.1), (.int .i64 u92.2.2.2)]) (cs' := [v93, v95, (.int .i64 u92.2.2.1), (.int .i64 u92.2.2.2)]) tf_30 rfl rfl rfl rfl hB105 hS106 rfl rfl ⟨(hS106.own_ro (i := 1) rfl).one, (hS106.own_ro (i := 2) rfl).one, rfl, rfl, trivial⟩ rfl ?_
      intro w107 hk110 hB108 hS109
      refine WL.nil ?_
      refine fun a ha => hK91 _ _ ?_ a ha
      refine W.seq fun K111 hK111 => ?_
      refine W.region ?_
      refine wl_load_blk (i := 3) (vs := [v73, v75, (.int .i64 u72.2.2.1), (.int .i64 u72.2.2.2)]) (v := (.agg #[v73, v75, (.int .i64 u72.2.2.1), (.int .i64 u72.2.2.2)])) tf_30 rfl rfl hS109 rfl rfl rfl ?_
      refine wl_load_blk (i := 0) (vs := [v93, v95, (.int .i64 u92.2.2.1), (.int .i64 u92.2.2.2)]) (v := (.agg #[v93, v95, (.int .i64 u92.2.2.1), (.int .i64 u92.2.2.2)])) tf_30 rfl rfl hS109 rfl rfl rfl ?_
      obtain ⟨u112, hu112, hF⟩ := bindE hF
      refine wl_call rfl Try.call42 (C_impl_SameShows w107 u72 v73 (hS109.own_ro (i := 4) rfl) v75 (hS109.own_ro (i := 5) rfl) u92 v93 (hS109.own_ro (i := 1) rfl) v95 (hS109.own_ro (i := 2) rfl) _ hu112) rfl ?_
      rintro _ w113 ⟨rfl, hb114⟩
      refine ⟨_, rfl, ?_⟩
      have hB115 := hB108.trans (hb114.mono hB108.size)
      have hS116 := hS109.below hb114
      refine wl_move rfl rfl ?_
      refine wl_extract rfl rfl rfl ?_
      refine wl_extract rfl rfl rfl ?_
      refine wl_assign rfl rfl ?_
      refine wl_assign rfl rfl ?_
      refine WL.nil ?_
      refine fun a ha => hK111 _ _ ?_ a ha
      refine W.seq fun K118 hK118 => ?_
      refine W.seq fun K119 hK119 => ?_
      obtain ⟨k124, hk124, hF⟩ := jE1 hF
      have hJ125 : ∀ (y123 : Bool) (w120 : World) (_ : k124 y123 = some r) (_ : Below w0.heap.size w0 w120) (_ : Sep w0.heap.size w120 [R.blk b2 25 [v0_0, v0_1, (.int .i64 x0.2.2.1), (.int .i64 x0.2.2.2)], R.blk b7 25 [v1_0, v1_1, (.int .i64 x1.2.2.1), (.int .i64 x1.2.2.2)], R.own ty_109 F74 v73 u72.1, R.own ty_3 F76 v75 u72.2.1, R.blk b82 30 [v73, v75, (.int .i64 u72.2.2.1), (.int .i64 u72.2.2.2)], R.own ty_109 F94 v93 u92.1, R.own ty_3 F96 v95 u92.2.1, R.blk b102 30 [v93, v95, (.int .i64 u92.2.2.1), (.int .i64 u92.2.2.2)]]), ∀ a, St 58 [(2, (.pointer (some ⟨b2, 0, none⟩))), (3, (.pointer (some ⟨b7, 0, none⟩))), (8, (.pointer (some ⟨b82, 0, none⟩))), (9, (.pointer (some ⟨b102, 0, none⟩))), (47, (.bool y123))] a → K119 a w120 := by
        intro y123 w120 hF hB121 hS122
        subst hk124
        refine fun a ha => hK119 _ _ ?_ a ha
        refine W.cond rfl (fun h126 => ?_) (fun h126 => ?_)
        · replace hF := ifP h126 hF
          refine W.seq fun K127 hK127 => ?_
          refine W.region ?_
          refine wl_assign rfl rfl ?_
          refine WL.nil ?_
          refine fun a ha => hK127 _ _ ?_ a ha
          refine W.ret ?_
          have hr := Option.some.inj hF
          subst hr
          exact rets (vs := [(.bool false)]) hQ rfl ⟨rv_tmp rfl, trivial⟩ ⟨rfl, hB121⟩
        · replace hF := ifN h126 hF
          refine W.skip ?_
          refine fun a ha => hK118 _ _ ?_ a ha
          refine W.seq fun K128 hK128 => ?_
          refine W.seq fun K129 hK129 => ?_
          refine W.regionH mixed_ [] hB121 hS122 ?_
          intro w130 hb131 hB132 hS133
          have hSW134 := KeepX.refl w130 []
          refine WH.takex (i := 0) rfl (by kernel_rfl) (by kernel_rfl) (by kernel_rfl) hP hSW134 ?_
          refine pr_load_blk (i := 4) (vs := [v73, v75, (.int .i64 u72.2.2.1), (.int .i64 u72.2.2.2)]) (v := (.agg #[v73, v75, (.int .i64 u72.2.2.1), (.int .i64 u72.2.2.2)])) tf_30 rfl rfl hS133 rfl rfl rfl (by simp) ?_
          refine WH.takex (i := 1) rfl (by kernel_rfl) (by kernel_rfl) (by kernel_rfl) hP hSW134 ?_
          refine pr_load_blk (i := 0) (vs := [v0_0, v0_1, (.int .i64 x0.2.2.1), (.int .i64 x0.2.2.2)]) (v := (.agg #[v0_0, v0_1, (.int .i64 x0.2.2.1), (.int .i64 x0.2.2.2)])) tf_25 rfl rfl hS133 rfl rfl rfl (by simp) ?_
          refine WH.one (i := 2) (by kernel_rfl) rfl ?_
          obtain ⟨u135, hu135, hF⟩ := bindE hF
          refine wl_call rfl Try.call17 (C_laws_toShow w130 x0 v0_0 (h0_0.ro hB132) v0_1 (h0_1.ro hB132) _ hu135) rfl ?_
          rintro _ w140 ⟨v136, F137, v138, F139, rfl, hb141, hM144⟩
          refine ⟨_, rfl, ?_⟩
          have hB142 := hB132.trans (hb141.mono hB132.size)
          have hS143 := hS133.join hb141 hM144 hB132.size
          have hSW145 := hSW134.ext hb141
          refine WL.nil (WH.ret hSW145 ?_)
          refine WH.one (i := 3) (by kernel_rfl) rfl ?_
          obtain ⟨u146, hu146, hF⟩ := bindE hF
          refine wl_call rfl Try.call19 (C_laws_eqShow w140 u72 v73 (hS143.own_ro (i := 4) rfl) v75 (hS143.own_ro (i := 5) rfl) u135 v136 (hS143.own_ro (i := 0) rfl) v138 (hS143.own_ro (i := 1) rfl) _ hu146) rfl ?_
          rintro _ w147 ⟨rfl, hb148⟩
          refine ⟨_, rfl, ?_⟩
          have hB149 := hB142.trans (hb148.mono hB142.size)
          have hS150 := hS143.below hb148
          have hSW152 := hSW145.ext hb148
          refine WL.nil (WH.ret hSW152 ?_)
          refine WH.takex (i := 4) rfl (by kernel_rfl) (by kernel_rfl) (by kernel_rfl) hP hSW152 ?_
          refine pr_not rfl rfl ?_
          refine WH.done (by kernel_rfl) ?_
          refine fun a ha => hK129 _ _ ?_ a ha
          refine W.cond rfl (fun h153 => ?_) (fun h153 => ?_)
          · replace hF := ifP h153 hF
            refine W.seq fun K154 hK154 => ?_
            refine W.region ?_
            refine wl_assign rfl rfl ?_
            refine WL.nil ?_
            refine fun a ha => hK154 _ _ ?_ a ha
            refine W.ret ?_
            have hr := Option.some.inj hF
            subst hr
            exact rets (vs := [(.bool false)]) hQ rfl ⟨rv_tmp rfl, trivial⟩ ⟨rfl, hB149⟩
          · replace hF := ifN h153 hF
            refine W.skip ?_
            refine fun a ha => hK128 _ _ ?_ a ha
            refine W.seq fun K155 hK155 => ?_
            refine W.seq fun K156 hK156 => ?_
            refine W.regionH mixed_ [] hB149 hS150 ?_
            intro w157 hb158 hB159 hS160
            have hSW161 := KeepX.refl w157 []
            refine WH.takex (i := 0) rfl (by kernel_rfl) (by kernel_rfl) (by kernel_rfl) hP hSW161 ?_
            refine pr_load_blk (i := 9) (vs := [v93, v95, (.int .i64 u92.2.2.1), (.int .i64 u92.2.2.2)]) (v := (.agg #[v93, v95, (.int .i64 u92.2.2.1), (.int .i64 u92.2.2.2)])) tf_30 rfl rfl hS160 rfl rfl rfl (by simp) ?_
            refine WH.takex (i := 1) rfl (by kernel_rfl) (by kernel_rfl) (by kernel_rfl) hP hSW161 ?_
            refine pr_load_blk (i := 3) (vs := [v1_0, v1_1, (.int .i64 x1.2.2.1), (.int .i64 x1.2.2.2)]) (v := (.agg #[v1_0, v1_1, (.int .i64 x1.2.2.1), (.int .i64 x1.2.2.2)])) tf_25 rfl rfl hS160 rfl rfl rfl (by simp) ?_
            refine WH.one (i := 2) (by kernel_rfl) rfl ?_
            obtain ⟨u162, hu162, hF⟩ := bindE hF
            refine wl_call rfl Try.call17 (C_laws_toShow w157 x1 v1_0 (h1_0.ro hB159) v1_1 (h1_1.ro hB159) _ hu162) rfl ?_
            rintro _ w167 ⟨v163, F164, v165, F166, rfl, hb168, hM171⟩
            refine ⟨_, rfl, ?_⟩
            have hB169 := hB159.trans (hb168.mono hB159.size)
            have hS170 := hS160.join hb168 hM171 hB159.size
            have hSW172 := hSW161.ext hb168
            refine WL.nil (WH.ret hSW172 ?_)
            refine WH.one (i := 3) (by kernel_rfl) rfl ?_
            obtain ⟨u173, hu173, hF⟩ := bindE hF
            refine wl_call rfl Try.call19 (C_laws_eqShow w167 u92 v93 (hS170.own_ro (i := 9) rfl) v95 (hS170.own_ro (i := 10) rfl) u162 v163 (hS170.own_ro (i := 0) rfl) v165 (hS170.own_ro (i := 1) rfl) _ hu173) rfl ?_
            rintro _ w174 ⟨rfl, hb175⟩
            refine ⟨_, rfl, ?_⟩
            have hB176 := hB169.trans (hb175.mono hB169.size)
            have hS177 := hS170.below hb175
            have hSW179 := hSW172.ext hb175
            refine WL.nil (WH.ret hSW179 ?_)
            refine WH.takex (i := 4) rfl (by kernel_rfl) (by kernel_rfl) (by kernel_rfl) hP hSW179 ?_
            refine pr_not rfl rfl ?_
            refine WH.done (by kernel_rfl) ?_
            refine fun a ha => hK156 _ _ ?_ a ha
            refine W.cond rfl (fun h180 => ?_) (fun h180 => ?_)
            · replace hF := ifP h180 hF
              refine W.seq fun K181 hK181 => ?_
              refine W.region ?_
              refine wl_assign rfl rfl ?_
              refine WL.nil ?_
              refine fun a ha => hK181 _ _ ?_ a ha
              refine W.ret ?_
              have hr := Option.some.inj hF
              subst hr
              exact rets (vs := [(.bool false)]) hQ rfl ⟨rv_tmp rfl, trivial⟩ ⟨rfl, hB176⟩
            · replace hF := ifN h180 hF
              refine W.skip ?_
              refine fun a ha => hK155 _ _ ?_ a ha
              refine W.seq fun K182 hK182 => ?_
              refine W.region ?_
              refine wl_assign rfl rfl ?_
              refine WL.nil ?_
              refine fun a ha => hK182 _ _ ?_ a ha
              refine W.ret ?_
              have hr := Option.some.inj hF
              subst hr
              exact rets (vs := [(.bool true)]) hQ rfl ⟨rv_tmp rfl, trivial⟩ ⟨rfl, hB176⟩
      refine W.region ?_
      refine wl_move rfl rfl ?_
      refine wl_move rfl rfl ?_
      refine wl_neqb Try.underlying4 rfl rfl rfl ?_
      refine wl_move rfl rfl ?_
      rcases bE (u112.1 != u63.1) with h183 | h183
      · replace hF := ifP h183 hF
        refine wl_off rfl rfl rfl h183 ?_
        refine wl_off rfl rfl rfl h183 ?_
        refine wl_off rfl rfl rfl h183 ?_
        refine wl_pick_t rfl rfl h183 rfl ?_
        refine WL.nil ?_
        exact fun a ha => hJ125 (true) _ hF hB115 (hS116.sel [11, 10, 4, 5, 3, 1, 2, 0] rfl) a (ha.sub ⟨rfl, rfl, rfl, rfl, rfl, trivial⟩)
      · replace hF := ifN h183 hF
        refine wl_on rfl rfl h183 ?_
        refine wl_move rfl rfl ?_
        refine wl_on rfl rfl h183 ?_
        refine wl_move rfl rfl ?_
        refine wl_on rfl rfl h183 ?_
        refine wl_neqb Try.underlying4 rfl rfl rfl ?_
        refine wl_pick_f rfl rfl h183 rfl ?_
        refine WL.nil ?_
        exact fun a ha => hJ125 ((u112.2 != u63.2)) _ hF hB115 (hS116.sel [11, 10, 4, 5, 3, 1, 2, 0] rfl) a (ha.sub ⟨rfl, rfl, rfl, rfl, rfl, trivial⟩)
end Go.Proofs.Ytmbhdelegdhieaa
