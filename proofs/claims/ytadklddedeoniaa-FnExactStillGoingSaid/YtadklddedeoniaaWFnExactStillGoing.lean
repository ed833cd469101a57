/-
  THE WALKS of functions of this seat, by program (gen.py).
-/
import Derived.Test.YtadklddedeoniaaH
import Derived.Test.YtadklddedeoniaaWFnExactCuesBetween
import Derived.Test.YtadklddedeoniaaWFnExactMostBehind
import Derived.Test.YtadklddedeoniaaWFnExactNewMarch
set_option linter.unusedSimpArgs false
set_option linter.unusedVariables false
set_option maxRecDepth 100000
namespace Go.Proofs.Ytadklddedeoniaa
open Go Go.RowKit
theorem C_spec_swTotal (w0 : World) (x0 : ((List (List (Int × Int))) × (List Int) × Int × Int)) (v0_0 : Value) (h0_0 : rdS ty_69 (· < w0.heap.size) w0 v0_0 x0.1) (v0_1 : Value) (h0_1 : rdS ty_3 (· < w0.heap.size) w0 v0_1 x0.2.1) (r : Int) (hF : F_spec_swTotal x0 = some r) :
    Calls Try.prog 116 [(.agg #[v0_0, v0_1, (.int .i64 x0.2.2.1), (.int .i64 x0.2.2.2)])].toArray w0 fun e w' => e = .returned (.int .i64 r) ∧ Below w0.heap.size w0 w' := by
  refine calls_mk' Try.func116 rfl Try.ntmps116 rfl rfl fun Q hQ hP => ?_
  have hB : Below w0.heap.size w0 w0 := Below.refl _ _
  have hS : Sep w0.heap.size w0 [] := Sep.nil _ _
  unfold F_spec_swTotal at hF
  refine W.seq fun K1 hK1 => ?_
  refine W.region ?_
  refine wl_box (cs := [v0_0, v0_1, (.int .i64 x0.2.2.1), (.int .i64 x0.2.2.2)]) rfl rfl rfl hB hS ?_
  intro b2 w3 hb4 hB5 hS6
  refine wl_assign rfl rfl ?_
  refine WL.nil ?_
  refine fun a ha => hK1 _ _ ?_ a ha
  refine W.seq fun K7 hK7 => ?_
  refine W.region ?_
  refine wl_assign rfl rfl ?_
  refine WL.nil ?_
  refine fun a ha => hK7 _ _ ?_ a ha
  refine W.seq fun K8 hK8 => ?_
  refine W.seq fun K9 hK9 => ?_
  refine W.region ?_
  refine wl_field (o := 1) (off' := 1) ff_31_1 rfl rfl rfl ?_
  refine wl_load_blk (i := 0) (vs := [v0_1]) (v := v0_1) tf_23 rfl rfl hS6 rfl rfl rfl ?_
  refine wl_lenr (e := ty_3) (l := x0.2.1) Try.underlying23 rfl rfl h0_1 ?_
  refine wl_move rfl rfl ?_
  refine WL.nil ?_
  refine fun a ha => hK9 _ _ ?_ a ha
  refine W.block ?_
  refine W.loopk (fun m a w10 => ∃ (y13 : Int) (y14 : Int), St 18 [(3, (.int .i64 y13)), (7, v0_1), (8, (.int .i64 (List.length x0.2.1 : Int))), (9, (.int .i64 y14))] a ∧ Below w0.heap.size w0 w10 ∧ Sep w0.heap.size w10 [] ∧ F_spec_swTotal_L1 x0 m y13 y14 = some r) FU ?_ ?_
  ·
    exact fun a ha => ⟨0, 0, ha.sub ⟨rfl, rfl, rfl, rfl, trivial⟩, hB5, (hS6.sel [] rfl), hF⟩
  ·
    rintro m17 a w10 ⟨y13, y14, ha, hB11, hS12, hF⟩ KL16 hKL16
    refine W.at ?_ ha
    cases m17 with
    | zero => exact noneE hF
    | succ m17 =>
      obtain ⟨nx15, hnx15⟩ : ∃ k, k = F_spec_swTotal_L1 x0 m17 := ⟨_, rfl⟩
      rw [F_spec_swTotal_L1, ← hnx15] at hF
      refine W.seq fun K18 hK18 => ?_
      refine W.region ?_
      refine wl_lss rfl rfl rfl ?_
      refine WL.nil ?_
      refine fun a ha => hK18 _ _ ?_ a ha
      refine W.seq fun K19 hK19 => ?_
      refine W.cond rfl (fun h20 => ?_) (fun h20 => ?_)
      · replace hF := ifP h20 hF
        refine W.skip ?_
        refine fun a ha => hK19 _ _ ?_ a ha
        refine W.seq fun K21 hK21 => ?_
        refine W.block ?_
        refine W.seq fun K22 hK22 => ?_
        refine W.region ?_
        obtain ⟨u23, hu23, hF⟩ := bindE hF
        refine wl_index (e := ty_3) Try.underlying23 rfl rfl rfl h0_1 hu23 ?_
        rintro p24 _ rfl hp25
        refine wl_load_p (vs := [(.int .i64 u23)]) (v := (.int .i64 u23)) tf_3 rfl rfl (hp25.ro hB11) rfl rfl ?_
        refine wl_assign rfl rfl ?_
        refine WL.nil ?_
        refine fun a ha => hK22 _ _ ?_ a ha
        refine W.region ?_
        refine wl_move rfl rfl ?_
        refine wl_move rfl rfl ?_
        refine wl_add rfl rfl rfl ?_
        refine wl_assign rfl rfl ?_
        refine WL.nil ?_
        refine fun a ha => hK21 _ _ ?_ a ha
        refine W.region ?_
        refine wl_add rfl rfl rfl ?_
        refine wl_move rfl rfl ?_
        refine WL.nil ?_
        rw [hnx15] at hF
        exact fun a ha => hKL16 a _ m17 (Nat.lt_succ_self m17) ⟨(w64 (y13 + u23)), (w64 (y14 + 1)), ha.sub ⟨rfl, rfl, rfl, rfl, trivial⟩, hB11, (hS12.sel [] rfl), hF⟩
      · replace hF := ifN h20 hF
        refine W.exit ?_
        refine fun a ha => hK8 _ _ ?_ a ha
        refine W.seq fun K26 hK26 => ?_
        refine W.region ?_
        refine wl_move rfl rfl ?_
        refine wl_assign rfl rfl ?_
        refine WL.nil ?_
        refine fun a ha => hK26 _ _ ?_ a ha
        refine W.ret ?_
        have hr := Option.some.inj hF
        subst hr
        exact rets (vs := [(.int .i64 y13)]) hQ rfl ⟨rv_tmp rfl, trivial⟩ ⟨rfl, hB11⟩
theorem C_spec_l1Least (w0 : World) (x0 : Int) (x1 : Int) (r : Int) (hF : F_spec_l1Least x0 x1 = some r) :
    Calls Try.prog 142 [(.int .i64 x0), (.int .i64 x1)].toArray w0 fun e w' => e = .returned (.int .i64 r) ∧ Below w0.heap.size w0 w' := by
  refine calls_mk' Try.func142 rfl Try.ntmps142 rfl rfl fun Q hQ hP => ?_
  have hB : Below w0.heap.size w0 w0 := Below.refl _ _
  have hS : Sep w0.heap.size w0 [] := Sep.nil _ _
  unfold F_spec_l1Least at hF
  refine W.seq fun K1 hK1 => ?_
  refine W.region ?_
  refine wl_assign rfl rfl ?_
  refine WL.nil ?_
  refine fun a ha => hK1 _ _ ?_ a ha
  refine W.seq fun K2 hK2 => ?_
  refine W.seq fun K3 hK3 => ?_
  refine W.region ?_
  refine wl_move rfl rfl ?_
  refine wl_move rfl rfl ?_
  refine wl_lss rfl rfl rfl ?_
  refine WL.nil ?_
  refine fun a ha => hK3 _ _ ?_ a ha
  refine W.cond rfl (fun h4 => ?_) (fun h4 => ?_)
  · replace hF := ifP h4 hF
    refine W.seq fun K5 hK5 => ?_
    refine W.region ?_
    refine wl_move rfl rfl ?_
    refine wl_assign rfl rfl ?_
    refine WL.nil ?_
    refine fun a ha => hK5 _ _ ?_ a ha
    refine W.ret ?_
    have hr := Option.some.inj hF
    subst hr
    exact rets (vs := [(.int .i64 x0)]) hQ rfl ⟨rv_tmp rfl, trivial⟩ ⟨rfl, hB⟩
  · replace hF := ifN h4 hF
    refine W.skip ?_
    refine fun a ha => hK2 _ _ ?_ a ha
    refine W.seq fun K6 hK6 => ?_
    refine W.region ?_
    refine wl_move rfl rfl ?_
    refine wl_assign rfl rfl ?_
    refine WL.nil ?_
    refine fun a ha => hK6 _ _ ?_ a ha
    refine W.ret ?_
    have hr := Option.some.inj hF
    subst hr
    exact rets (vs := [(.int .i64 x1)]) hQ rfl ⟨rv_tmp rfl, trivial⟩ ⟨rfl, hB⟩
theorem C_spec_mnCount (w0 : World) (x0 : (((List (List (Int × Int))) × (List Int) × Int × Int) × Int × (List Int) × (List Int))) (v0_0 : Value) (h0_0 : rdS ty_69 (· < w0.heap.size) w0 v0_0 x0.1.1) (v0_1 : Value) (h0_1 : rdS ty_3 (· < w0.heap.size) w0 v0_1 x0.1.2.1) (v0_2 : Value) (h0_2 : rdS ty_3 (· < w0.heap.size) w0 v0_2 x0.2.2.1) (v0_3 : Value) (h0_3 : rdS ty_3 (· < w0.heap.size) w0 v0_3 x0.2.2.2) (x1 : Int) (r : Int) (hF : F_spec_mnCount x0 x1 = some r) :
    Calls Try.prog 115 [(.agg #[v0_0, v0_1, (.int .i64 x0.1.2.2.1), (.int .i64 x0.1.2.2.2), (.int .i64 x0.2.1), v0_2, v0_3]), (.int .i64 x1)].toArray w0 fun e w' => e = .returned (.int .i64 r) ∧ Below w0.heap.size w0 w' := by
  refine calls_mk' Try.func115 rfl Try.ntmps115 rfl rfl fun Q hQ hP => ?_
  have hB : Below w0.heap.size w0 w0 := Below.refl _ _
  have hS : Sep w0.heap.size w0 [] := Sep.nil _ _
  unfold F_spec_mnCount at hF
  refine W.seq fun K1 hK1 => ?_
  refine W.region ?_
  refine wl_box (cs := [v0_0, v0_1, (.int .i64 x0.1.2.2.1), (.int .i64 x0.1.2.2.2), (.int .i64 x0.2.1), v0_2, v0_3]) rfl rfl rfl hB hS ?_
  intro b2 w3 hb4 hB5 hS6
  refine wl_assign rfl rfl ?_
  refine WL.nil ?_
  refine fun a ha => hK1 _ _ ?_ a ha
  refine W.seq fun K7 hK7 => ?_
  refine W.regionH mixed_ [] hB5 hS6 ?_
  intro w8 hb9 hB10 hS11
  have hSW12 := KeepX.refl w8 []
  refine WH.takex (i := 0) rfl (by kernel_rfl) (by kernel_rfl) (by kernel_rfl) hP hSW12 ?_
  refine pr_field (o := 0) (off' := 0) ff_60_0 rfl rfl rfl ?_
  refine WH.takex (i := 1) rfl (by kernel_rfl) (by kernel_rfl) (by kernel_rfl) hP hSW12 ?_
  refine pr_load_blk (i := 0) (vs := [v0_0, v0_1, (.int .i64 x0.1.2.2.1), (.int .i64 x0.1.2.2.2)]) (v := (.agg #[v0_0, v0_1, (.int .i64 x0.1.2.2.1), (.int .i64 x0.1.2.2.2)])) tf_31 rfl rfl hS11 rfl rfl rfl (by simp) ?_
  refine WH.takex (i := 3) rfl (by kernel_rfl) (by kernel_rfl) (by kernel_rfl) hP hSW12 ?_
  refine pr_field (o := 4) (off' := 4) ff_60_1 rfl rfl rfl ?_
  refine WH.takex (i := 4) rfl (by kernel_rfl) (by kernel_rfl) (by kernel_rfl) hP hSW12 ?_
  refine pr_load_blk (i := 0) (vs := [(.int .i64 x0.2.1)]) (v := (.int .i64 x0.2.1)) tf_3 rfl rfl hS11 rfl rfl rfl (by simp) ?_
  refine WH.takex (i := 5) rfl (by kernel_rfl) (by kernel_rfl) (by kernel_rfl) hP hSW12 ?_
  refine pr_field (o := 6) (off' := 6) ff_60_3 rfl rfl rfl ?_
  refine WH.takex (i := 6) rfl (by kernel_rfl) (by kernel_rfl) (by kernel_rfl) hP hSW12 ?_
  refine pr_load_blk (i := 0) (vs := [v0_3]) (v := v0_3) tf_23 rfl rfl hS11 rfl rfl rfl (by simp) ?_
  refine WH.takex (i := 7) rfl (by kernel_rfl) (by kernel_rfl) (by kernel_rfl) hP hSW12 ?_
  refine pr_move rfl rfl ?_
  obtain ⟨u13, hu13, hF⟩ := bindE hF
  refine WH.takex (i := 8) rfl (by kernel_rfl) (by kernel_rfl) (by kernel_rfl) hP hSW12 ?_
  refine pr_index (e := ty_3) Try.underlying23 rfl rfl rfl h0_3 hu13 ?_
  rintro p14 _ rfl hp15
  refine WH.takex (i := 9) rfl (by kernel_rfl) (by kernel_rfl) (by kernel_rfl) hP hSW12 ?_
  refine pr_load_p (vs := [(.int .i64 u13)]) (v := (.int .i64 u13)) tf_3 rfl rfl (hp15.kx hB10 (by simp)) rfl rfl ?_
  refine WH.takex (i := 10) rfl (by kernel_rfl) (by kernel_rfl) (by kernel_rfl) hP hSW12 ?_
  refine pr_sub rfl rfl rfl ?_
  refine WH.one (i := 2) (by kernel_rfl) rfl ?_
  obtain ⟨u16, hu16, hF⟩ := bindE hF
  refine wl_call rfl Try.call116 (C_spec_swTotal w8 x0.1 v0_0 (h0_0.ro hB10) v0_1 (h0_1.ro hB10) _ hu16) rfl ?_
  rintro _ w17 ⟨rfl, hb18⟩
  refine ⟨_, rfl, ?_⟩
  have hB19 := hB10.trans (hb18.mono hB10.size)
  have hS20 := hS11.below hb18
  have hSW22 := hSW12.ext hb18
  refine WL.nil (WH.ret hSW22 ?_)
  refine WH.one (i := 11) (by kernel_rfl) rfl ?_
  obtain ⟨u23, hu23, hF⟩ := bindE hF
  refine wl_call rfl Try.call142 (C_spec_l1Least w17 u16 (w64 (x0.2.1 - u13)) _ hu23) rfl ?_
  rintro _ w24 ⟨rfl, hb25⟩
  refine ⟨_, rfl, ?_⟩
  have hB26 := hB19.trans (hb25.mono hB19.size)
  have hS27 := hS20.below hb25
  have hSW29 := hSW22.ext hb25
  refine WL.nil (WH.ret hSW29 ?_)
  refine WH.takex (i := 12) rfl (by kernel_rfl) (by kernel_rfl) (by kernel_rfl) hP hSW29 ?_
  refine pr_assign rfl rfl ?_
  refine WH.done (by kernel_rfl) ?_
  refine fun a ha => hK7 _ _ ?_ a ha
  refine W.ret ?_
  have hr := Option.some.inj hF
  subst hr
  exact rets (vs := [(.int .i64 u23)]) hQ rfl ⟨rv_tmp rfl, trivial⟩ ⟨rfl, hB26⟩
theorem C_spec_StillGoing (w0 : World) (x0 : (((List (List (Int × Int))) × (List Int) × Int × Int) × Int × (List Int) × (List Int))) (v0_0 : Value) (h0_0 : rdS ty_69 (· < w0.heap.size) w0 v0_0 x0.1.1) (v0_1 : Value) (h0_1 : rdS ty_3 (· < w0.heap.size) w0 v0_1 x0.1.2.1) (v0_2 : Value) (h0_2 : rdS ty_3 (· < w0.heap.size) w0 v0_2 x0.2.2.1) (v0_3 : Value) (h0_3 : rdS ty_3 (· < w0.heap.size) w0 v0_3 x0.2.2.2) (r : ((List Int) × Bool)) (hF : F_spec_StillGoing x0 = some r) :
    Calls Try.prog 65 [(.agg #[v0_0, v0_1, (.int .i64 x0.1.2.2.1), (.int .i64 x0.1.2.2.2), (.int .i64 x0.2.1), v0_2, v0_3])].toArray w0 fun e w' => ∃ (q0 : Value) (G0 : List Nat), e = .returned (.tuple #[q0, (.bool r.2)]) ∧ Below w0.heap.size w0 w' ∧ Sep w0.heap.size w' [R.own ty_3 G0 q0 r.1] := by
  refine calls_mk' Try.func65 rfl Try.ntmps65 rfl rfl fun Q hQ hP => ?_
  have hB : Below w0.heap.size w0 w0 := Below.refl _ _
  have hS : Sep w0.heap.size w0 [] := Sep.nil _ _
  unfold F_spec_StillGoing at hF
  refine W.seq fun K1 hK1 => ?_
  refine W.region ?_
  refine wl_box (cs := [v0_0, v0_1, (.int .i64 x0.1.2.2.1), (.int .i64 x0.1.2.2.2), (.int .i64 x0.2.1), v0_2, v0_3]) rfl rfl rfl hB hS ?_
  intro b2 w3 hb4 hB5 hS6
  refine wl_assign rfl rfl ?_
  refine wl_assign rfl rfl ?_
  refine WL.nil ?_
  refine fun a ha => hK1 _ _ ?_ a ha
  refine W.seq fun K7 hK7 => ?_
  refine W.seq fun K8 hK8 => ?_
  refine W.region ?_
  refine wl_load_blk (i := 0) (vs := [v0_0, v0_1, (.int .i64 x0.1.2.2.1), (.int .i64 x0.1.2.2.2), (.int .i64 x0.2.1), v0_2, v0_3]) (v := (.agg #[v0_0, v0_1, (.int .i64 x0.1.2.2.1), (.int .i64 x0.1.2.2.2), (.int .i64 x0.2.1), v0_2, v0_3])) tf_60 rfl rfl hS6 rfl rfl rfl ?_
  obtain ⟨u9, hu9, hF⟩ := bindE hF
  refine wl_call rfl Try.call93 (C_spec_mnGood w3 x0 v0_0 (h0_0.ro hB5) v0_1 (h0_1.ro hB5) v0_2 (h0_2.ro hB5) v0_3 (h0_3.ro hB5) _ hu9) rfl ?_
  rintro _ w10 ⟨rfl, hb11⟩
  refine ⟨_, rfl, ?_⟩
  have hB12 := hB5.trans (hb11.mono hB5.size)
  have hS13 := hS6.below hb11
  refine wl_not rfl rfl ?_
  refine WL.nil ?_
  refine fun a ha => hK8 _ _ ?_ a ha
  refine W.cond rfl (fun h15 => ?_) (fun h15 => ?_)
  · replace hF := ifP h15 hF
    refine W.seq fun K16 hK16 => ?_
    refine W.region ?_
    refine wl_assign rfl rfl ?_
    refine wl_assign rfl rfl ?_
    refine WL.nil ?_
    refine fun a ha => hK16 _ _ ?_ a ha
    refine W.ret ?_
    have hS17 := hS13.push0 (r := R.own ty_3 [] (.slice none 0 0) []) rfl fun _ => .inl ⟨rfl, rfl, rfl⟩
    have hr := Option.some.inj hF
    subst hr
    exact rets (vs := [(.slice none 0 0), (.bool false)]) hQ rfl ⟨rv_tmp rfl, rv_tmp rfl, trivial⟩ ⟨(.slice none 0 0), [], rfl, hB12, hS17.sel [0] rfl⟩
  · replace hF := ifN h15 hF
    refine W.skip ?_
    refine fun a ha => hK7 _ _ ?_ a ha
    refine W.seq fun K18 hK18 => ?_
    refine W.region ?_
    refine wl_assign rfl rfl ?_
    refine WL.nil ?_
    refine fun a ha => hK18 _ _ ?_ a ha
    refine W.seq fun K19 hK19 => ?_
    refine W.seq fun K20 hK20 => ?_
    refine W.region ?_
    refine wl_field (o := 6) (off' := 6) ff_60_3 rfl rfl rfl ?_
    refine wl_load_blk (i := 0) (vs := [v0_3]) (v := v0_3) tf_23 rfl rfl hS13 rfl rfl rfl ?_
    refine wl_lenr (e := ty_3) (l := x0.2.2.2) Try.underlying23 rfl rfl h0_3 ?_
    refine wl_move rfl rfl ?_
    refine WL.nil ?_
    refine fun a ha => hK20 _ _ ?_ a ha
    refine W.block ?_
    refine W.loopk (fun m a w21 => ∃ (l24 : (List Int)) (y27 : Int) (v25 : Value) (F26 : List Nat), St 28 [(1, (.pointer (some ⟨b2, 0, none⟩))), (4, v25), (11, (.int .i64 (List.length x0.2.2.2 : Int))), (12, (.int .i64 y27))] a ∧ Below w0.heap.size w0 w21 ∧ Sep w0.heap.size w21 [R.blk b2 60 [v0_0, v0_1, (.int .i64 x0.1.2.2.1), (.int .i64 x0.1.2.2.2), (.int .i64 x0.2.1), v0_2, v0_3], R.own ty_3 F26 v25 l24] ∧ F_spec_StillGoing_L1 x0 m l24 y27 = some r) FU ?_ ?_
    ·
      have hS29 := hS13.push0 (r := R.own ty_3 [] (.slice none 0 0) []) rfl fun _ => .inl ⟨rfl, rfl, rfl⟩
      exact fun a ha => ⟨[], 0, (.slice none 0 0), [], ha.sub ⟨rfl, rfl, rfl, rfl, trivial⟩, hB12, (hS29.sel [1, 0] rfl), hF⟩
    ·
      rintro m31 a w21 ⟨l24, y27, v25, F26, ha, hB22, hS23, hF⟩ KL30 hKL30
      refine W.at ?_ ha
      cases m31 with
      | zero => exact noneE hF
      | succ m31 =>
        obtain ⟨nx28, hnx28⟩ : ∃ k, k = F_spec_StillGoing_L1 x0 m31 := ⟨_, rfl⟩
        rw [F_spec_StillGoing_L1, ← hnx28] at hF
        refine W.seq fun K32 hK32 => ?_
        refine W.region ?_
        refine wl_lss rfl rfl rfl ?_
        refine WL.nil ?_
        refine fun a ha => hK32 _ _ ?_ a ha
        refine W.seq fun K33 hK33 => ?_
        refine W.cond rfl (fun h34 => ?_) (fun h34 => ?_)
        · replace hF := ifP h34 hF
          refine W.skip ?_
          refine fun a ha => hK33 _ _ ?_ a ha
          refine W.seq fun K35 hK35 => ?_
          obtain ⟨k42, hk42, hF⟩ := jE1 hF
          have hJ43 : ∀ (l39 : (List Int)) (v40 : Value) (F41 : List Nat) (w36 : World) (_ : k42 l39 = some r) (_ : Below w0.heap.size w0 w36) (_ : Sep w0.heap.size w36 [R.blk b2 60 [v0_0, v0_1, (.int .i64 x0.1.2.2.1), (.int .i64 x0.1.2.2.2), (.int .i64 x0.2.1), v0_2, v0_3], R.own ty_3 F41 v40 l39]), ∀ a, St 28 [(1, (.pointer (some ⟨b2, 0, none⟩))), (4, v40), (11, (.int .i64 (List.length x0.2.2.2 : Int))), (12, (.int .i64 y27))] a → K35 a w36 := by
            intro l39 v40 F41 w36 hF hB37 hS38
            subst hk42
            refine fun a ha => hK35 _ _ ?_ a ha
            refine W.region ?_
            refine wl_add rfl rfl rfl ?_
            refine wl_move rfl rfl ?_
            refine WL.nil ?_
            rw [hnx28] at hF
            exact fun a ha => hKL30 a _ m31 (Nat.lt_succ_self m31) ⟨l39, (w64 (y27 + 1)), v40, F41, ha.sub ⟨rfl, rfl, rfl, rfl, trivial⟩, hB37, (hS38.sel [0, 1] rfl), hF⟩
          refine W.block ?_
          refine W.seq fun K44 hK44 => ?_
          refine W.region ?_
          refine wl_move rfl rfl ?_
          refine wl_assign rfl rfl ?_
          refine WL.nil ?_
          refine fun a ha => hK44 _ _ ?_ a ha
          refine W.seq fun K45 hK45 => ?_
          refine W.regionH mixed_ [] hB22 hS23 ?_
          intro w46 hb47 hB48 hS49
          have hSW50 := KeepX.refl w46 []
          refine WH.takex (i := 0) rfl (by kernel_rfl) (by kernel_rfl) (by kernel_rfl) hP hSW50 ?_
          refine pr_load_blk (i := 0) (vs := [v0_0, v0_1, (.int .i64 x0.1.2.2.1), (.int .i64 x0.1.2.2.2), (.int .i64 x0.2.1), v0_2, v0_3]) (v := (.agg #[v0_0, v0_1, (.int .i64 x0.1.2.2.1), (.int .i64 x0.1.2.2.2), (.int .i64 x0.2.1), v0_2, v0_3])) tf_60 rfl rfl hS49 rfl rfl rfl (by simp) ?_
          refine WH.takex (i := 1) rfl (by kernel_rfl) (by kernel_rfl) (by kernel_rfl) hP hSW50 ?_
          refine pr_move rfl rfl ?_
          refine WH.takex (i := 3) rfl (by kernel_rfl) (by kernel_rfl) (by kernel_rfl) hP hSW50 ?_
          refine pr_field (o := 0) (off' := 0) ff_60_0 rfl rfl rfl ?_
          refine WH.takex (i := 4) rfl (by kernel_rfl) (by kernel_rfl) (by kernel_rfl) hP hSW50 ?_
          refine pr_load_blk (i := 0) (vs := [v0_0, v0_1, (.int .i64 x0.1.2.2.1), (.int .i64 x0.1.2.2.2)]) (v := (.agg #[v0_0, v0_1, (.int .i64 x0.1.2.2.1), (.int .i64 x0.1.2.2.2)])) tf_31 rfl rfl hS49 rfl rfl rfl (by simp) ?_
          refine WH.one (i := 2) (by kernel_rfl) rfl ?_
          obtain ⟨u51, hu51, hF⟩ := bindE hF
          refine wl_call rfl Try.call115 (C_spec_mnCount w46 x0 v0_0 (h0_0.ro hB48) v0_1 (h0_1.ro hB48) v0_2 (h0_2.ro hB48) v0_3 (h0_3.ro hB48) y27 _ hu51) rfl ?_
          rintro _ w52 ⟨rfl, hb53⟩
          refine ⟨_, rfl, ?_⟩
          have hB54 := hB48.trans (hb53.mono hB48.size)
          have hS55 := hS49.below hb53
          have hSW57 := hSW50.ext hb53
          refine WL.nil (WH.ret hSW57 ?_)
          refine WH.one (i := 5) (by kernel_rfl) rfl ?_
          obtain ⟨u58, hu58, hF⟩ := bindE hF
          refine wl_call rfl Try.call116 (C_spec_swTotal w52 x0.1 v0_0 (h0_0.ro hB54) v0_1 (h0_1.ro hB54) _ hu58) rfl ?_
          rintro _ w59 ⟨rfl, hb60⟩
          refine ⟨_, rfl, ?_⟩
          have hB61 := hB54.trans (hb60.mono hB54.size)
          have hS62 := hS55.below hb60
          have hSW64 := hSW57.ext hb60
          refine WL.nil (WH.ret hSW64 ?_)
          refine WH.takex (i := 6) rfl (by kernel_rfl) (by kernel_rfl) (by kernel_rfl) hP hSW64 ?_
          refine pr_lss rfl rfl rfl ?_
          refine WH.done (by kernel_rfl) ?_
          refine fun a ha => hK45 _ _ ?_ a ha
          refine W.cond rfl (fun h65 => ?_) (fun h65 => ?_)
          · replace hF := ifP h65 hF
            refine W.region ?_
            refine wl_move rfl rfl ?_
            refine wl_move rfl rfl ?_
            refine wl_lit (vs := [(.int .i64 y27)]) (l := [y27]) fl_3 Try.underlying23 rfl rfl rfl rfl rfl rfl hB61 hS62 ?_
            intro v66 F67 w68 hb69 hB70 hS71
            obtain ⟨u72, hu72, hF⟩ := bindE hF
            refine wl_append (i := 2) (S := (· < w68.heap.size)) fl_3 Try.underlying23 rfl rfl rfl hB70 hS71 rfl (hS71.own_ro (i := 0) rfl) hu72 ?_
            intro v73 F74 w75 hk76 hB77 hS78
            refine wl_assign rfl rfl ?_
            refine WL.nil ?_
            exact fun a ha => hJ43 (u72) (v73) (F74) _ hF hB77 (hS78.sel [1, 2] rfl) a (ha.sub ⟨rfl, rfl, rfl, rfl, trivial⟩)
          · replace hF := ifN h65 hF
            refine W.skip ?_
            exact fun a ha => hJ43 (l24) (v25) (F26) _ hF hB61 (hS62.sel [0, 1] rfl) a (ha.sub ⟨rfl, rfl, rfl, rfl, trivial⟩)
        · replace hF := ifN h34 hF
          refine W.exit ?_
          refine fun a ha => hK19 _ _ ?_ a ha
          refine W.seq fun K79 hK79 => ?_
          refine W.region ?_
          refine wl_move rfl rfl ?_
          refine wl_assign rfl rfl ?_
          refine wl_assign rfl rfl ?_
          refine WL.nil ?_
          refine fun a ha => hK79 _ _ ?_ a ha
          refine W.ret ?_
          have hr := Option.some.inj hF
          subst hr
          exact rets (vs := [v25, (.bool true)]) hQ rfl ⟨rv_tmp rfl, rv_tmp rfl, trivial⟩ ⟨v25, F26, rfl, hB22, hS23.sel [1] rfl⟩
theorem C_impl_totalCounts (w0 : World) (x0 : ((List (List (Int × Int))) × (List Int) × Int × Int)) (v0_0 : Value) (h0_0 : rdS ty_69 (· < w0.heap.size) w0 v0_0 x0.1) (v0_1 : Value) (h0_1 : rdS ty_3 (· < w0.heap.size) w0 v0_1 x0.2.1) (r : Int) (hF : F_impl_totalCounts x0 = some r) :
    Calls Try.prog 118 [(.agg #[v0_0, v0_1, (.int .i64 x0.2.2.1), (.int .i64 x0.2.2.2)])].toArray w0 fun e w' => e = .returned (.int .i64 r) ∧ Below w0.heap.size w0 w' := by
  refine calls_mk' Try.func118 rfl Try.ntmps118 rfl rfl fun Q hQ hP => ?_
  have hB : Below w0.heap.size w0 w0 := Below.refl _ _
  have hS : Sep w0.heap.size w0 [] := Sep.nil _ _
  unfold F_impl_totalCounts at hF
  refine W.seq fun K1 hK1 => ?_
  refine W.region ?_
  refine wl_box (cs := [v0_0, v0_1, (.int .i64 x0.2.2.1), (.int .i64 x0.2.2.2)]) rfl rfl rfl hB hS ?_
  intro b2 w3 hb4 hB5 hS6
  refine wl_assign rfl rfl ?_
  refine WL.nil ?_
  refine fun a ha => hK1 _ _ ?_ a ha
  refine W.seq fun K7 hK7 => ?_
  refine W.region ?_
  refine wl_assign rfl rfl ?_
  refine WL.nil ?_
  refine fun a ha => hK7 _ _ ?_ a ha
  refine W.seq fun K8 hK8 => ?_
  refine W.seq fun K9 hK9 => ?_
  refine W.region ?_
  refine wl_field (o := 1) (off' := 1) ff_31_1 rfl rfl rfl ?_
  refine wl_load_blk (i := 0) (vs := [v0_1]) (v := v0_1) tf_23 rfl rfl hS6 rfl rfl rfl ?_
  refine wl_lenr (e := ty_3) (l := x0.2.1) Try.underlying23 rfl rfl h0_1 ?_
  refine wl_move rfl rfl ?_
  refine WL.nil ?_
  refine fun a ha => hK9 _ _ ?_ a ha
  refine W.block ?_
  refine W.loopk (fun m a w10 => ∃ (y13 : Int) (y14 : Int), St 18 [(3, (.int .i64 y13)), (7, v0_1), (8, (.int .i64 (List.length x0.2.1 : Int))), (9, (.int .i64 y14))] a ∧ Below w0.heap.size w0 w10 ∧ Sep w0.heap.size w10 [] ∧ F_impl_totalCounts_L1 x0 m y13 y14 = some r) FU ?_ ?_
  ·
    exact fun a ha => ⟨0, 0, ha.sub ⟨rfl, rfl, rfl, rfl, trivial⟩, hB5, (hS6.sel [] rfl), hF⟩
  ·
    rintro m17 a w10 ⟨y13, y14, ha, hB11, hS12, hF⟩ KL16 hKL16
    refine W.at ?_ ha
    cases m17 with
    | zero => exact noneE hF
    | succ m17 =>
      obtain ⟨nx15, hnx15⟩ : ∃ k, k = F_impl_totalCounts_L1 x0 m17 := ⟨_, rfl⟩
      rw [F_impl_totalCounts_L1, ← hnx15] at hF
      refine W.seq fun K18 hK18 => ?_
      refine W.region ?_
      refine wl_lss rfl rfl rfl ?_
      refine WL.nil ?_
      refine fun a ha => hK18 _ _ ?_ a ha
      refine W.seq fun K19 hK19 => ?_
      refine W.cond rfl (fun h20 => ?_) (fun h20 => ?_)
      · replace hF := ifP h20 hF
        refine W.skip ?_
        refine fun a ha => hK19 _ _ ?_ a ha
        refine W.seq fun K21 hK21 => ?_
        refine W.block ?_
        refine W.seq fun K22 hK22 => ?_
        refine W.region ?_
        obtain ⟨u23, hu23, hF⟩ := bindE hF
        refine wl_index (e := ty_3) Try.underlying23 rfl rfl rfl h0_1 hu23 ?_
        rintro p24 _ rfl hp25
        refine wl_load_p (vs := [(.int .i64 u23)]) (v := (.int .i64 u23)) tf_3 rfl rfl (hp25.ro hB11) rfl rfl ?_
        refine wl_assign rfl rfl ?_
        refine WL.nil ?_
        refine fun a ha => hK22 _ _ ?_ a ha
        refine W.region ?_
        refine wl_move rfl rfl ?_
        refine wl_move rfl rfl ?_
        refine wl_add rfl rfl rfl ?_
        refine wl_assign rfl rfl ?_
        refine WL.nil ?_
        refine fun a ha => hK21 _ _ ?_ a ha
        refine W.region ?_
        refine wl_add rfl rfl rfl ?_
        refine wl_move rfl rfl ?_
        refine WL.nil ?_
        rw [hnx15] at hF
        exact fun a ha => hKL16 a _ m17 (Nat.lt_succ_self m17) ⟨(w64 (y13 + u23)), (w64 (y14 + 1)), ha.sub ⟨rfl, rfl, rfl, rfl, trivial⟩, hB11, (hS12.sel [] rfl), hF⟩
      · replace hF := ifN h20 hF
        refine W.exit ?_
        refine fun a ha => hK8 _ _ ?_ a ha
        refine W.seq fun K26 hK26 => ?_
        refine W.region ?_
        refine wl_move rfl rfl ?_
        refine wl_assign rfl rfl ?_
        refine WL.nil ?_
        refine fun a ha => hK26 _ _ ?_ a ha
        refine W.ret ?_
        have hr := Option.some.inj hF
        subst hr
        exact rets (vs := [(.int .i64 y13)]) hQ rfl ⟨rv_tmp rfl, trivial⟩ ⟨rfl, hB11⟩
theorem C_impl_ownCount (w0 : World) (x0 : (((List (List (Int × Int))) × (List Int) × Int × Int) × Int × (List Int) × (List Int))) (v0_0 : Value) (h0_0 : rdS ty_69 (· < w0.heap.size) w0 v0_0 x0.1.1) (v0_1 : Value) (h0_1 : rdS ty_3 (· < w0.heap.size) w0 v0_1 x0.1.2.1) (v0_2 : Value) (h0_2 : rdS ty_3 (· < w0.heap.size) w0 v0_2 x0.2.2.1) (v0_3 : Value) (h0_3 : rdS ty_3 (· < w0.heap.size) w0 v0_3 x0.2.2.2) (x1 : Int) (r : Int) (hF : F_impl_ownCount x0 x1 = some r) :
    Calls Try.prog 117 [(.agg #[v0_0, v0_1, (.int .i64 x0.1.2.2.1), (.int .i64 x0.1.2.2.2), (.int .i64 x0.2.1), v0_2, v0_3]), (.int .i64 x1)].toArray w0 fun e w' => e = .returned (.int .i64 r) ∧ Below w0.heap.size w0 w' := by
  refine calls_mk' Try.func117 rfl Try.ntmps117 rfl rfl fun Q hQ hP => ?_
  have hB : Below w0.heap.size w0 w0 := Below.refl _ _
  have hS : Sep w0.heap.size w0 [] := Sep.nil _ _
  unfold F_impl_ownCount at hF
  refine W.seq fun K1 hK1 => ?_
  refine W.region ?_
  refine wl_box (cs := [v0_0, v0_1, (.int .i64 x0.1.2.2.1), (.int .i64 x0.1.2.2.2), (.int .i64 x0.2.1), v0_2, v0_3]) rfl rfl rfl hB hS ?_
  intro b2 w3 hb4 hB5 hS6
  refine wl_assign rfl rfl ?_
  refine WL.nil ?_
  refine fun a ha => hK1 _ _ ?_ a ha
  refine W.seq fun K7 hK7 => ?_
  refine W.regionH mixed_ [] hB5 hS6 ?_
  intro w8 hb9 hB10 hS11
  have hSW12 := KeepX.refl w8 []
  refine WH.takex (i := 0) rfl (by kernel_rfl) (by kernel_rfl) (by kernel_rfl) hP hSW12 ?_
  refine pr_field (o := 4) (off' := 4) ff_60_1 rfl rfl rfl ?_
  refine WH.takex (i := 1) rfl (by kernel_rfl) (by kernel_rfl) (by kernel_rfl) hP hSW12 ?_
  refine pr_load_blk (i := 0) (vs := [(.int .i64 x0.2.1)]) (v := (.int .i64 x0.2.1)) tf_3 rfl rfl hS11 rfl rfl rfl (by simp) ?_
  refine WH.takex (i := 2) rfl (by kernel_rfl) (by kernel_rfl) (by kernel_rfl) hP hSW12 ?_
  refine pr_field (o := 6) (off' := 6) ff_60_3 rfl rfl rfl ?_
  refine WH.takex (i := 3) rfl (by kernel_rfl) (by kernel_rfl) (by kernel_rfl) hP hSW12 ?_
  refine pr_load_blk (i := 0) (vs := [v0_3]) (v := v0_3) tf_23 rfl rfl hS11 rfl rfl rfl (by simp) ?_
  refine WH.takex (i := 4) rfl (by kernel_rfl) (by kernel_rfl) (by kernel_rfl) hP hSW12 ?_
  refine pr_move rfl rfl ?_
  obtain ⟨u13, hu13, hF⟩ := bindE hF
  refine WH.takex (i := 5) rfl (by kernel_rfl) (by kernel_rfl) (by kernel_rfl) hP hSW12 ?_
  refine pr_index (e := ty_3) Try.underlying23 rfl rfl rfl h0_3 hu13 ?_
  rintro p14 _ rfl hp15
  refine WH.takex (i := 6) rfl (by kernel_rfl) (by kernel_rfl) (by kernel_rfl) hP hSW12 ?_
  refine pr_load_p (vs := [(.int .i64 u13)]) (v := (.int .i64 u13)) tf_3 rfl rfl (hp15.kx hB10 (by simp)) rfl rfl ?_
  refine WH.takex (i := 7) rfl (by kernel_rfl) (by kernel_rfl) (by kernel_rfl) hP hSW12 ?_
  refine pr_sub rfl rfl rfl ?_
  refine WH.takex (i := 8) rfl (by kernel_rfl) (by kernel_rfl) (by kernel_rfl) hP hSW12 ?_
  refine pr_field (o := 0) (off' := 0) ff_60_0 rfl rfl rfl ?_
  refine WH.takex (i := 9) rfl (by kernel_rfl) (by kernel_rfl) (by kernel_rfl) hP hSW12 ?_
  refine pr_load_blk (i := 0) (vs := [v0_0, v0_1, (.int .i64 x0.1.2.2.1), (.int .i64 x0.1.2.2.2)]) (v := (.agg #[v0_0, v0_1, (.int .i64 x0.1.2.2.1), (.int .i64 x0.1.2.2.2)])) tf_31 rfl rfl hS11 rfl rfl rfl (by simp) ?_
  refine WH.one (i := 10) (by kernel_rfl) rfl ?_
  obtain ⟨u16, hu16, hF⟩ := bindE hF
  refine wl_call rfl Try.call118 (C_impl_totalCounts w8 x0.1 v0_0 (h0_0.ro hB10) v0_1 (h0_1.ro hB10) _ hu16) rfl ?_
  rintro _ w17 ⟨rfl, hb18⟩
  refine ⟨_, rfl, ?_⟩
  have hB19 := hB10.trans (hb18.mono hB10.size)
  have hS20 := hS11.below hb18
  have hSW22 := hSW12.ext hb18
  refine WL.nil (WH.ret hSW22 ?_)
  refine WH.takex (i := 11) rfl (by kernel_rfl) (by kernel_rfl) (by kernel_rfl) hP hSW22 ?_
  refine pr_min rfl rfl rfl ?_
  refine WH.takex (i := 12) rfl (by kernel_rfl) (by kernel_rfl) (by kernel_rfl) hP hSW22 ?_
  refine pr_assign rfl rfl ?_
  refine WH.done (by kernel_rfl) ?_
  refine fun a ha => hK7 _ _ ?_ a ha
  refine W.ret ?_
  have hr := Option.some.inj hF
  subst hr
  exact rets (vs := [(.int .i64 (minI (w64 (x0.2.1 - u13)) u16))]) hQ rfl ⟨rv_tmp rfl, trivial⟩ ⟨rfl, hB19⟩
theorem C_impl_StillGoing (w0 : World) (x0 : (((List (List (Int × Int))) × (List Int) × Int × Int) × Int × (List Int) × (List Int))) (v0_0 : Value) (h0_0 : rdS ty_69 (· < w0.heap.size) w0 v0_0 x0.1.1) (v0_1 : Value) (h0_1 : rdS ty_3 (· < w0.heap.size) w0 v0_1 x0.1.2.1) (v0_2 : Value) (h0_2 : rdS ty_3 (· < w0.heap.size) w0 v0_2 x0.2.2.1) (v0_3 : Value) (h0_3 : rdS ty_3 (· < w0.heap.size) w0 v0_3 x0.2.2.2) (r : ((List Int) × Bool)) (hF : F_impl_StillGoing x0 = some r) :
    Calls Try.prog 66 [(.agg #[v0_0, v0_1, (.int .i64 x0.1.2.2.1), (.int .i64 x0.1.2.2.2), (.int .i64 x0.2.1), v0_2, v0_3])].toArray w0 fun e w' => ∃ (q0 : Value) (G0 : List Nat), e = .returned (.tuple #[q0, (.bool r.2)]) ∧ Below w0.heap.size w0 w' ∧ Sep w0.heap.size w' [R.own ty_3 G0 q0 r.1] := by
  refine calls_mk' Try.func66 rfl Try.ntmps66 rfl rfl fun Q hQ hP => ?_
  have hB : Below w0.heap.size w0 w0 := Below.refl _ _
  have hS : Sep w0.heap.size w0 [] := Sep.nil _ _
  unfold F_impl_StillGoing at hF
  refine W.seq fun K1 hK1 => ?_
  refine W.region ?_
  refine wl_box (cs := [v0_0, v0_1, (.int .i64 x0.1.2.2.1), (.int .i64 x0.1.2.2.2), (.int .i64 x0.2.1), v0_2, v0_3]) rfl rfl rfl hB hS ?_
  intro b2 w3 hb4 hB5 hS6
  refine wl_assign rfl rfl ?_
  refine wl_assign rfl rfl ?_
  refine WL.nil ?_
  refine fun a ha => hK1 _ _ ?_ a ha
  refine W.seq fun K7 hK7 => ?_
  refine W.seq fun K8 hK8 => ?_
  refine W.region ?_
  refine wl_load_blk (i := 0) (vs := [v0_0, v0_1, (.int .i64 x0.1.2.2.1), (.int .i64 x0.1.2.2.2), (.int .i64 x0.2.1), v0_2, v0_3]) (v := (.agg #[v0_0, v0_1, (.int .i64 x0.1.2.2.1), (.int .i64 x0.1.2.2.2), (.int .i64 x0.2.1), v0_2, v0_3])) tf_60 rfl rfl hS6 rfl rfl rfl ?_
  obtain ⟨u9, hu9, hF⟩ := bindE hF
  refine wl_call rfl Try.call94 (C_impl_IsMarch w3 x0 v0_0 (h0_0.ro hB5) v0_1 (h0_1.ro hB5) v0_2 (h0_2.ro hB5) v0_3 (h0_3.ro hB5) _ hu9) rfl ?_
  rintro _ w10 ⟨rfl, hb11⟩
  refine ⟨_, rfl, ?_⟩
  have hB12 := hB5.trans (hb11.mono hB5.size)
  have hS13 := hS6.below hb11
  refine wl_not rfl rfl ?_
  refine WL.nil ?_
  refine fun a ha => hK8 _ _ ?_ a ha
  refine W.cond rfl (fun h15 => ?_) (fun h15 => ?_)
  · replace hF := ifP h15 hF
    refine W.seq fun K16 hK16 => ?_
    refine W.region ?_
    refine wl_assign rfl rfl ?_
    refine wl_assign rfl rfl ?_
    refine WL.nil ?_
    refine fun a ha => hK16 _ _ ?_ a ha
    refine W.ret ?_
    have hS17 := hS13.push0 (r := R.own ty_3 [] (.slice none 0 0) []) rfl fun _ => .inl ⟨rfl, rfl, rfl⟩
    have hr := Option.some.inj hF
    subst hr
    exact rets (vs := [(.slice none 0 0), (.bool false)]) hQ rfl ⟨rv_tmp rfl, rv_tmp rfl, trivial⟩ ⟨(.slice none 0 0), [], rfl, hB12, hS17.sel [0] rfl⟩
  · replace hF := ifN h15 hF
    refine W.skip ?_
    refine fun a ha => hK7 _ _ ?_ a ha
    refine W.seq fun K18 hK18 => ?_
    refine W.region ?_
    refine wl_lit (vs := []) (l := []) fl_3 Try.underlying23 rfl rfl rfl rfl rfl rfl hB12 hS13 ?_
    intro v19 F20 w21 hb22 hB23 hS24
    refine wl_assign rfl rfl ?_
    refine WL.nil ?_
    refine fun a ha => hK18 _ _ ?_ a ha
    refine W.seq fun K25 hK25 => ?_
    refine W.seq fun K26 hK26 => ?_
    refine W.region ?_
    refine wl_field (o := 6) (off' := 6) ff_60_3 rfl rfl rfl ?_
    refine wl_load_blk (i := 1) (vs := [v0_3]) (v := v0_3) tf_23 rfl rfl hS24 rfl rfl rfl ?_
    refine wl_lenr (e := ty_3) (l := x0.2.2.2) Try.underlying23 rfl rfl h0_3 ?_
    refine wl_move rfl rfl ?_
    refine WL.nil ?_
    refine fun a ha => hK26 _ _ ?_ a ha
    refine W.block ?_
    refine W.loopk (fun m a w27 => ∃ (l30 : (List Int)) (y33 : Int) (v31 : Value) (F32 : List Nat), St 29 [(1, (.pointer (some ⟨b2, 0, none⟩))), (4, v31), (12, (.int .i64 (List.length x0.2.2.2 : Int))), (13, (.int .i64 y33))] a ∧ Below w0.heap.size w0 w27 ∧ Sep w0.heap.size w27 [R.blk b2 60 [v0_0, v0_1, (.int .i64 x0.1.2.2.1), (.int .i64 x0.1.2.2.2), (.int .i64 x0.2.1), v0_2, v0_3], R.own ty_3 F32 v31 l30] ∧ F_impl_StillGoing_L1 x0 m l30 y33 = some r) FU ?_ ?_
    ·
      exact fun a ha => ⟨[], 0, v19, F20, ha.sub ⟨rfl, rfl, rfl, rfl, trivial⟩, hB23, (hS24.sel [1, 0] rfl), hF⟩
    ·
      rintro m36 a w27 ⟨l30, y33, v31, F32, ha, hB28, hS29, hF⟩ KL35 hKL35
      refine W.at ?_ ha
      cases m36 with
      | zero => exact noneE hF
      | succ m36 =>
        obtain ⟨nx34, hnx34⟩ : ∃ k, k = F_impl_StillGoing_L1 x0 m36 := ⟨_, rfl⟩
        rw [F_impl_StillGoing_L1, ← hnx34] at hF
        refine W.seq fun K37 hK37 => ?_
        refine W.region ?_
        refine wl_lss rfl rfl rfl ?_
        refine WL.nil ?_
        refine fun a ha => hK37 _ _ ?_ a ha
        refine W.seq fun K38 hK38 => ?_
        refine W.cond rfl (fun h39 => ?_) (fun h39 => ?_)
        · replace hF := ifP h39 hF
          refine W.skip ?_
          refine fun a ha => hK38 _ _ ?_ a ha
          refine W.seq fun K40 hK40 => ?_
          obtain ⟨k47, hk47, hF⟩ := jE1 hF
          have hJ48 : ∀ (l44 : (List Int)) (v45 : Value) (F46 : List Nat) (w41 : World) (_ : k47 l44 = some r) (_ : Below w0.heap.size w0 w41) (_ : Sep w0.heap.size w41 [R.blk b2 60 [v0_0, v0_1, (.int .i64 x0.1.2.2.1), (.int .i64 x0.1.2.2.2), (.int .i64 x0.2.1), v0_2, v0_3], R.own ty_3 F46 v45 l44]), ∀ a, St 29 [(1, (.pointer (some ⟨b2, 0, none⟩))), (4, v45), (12, (.int .i64 (List.length x0.2.2.2 : Int))), (13, (.int .i64 y33))] a → K40 a w41 := by
            intro l44 v45 F46 w41 hF hB42 hS43
            subst hk47
            refine fun a ha => hK40 _ _ ?_ a ha
            refine W.region ?_
            refine wl_add rfl rfl rfl ?_
            refine wl_move rfl rfl ?_
            refine WL.nil ?_
            rw [hnx34] at hF
            exact fun a ha => hKL35 a _ m36 (Nat.lt_succ_self m36) ⟨l44, (w64 (y33 + 1)), v45, F46, ha.sub ⟨rfl, rfl, rfl, rfl, trivial⟩, hB42, (hS43.sel [0, 1] rfl), hF⟩
          refine W.block ?_
          refine W.seq fun K49 hK49 => ?_
          refine W.region ?_
          refine wl_move rfl rfl ?_
          refine wl_assign rfl rfl ?_
          refine WL.nil ?_
          refine fun a ha => hK49 _ _ ?_ a ha
          refine W.seq fun K50 hK50 => ?_
          refine W.regionH mixed_ [] hB28 hS29 ?_
          intro w51 hb52 hB53 hS54
          have hSW55 := KeepX.refl w51 []
          refine WH.takex (i := 0) rfl (by kernel_rfl) (by kernel_rfl) (by kernel_rfl) hP hSW55 ?_
          refine pr_load_blk (i := 0) (vs := [v0_0, v0_1, (.int .i64 x0.1.2.2.1), (.int .i64 x0.1.2.2.2), (.int .i64 x0.2.1), v0_2, v0_3]) (v := (.agg #[v0_0, v0_1, (.int .i64 x0.1.2.2.1), (.int .i64 x0.1.2.2.2), (.int .i64 x0.2.1), v0_2, v0_3])) tf_60 rfl rfl hS54 rfl rfl rfl (by simp) ?_
          refine WH.takex (i := 1) rfl (by kernel_rfl) (by kernel_rfl) (by kernel_rfl) hP hSW55 ?_
          refine pr_move rfl rfl ?_
          refine WH.takex (i := 3) rfl (by kernel_rfl) (by kernel_rfl) (by kernel_rfl) hP hSW55 ?_
          refine pr_field (o := 0) (off' := 0) ff_60_0 rfl rfl rfl ?_
          refine WH.takex (i := 4) rfl (by kernel_rfl) (by kernel_rfl) (by kernel_rfl) hP hSW55 ?_
          refine pr_load_blk (i := 0) (vs := [v0_0, v0_1, (.int .i64 x0.1.2.2.1), (.int .i64 x0.1.2.2.2)]) (v := (.agg #[v0_0, v0_1, (.int .i64 x0.1.2.2.1), (.int .i64 x0.1.2.2.2)])) tf_31 rfl rfl hS54 rfl rfl rfl (by simp) ?_
          refine WH.one (i := 2) (by kernel_rfl) rfl ?_
          obtain ⟨u56, hu56, hF⟩ := bindE hF
          refine wl_call rfl Try.call117 (C_impl_ownCount w51 x0 v0_0 (h0_0.ro hB53) v0_1 (h0_1.ro hB53) v0_2 (h0_2.ro hB53) v0_3 (h0_3.ro hB53) y33 _ hu56) rfl ?_
          rintro _ w57 ⟨rfl, hb58⟩
          refine ⟨_, rfl, ?_⟩
          have hB59 := hB53.trans (hb58.mono hB53.size)
          have hS60 := hS54.below hb58
          have hSW62 := hSW55.ext hb58
          refine WL.nil (WH.ret hSW62 ?_)
          refine WH.one (i := 5) (by kernel_rfl) rfl ?_
          obtain ⟨u63, hu63, hF⟩ := bindE hF
          refine wl_call rfl Try.call118 (C_impl_totalCounts w57 x0.1 v0_0 (h0_0.ro hB59) v0_1 (h0_1.ro hB59) _ hu63) rfl ?_
          rintro _ w65 ⟨rfl, hb66⟩
          refine ⟨_, rfl, ?_⟩
          have hB67 := hB59.trans (hb66.mono hB59.size)
          have hS68 := hS60.below hb66
          have hSW70 := hSW62.ext hb66
          refine WL.nil (WH.ret hSW70 ?_)
          refine WH.takex (i := 6) rfl (by kernel_rfl) (by kernel_rfl) (by kernel_rfl) hP hSW70 ?_
          refine pr_lss rfl rfl rfl ?_
          refine WH.done (by kernel_rfl) ?_
          refine fun a ha => hK50 _ _ ?_ a ha
          refine W.cond rfl (fun h71 => ?_) (fun h71 => ?_)
          · replace hF := ifP h71 hF
            refine W.region ?_
            refine wl_move rfl rfl ?_
            refine wl_move rfl rfl ?_
            refine wl_lit (vs := [(.int .i64 y33)]) (l := [y33]) fl_3 Try.underlying23 rfl rfl rfl rfl rfl rfl hB67 hS68 ?_
            intro v72 F73 w74 hb75 hB76 hS77
            obtain ⟨u78, hu78, hF⟩ := bindE hF
            refine wl_append (i := 2) (S := (· < w74.heap.size)) fl_3 Try.underlying23 rfl rfl rfl hB76 hS77 rfl (hS77.own_ro (i := 0) rfl) hu78 ?_
            intro v79 F80 w81 hk82 hB83 hS84
            refine wl_assign rfl rfl ?_
            refine WL.nil ?_
            exact fun a ha => hJ48 (u78) (v79) (F80) _ hF hB83 (hS84.sel [1, 2] rfl) a (ha.sub ⟨rfl, rfl, rfl, rfl, trivial⟩)
          · replace hF := ifN h71 hF
            refine W.skip ?_
            exact fun a ha => hJ48 (l30) (v31) (F32) _ hF hB67 (hS68.sel [0, 1] rfl) a (ha.sub ⟨rfl, rfl, rfl, rfl, trivial⟩)
        · replace hF := ifN h39 hF
          refine W.exit ?_
          refine fun a ha => hK25 _ _ ?_ a ha
          refine W.seq fun K85 hK85 => ?_
          refine W.region ?_
          refine wl_move rfl rfl ?_
          refine wl_assign rfl rfl ?_
          refine wl_assign rfl rfl ?_
          refine WL.nil ?_
          refine fun a ha => hK85 _ _ ?_ a ha
          refine W.ret ?_
          have hr := Option.some.inj hF
          subst hr
          exact rets (vs := [v31, (.bool true)]) hQ rfl ⟨rv_tmp rfl, rv_tmp rfl, trivial⟩ ⟨v31, F32, rfl, hB28, hS29.sel [1] rfl⟩
theorem C_laws_FnExactStillGoing (w0 : World) (x0 : (((List (List (Int × Int))) × (List Int) × Int × Int) × Int × (List Int) × (List Int))) (v0_0 : Value) (h0_0 : rdS ty_66 (· < w0.heap.size) w0 v0_0 x0.1.1) (v0_1 : Value) (h0_1 : rdS ty_3 (· < w0.heap.size) w0 v0_1 x0.1.2.1) (v0_2 : Value) (h0_2 : rdS ty_3 (· < w0.heap.size) w0 v0_2 x0.2.2.1) (v0_3 : Value) (h0_3 : rdS ty_3 (· < w0.heap.size) w0 v0_3 x0.2.2.2) (r : Bool) (hF : F_laws_FnExactStillGoing x0 = some r) :
    Calls Try.prog 14 [(.agg #[v0_0, v0_1, (.int .i64 x0.1.2.2.1), (.int .i64 x0.1.2.2.2), (.int .i64 x0.2.1), v0_2, v0_3])].toArray w0 fun e w' => e = .returned (.bool r) ∧ Below w0.heap.size w0 w' := by
  refine calls_mk' Try.func14 rfl Try.ntmps14 rfl rfl fun Q hQ hP => ?_
  have hB : Below w0.heap.size w0 w0 := Below.refl _ _
  have hS : Sep w0.heap.size w0 [] := Sep.nil _ _
  unfold F_laws_FnExactStillGoing at hF
  refine W.seq fun K1 hK1 => ?_
  refine W.region ?_
  refine wl_box (cs := [v0_0, v0_1, (.int .i64 x0.1.2.2.1), (.int .i64 x0.1.2.2.2), (.int .i64 x0.2.1), v0_2, v0_3]) rfl rfl rfl hB hS ?_
  intro b2 w3 hb4 hB5 hS6
  refine wl_assign rfl rfl ?_
  refine WL.nil ?_
  refine fun a ha => hK1 _ _ ?_ a ha
  refine W.seq fun K7 hK7 => ?_
  refine W.region ?_
  refine wl_assign rfl rfl ?_
  refine WL.nil ?_
  refine fun a ha => hK7 _ _ ?_ a ha
  refine W.seq fun K8 hK8 => ?_
  refine W.region ?_
  refine wl_load_blk (i := 0) (vs := [v0_0, v0_1, (.int .i64 x0.1.2.2.1), (.int .i64 x0.1.2.2.2), (.int .i64 x0.2.1), v0_2, v0_3]) (v := (.agg #[v0_0, v0_1, (.int .i64 x0.1.2.2.1), (.int .i64 x0.1.2.2.2), (.int .i64 x0.2.1), v0_2, v0_3])) tf_55 rfl rfl hS6 rfl rfl rfl ?_
  refine wl_move rfl rfl ?_
  obtain ⟨u9, hu9, hF⟩ := bindE hF
  refine wl_call rfl Try.call36 (C_laws_szMarch w3 x0 v0_0 (h0_0.ro hB5) v0_1 (h0_1.ro hB5) v0_2 (h0_2.ro hB5) v0_3 (h0_3.ro hB5) 1048576 _ hu9) rfl ?_
  rintro _ w10 ⟨rfl, hb11⟩
  refine ⟨_, rfl, ?_⟩
  have hB12 := hB5.trans (hb11.mono hB5.size)
  have hS13 := hS6.below hb11
  refine wl_assign rfl rfl ?_
  refine WL.nil ?_
  refine fun a ha => hK8 _ _ ?_ a ha
  refine W.seq fun K15 hK15 => ?_
  refine W.seq fun K16 hK16 => ?_
  refine W.region ?_
  refine wl_move rfl rfl ?_
  refine wl_lss rfl rfl rfl ?_
  refine WL.nil ?_
  refine fun a ha => hK16 _ _ ?_ a ha
  refine W.cond rfl (fun h17 => ?_) (fun h17 => ?_)
  · replace hF := ifP h17 hF
    refine W.seq fun K18 hK18 => ?_
    refine W.region ?_
    refine wl_assign rfl rfl ?_
    refine WL.nil ?_
    refine fun a ha => hK18 _ _ ?_ a ha
    refine W.ret ?_
    have hr := Option.some.inj hF
    subst hr
    exact rets (vs := [(.bool true)]) hQ rfl ⟨rv_tmp rfl, trivial⟩ ⟨rfl, hB12⟩
  · replace hF := ifN h17 hF
    refine W.skip ?_
    refine fun a ha => hK15 _ _ ?_ a ha
    refine W.seq fun K19 hK19 => ?_
    refine W.region ?_
    refine wl_load_blk (i := 0) (vs := [v0_0, v0_1, (.int .i64 x0.1.2.2.1), (.int .i64 x0.1.2.2.2), (.int .i64 x0.2.1), v0_2, v0_3]) (v := (.agg #[v0_0, v0_1, (.int .i64 x0.1.2.2.1), (.int .i64 x0.1.2.2.2), (.int .i64 x0.2.1), v0_2, v0_3])) tf_55 rfl rfl hS13 rfl rfl rfl ?_
    obtain ⟨u20, hu20, hF⟩ := bindE hF
    refine wl_call rfl Try.call38 (C_laws_toMarch w10 x0 v0_0 (h0_0.ro hB12) v0_1 (h0_1.ro hB12) v0_2 (h0_2.ro hB12) v0_3 (h0_3.ro hB12) _ hu20) rfl ?_
    rintro _ w29 ⟨v21, F22, v23, F24, v25, F26, v27, F28, rfl, hb30, hM33⟩
    refine ⟨_, rfl, ?_⟩
    have hB31 := hB12.trans (hb30.mono hB12.size)
    have hS32 := hS13.join hb30 hM33 hB12.size
    obtain ⟨u34, hu34, hF⟩ := bindE hF
    refine wl_call rfl Try.call65 (C_spec_StillGoing w29 u20 v21 (hS32.own_ro (i := 0) rfl) v23 (hS32.own_ro (i := 1) rfl) v25 (hS32.own_ro (i := 2) rfl) v27 (hS32.own_ro (i := 3) rfl) _ hu34) rfl ?_
    rintro _ w37 ⟨v35, F36, rfl, hb38, hM41⟩
    refine ⟨_, rfl, ?_⟩
    have hB39 := hB31.trans (hb38.mono hB31.size)
    have hS40 := hS32.join hb38 hM41 hB31.size
    refine wl_move rfl rfl ?_
    refine wl_extract rfl rfl rfl ?_
    refine wl_extract rfl rfl rfl ?_
    refine wl_assign rfl rfl ?_
    refine wl_assign rfl rfl ?_
    refine WL.nil ?_
    refine fun a ha => hK19 _ _ ?_ a ha
    refine W.seq fun K42 hK42 => ?_
    refine W.region ?_
    refine wl_load_blk (i := 5) (vs := [v0_0, v0_1, (.int .i64 x0.1.2.2.1), (.int .i64 x0.1.2.2.2), (.int .i64 x0.2.1), v0_2, v0_3]) (v := (.agg #[v0_0, v0_1, (.int .i64 x0.1.2.2.1), (.int .i64 x0.1.2.2.2), (.int .i64 x0.2.1), v0_2, v0_3])) tf_55 rfl rfl hS40 rfl rfl rfl ?_
    obtain ⟨u43, hu43, hF⟩ := bindE hF
    refine wl_call rfl Try.call38 (C_laws_toMarch w37 x0 v0_0 (h0_0.ro hB39) v0_1 (h0_1.ro hB39) v0_2 (h0_2.ro hB39) v0_3 (h0_3.ro hB39) _ hu43) rfl ?_
    rintro _ w52 ⟨v44, F45, v46, F47, v48, F49, v50, F51, rfl, hb53, hM56⟩
    refine ⟨_, rfl, ?_⟩
    have hB54 := hB39.trans (hb53.mono hB39.size)
    have hS55 := hS40.join hb53 hM56 hB39.size
    refine wl_alloc (cs := [(.slice none 0 0), (.slice none 0 0), (.int .i64 0), (.int .i64 0), (.int .i64 0), (.slice none 0 0), (.slice none 0 0)]) tf_60 rfl rfl hB54 hS55 ?_
    intro b57 w58 hb59 hB60 hS61
    refine wl_store_blk (i := 0) (vs := [v44, v46, (.int .i64 u43.1.2.2.1), (.int .i64 u43.1.2.2.2), (.int .i64 u43.2.1), v48, v50]) (cs' := [v44, v46, (.int .i64 u43.1.2.2.1), (.int .i64 u43.1.2.2.2), (.int .i64 u43.2.1), v48, v50]) tf_60 rfl rfl rfl rfl hB60 hS61 rfl rfl ⟨(hS61.own_ro (i := 1) rfl).one, (hS61.own_ro (i := 2) rfl).one, rfl, rfl, rfl, (hS61.own_ro (i := 3) rfl).one, (hS61.own_ro (i := 4) rfl).one, trivial⟩ rfl ?_
    intro w62 hk65 hB63 hS64
    refine WL.nil ?_
    refine fun a ha => hK42 _ _ ?_ a ha
    refine W.seq fun K66 hK66 => ?_
    refine W.region ?_
    refine wl_load_blk (i := 0) (vs := [v44, v46, (.int .i64 u43.1.2.2.1), (.int .i64 u43.1.2.2.2), (.int .i64 u43.2.1), v48, v50]) (v := (.agg #[v44, v46, (.int .i64 u43.1.2.2.1), (.int .i64 u43.1.2.2.2), (.int .i64 u43.2.1), v48, v50])) tf_60 rfl rfl hS64 rfl rfl rfl ?_
    obtain ⟨u67, hu67, hF⟩ := bindE hF
    refine wl_call rfl Try.call66 (C_impl_StillGoing w62 u43 v44 (hS64.own_ro (i := 1) rfl) v46 (hS64.own_ro (i := 2) rfl) v48 (hS64.own_ro (i := 3) rfl) v50 (hS64.own_ro (i := 4) rfl) _ hu67) rfl ?_
    rintro _ w70 ⟨v68, F69, rfl, hb71, hM74⟩
    refine ⟨_, rfl, ?_⟩
    have hB72 := hB63.trans (hb71.mono hB63.size)
    have hS73 := hS64.join hb71 hM74 hB63.size
    refine wl_move rfl rfl ?_
    refine wl_extract rfl rfl rfl ?_
    refine wl_extract rfl rfl rfl ?_
    refine wl_assign rfl rfl ?_
    refine wl_assign rfl rfl ?_
    refine WL.nil ?_
    refine fun a ha => hK66 _ _ ?_ a ha
    refine W.seq fun K75 hK75 => ?_
    refine W.seq fun K76 hK76 => ?_
    obtain ⟨k81, hk81, hF⟩ := jE1 hF
    have hJ82 : ∀ (y80 : Bool) (w77 : World) (_ : k81 y80 = some r) (_ : Below w0.heap.size w0 w77) (_ : Sep w0.heap.size w77 [R.blk b2 55 [v0_0, v0_1, (.int .i64 x0.1.2.2.1), (.int .i64 x0.1.2.2.2), (.int .i64 x0.2.1), v0_2, v0_3], R.own ty_3 F36 v35 u34.1, R.own ty_69 F45 v44 u43.1.1, R.own ty_3 F47 v46 u43.1.2.1, R.own ty_3 F49 v48 u43.2.2.1, R.own ty_3 F51 v50 u43.2.2.2, R.blk b57 60 [v44, v46, (.int .i64 u43.1.2.2.1), (.int .i64 u43.1.2.2.2), (.int .i64 u43.2.1), v48, v50], R.own ty_3 F69 v68 u67.1]), ∀ a, St 96 [(1, (.pointer (some ⟨b2, 0, none⟩))), (4, v35), (5, (.bool u34.2)), (6, (.pointer (some ⟨b57, 0, none⟩))), (7, v68), (8, (.bool u67.2)), (40, (.bool y80))] a → K76 a w77 := by
      intro y80 w77 hF hB78 hS79
      subst hk81
      refine fun a ha => hK76 _ _ ?_ a ha
      refine W.cond rfl (fun h83 => ?_) (fun h83 => ?_)
      · replace hF := ifP h83 hF
        refine W.seq fun K84 hK84 => ?_
        refine W.region ?_
        refine wl_assign rfl rfl ?_
        refine WL.nil ?_
        refine fun a ha => hK84 _ _ ?_ a ha
        refine W.ret ?_
        have hr := Option.some.inj hF
        subst hr
        exact rets (vs := [(.bool false)]) hQ rfl ⟨rv_tmp rfl, trivial⟩ ⟨rfl, hB78⟩
      · replace hF := ifN h83 hF
        refine W.skip ?_
        refine fun a ha => hK75 _ _ ?_ a ha
        refine W.seq fun K85 hK85 => ?_
        refine W.seq fun K86 hK86 => ?_
        refine W.regionH mixed_ [] hB78 hS79 ?_
        intro w87 hb88 hB89 hS90
        have hSW91 := KeepX.refl w87 []
        refine WH.takex (i := 0) rfl (by kernel_rfl) (by kernel_rfl) (by kernel_rfl) hP hSW91 ?_
        refine pr_load_blk (i := 6) (vs := [v44, v46, (.int .i64 u43.1.2.2.1), (.int .i64 u43.1.2.2.2), (.int .i64 u43.2.1), v48, v50]) (v := (.agg #[v44, v46, (.int .i64 u43.1.2.2.1), (.int .i64 u43.1.2.2.2), (.int .i64 u43.2.1), v48, v50])) tf_60 rfl rfl hS90 rfl rfl rfl (by simp) ?_
        refine WH.takex (i := 1) rfl (by kernel_rfl) (by kernel_rfl) (by kernel_rfl) hP hSW91 ?_
        refine pr_load_blk (i := 0) (vs := [v0_0, v0_1, (.int .i64 x0.1.2.2.1), (.int .i64 x0.1.2.2.2), (.int .i64 x0.2.1), v0_2, v0_3]) (v := (.agg #[v0_0, v0_1, (.int .i64 x0.1.2.2.1), (.int .i64 x0.1.2.2.2), (.int .i64 x0.2.1), v0_2, v0_3])) tf_55 rfl rfl hS90 rfl rfl rfl (by simp) ?_
        refine WH.one (i := 2) (by kernel_rfl) rfl ?_
        obtain ⟨u92, hu92, hF⟩ := bindE hF
        refine wl_call rfl Try.call38 (C_laws_toMarch w87 x0 v0_0 (h0_0.ro hB89) v0_1 (h0_1.ro hB89) v0_2 (h0_2.ro hB89) v0_3 (h0_3.ro hB89) _ hu92) rfl ?_
        rintro _ w101 ⟨v93, F94, v95, F96, v97, F98, v99, F100, rfl, hb102, hM105⟩
        refine ⟨_, rfl, ?_⟩
        have hB103 := hB89.trans (hb102.mono hB89.size)
        have hS104 := hS90.join hb102 hM105 hB89.size
        have hSW106 := hSW91.ext hb102
        refine WL.nil (WH.ret hSW106 ?_)
        refine WH.one (i := 3) (by kernel_rfl) rfl ?_
        obtain ⟨u107, hu107, hF⟩ := bindE hF
        refine wl_call rfl Try.call40 (C_laws_eqMarch w101 u43 v44 (hS104.own_ro (i := 6) rfl) v46 (hS104.own_ro (i := 7) rfl) v48 (hS104.own_ro (i := 8) rfl) v50 (hS104.own_ro (i := 9) rfl) u92 v93 (hS104.own_ro (i := 0) rfl) v95 (hS104.own_ro (i := 1) rfl) v97 (hS104.own_ro (i := 2) rfl) v99 (hS104.own_ro (i := 3) rfl) _ hu107) rfl ?_
        rintro _ w108 ⟨rfl, hb109⟩
        refine ⟨_, rfl, ?_⟩
        have hB110 := hB103.trans (hb109.mono hB103.size)
        have hS111 := hS104.below hb109
        have hSW113 := hSW106.ext hb109
        refine WL.nil (WH.ret hSW113 ?_)
        refine WH.takex (i := 4) rfl (by kernel_rfl) (by kernel_rfl) (by kernel_rfl) hP hSW113 ?_
        refine pr_not rfl rfl ?_
        refine WH.done (by kernel_rfl) ?_
        refine fun a ha => hK86 _ _ ?_ a ha
        refine W.cond rfl (fun h114 => ?_) (fun h114 => ?_)
        · replace hF := ifP h114 hF
          refine W.seq fun K115 hK115 => ?_
          refine W.region ?_
          refine wl_assign rfl rfl ?_
          refine WL.nil ?_
          refine fun a ha => hK115 _ _ ?_ a ha
          refine W.ret ?_
          have hr := Option.some.inj hF
          subst hr
          exact rets (vs := [(.bool false)]) hQ rfl ⟨rv_tmp rfl, trivial⟩ ⟨rfl, hB110⟩
        · replace hF := ifN h114 hF
          refine W.skip ?_
          refine fun a ha => hK85 _ _ ?_ a ha
          refine W.seq fun K116 hK116 => ?_
          refine W.region ?_
          refine wl_assign rfl rfl ?_
          refine WL.nil ?_
          refine fun a ha => hK116 _ _ ?_ a ha
          refine W.seq fun K117 hK117 => ?_
          refine W.region ?_
          refine wl_load_blk (i := 10) (vs := [v44, v46, (.int .i64 u43.1.2.2.1), (.int .i64 u43.1.2.2.2), (.int .i64 u43.2.1), v48, v50]) (v := (.agg #[v44, v46, (.int .i64 u43.1.2.2.1), (.int .i64 u43.1.2.2.2), (.int .i64 u43.2.1), v48, v50])) tf_60 rfl rfl hS111 rfl rfl rfl ?_
          refine wl_move rfl rfl ?_
          obtain ⟨u118, hu118, hF⟩ := bindE hF
          refine wl_call rfl Try.call61 (C_laws_markMarch w108 u43 v44 F45 v46 F47 v48 F49 v50 F51 1 (hS111.sel [6, 7, 8, 9] rfl).base0 _ hu118) rfl ?_
          rintro _ w119 ⟨rfl, hE120, hM121⟩
          refine ⟨_, rfl, ?_⟩
          have hB122 := hS111.mutB [6, 7, 8, 9] rfl (M := [R.own ty_69 F45 v44 u43.1.1, R.own ty_3 F47 v46 u43.1.2.1, R.own ty_3 F49 v48 u43.2.2.1, R.own ty_3 F51 v50 u43.2.2.2]) rfl (M' := [R.own ty_69 F45 v44 u118.2.1.1, R.own ty_3 F47 v46 u118.2.1.2.1, R.own ty_3 F49 v48 u118.2.2.2.1, R.own ty_3 F51 v50 u118.2.2.2.2]) rfl hB110 hB110.size hE120 hM121
          have hS123 : Sep w0.heap.size w119 [R.own ty_69 F45 v44 u118.2.1.1, R.own ty_3 F47 v46 u118.2.1.2.1, R.own ty_3 F49 v48 u118.2.2.2.1, R.own ty_3 F51 v50 u118.2.2.2.2, R.own ty_69 F94 v93 u92.1.1, R.own ty_3 F96 v95 u92.1.2.1, R.own ty_3 F98 v97 u92.2.2.1, R.own ty_3 F100 v99 u92.2.2.2, R.blk b2 55 [v0_0, v0_1, (.int .i64 x0.1.2.2.1), (.int .i64 x0.1.2.2.2), (.int .i64 x0.2.1), v0_2, v0_3], R.own ty_3 F36 v35 u34.1, R.blk b57 60 [v44, v46, (.int .i64 u43.1.2.2.1), (.int .i64 u43.1.2.2.2), (.int .i64 u43.2.1), v48, v50], R.own ty_3 F69 v68 u67.1] := hS111.mut [6, 7, 8, 9] [0, 1, 2, 3, 4, 5, 10, 11] rfl (M := [R.own ty_69 F45 v44 u43.1.1, R.own ty_3 F47 v46 u43.1.2.1, R.own ty_3 F49 v48 u43.2.2.1, R.own ty_3 F51 v50 u43.2.2.2]) rfl (M' := [R.own ty_69 F45 v44 u118.2.1.1, R.own ty_3 F47 v46 u118.2.1.2.1, R.own ty_3 F49 v48 u118.2.2.2.1, R.own ty_3 F51 v50 u118.2.2.2.2]) rfl hM121
          refine wl_assign rfl rfl ?_
          refine WL.nil ?_
          refine fun a ha => hK117 _ _ ?_ a ha
          refine W.seq fun K124 hK124 => ?_
          refine W.seq fun K125 hK125 => ?_
          obtain ⟨k130, hk130, hF⟩ := jE1 hF
          have hJ131 : ∀ (y129 : Bool) (w126 : World) (_ : k130 y129 = some r) (_ : Below w0.heap.size w0 w126) (_ : Sep w0.heap.size w126 [R.blk b2 55 [v0_0, v0_1, (.int .i64 x0.1.2.2.1), (.int .i64 x0.1.2.2.2), (.int .i64 x0.2.1), v0_2, v0_3], R.own ty_3 F36 v35 u34.1, R.own ty_3 F69 v68 u67.1]), ∀ a, St 96 [(1, (.pointer (some ⟨b2, 0, none⟩))), (4, v35), (5, (.bool u34.2)), (7, v68), (61, (.bool y129))] a → K125 a w126 := by
            intro y129 w126 hF hB127 hS128
            subst hk130
            refine fun a ha => hK125 _ _ ?_ a ha
            refine W.cond rfl (fun h132 => ?_) (fun h132 => ?_)
            · replace hF := ifP h132 hF
              refine W.seq fun K133 hK133 => ?_
              refine W.region ?_
              refine wl_assign rfl rfl ?_
              refine WL.nil ?_
              refine fun a ha => hK133 _ _ ?_ a ha
              refine W.ret ?_
              have hr := Option.some.inj hF
              subst hr
              exact rets (vs := [(.bool false)]) hQ rfl ⟨rv_tmp rfl, trivial⟩ ⟨rfl, hB127⟩
            · replace hF := ifN h132 hF
              refine W.skip ?_
              refine fun a ha => hK124 _ _ ?_ a ha
              refine W.seq fun K134 hK134 => ?_
              refine W.region ?_
              refine wl_assign rfl rfl ?_
              refine WL.nil ?_
              refine fun a ha => hK134 _ _ ?_ a ha
              refine W.seq fun K135 hK135 => ?_
              refine W.region ?_
              refine wl_move rfl rfl ?_
              refine wl_move rfl rfl ?_
              obtain ⟨u136, hu136, hF⟩ := bindE hF
              refine wl_call rfl Try.call22 (C_laws_markIntS w126 u67.1 v68 F69 1 (hS128.sel [2] rfl).base0 _ hu136) rfl ?_
              rintro _ w137 ⟨rfl, hE138, hM139⟩
              refine ⟨_, rfl, ?_⟩
              have hB140 := hS128.mutB [2] rfl (M := [R.own ty_3 F69 v68 u67.1]) rfl (M' := [R.own ty_3 F69 v68 u136.2]) rfl hB127 hB127.size hE138 hM139
              have hS141 : Sep w0.heap.size w137 [R.own ty_3 F69 v68 u136.2, R.blk b2 55 [v0_0, v0_1, (.int .i64 x0.1.2.2.1), (.int .i64 x0.1.2.2.2), (.int .i64 x0.2.1), v0_2, v0_3], R.own ty_3 F36 v35 u34.1] := hS128.mut [2] [0, 1] rfl (M := [R.own ty_3 F69 v68 u67.1]) rfl (M' := [R.own ty_3 F69 v68 u136.2]) rfl hM139
              refine wl_assign rfl rfl ?_
              refine WL.nil ?_
              refine fun a ha => hK135 _ _ ?_ a ha
              refine W.seq fun K142 hK142 => ?_
              refine W.region ?_
              refine wl_assign rfl rfl ?_
              refine WL.nil ?_
              refine fun a ha => hK142 _ _ ?_ a ha
              refine W.seq fun K143 hK143 => ?_
              refine W.region ?_
              refine wl_move rfl rfl ?_
              refine wl_move rfl rfl ?_
              obtain ⟨u144, hu144, hF⟩ := bindE hF
              refine wl_call rfl Try.call23 (C_laws_heldIntS w137 u136.2 v68 (hS141.own_ro (i := 0) rfl) 1 _ hu144) rfl ?_
              rintro _ w145 ⟨rfl, hb146⟩
              refine ⟨_, rfl, ?_⟩
              have hB147 := hB140.trans (hb146.mono hB140.size)
              have hS148 := hS141.below hb146
              refine wl_assign rfl rfl ?_
              refine WL.nil ?_
              refine fun a ha => hK143 _ _ ?_ a ha
              refine W.seq fun K150 hK150 => ?_
              refine W.seq fun K151 hK151 => ?_
              refine W.region ?_
              refine wl_move rfl rfl ?_
              refine wl_lss rfl rfl rfl ?_
              refine WL.nil ?_
              refine fun a ha => hK151 _ _ ?_ a ha
              refine W.cond rfl (fun h152 => ?_) (fun h152 => ?_)
              · replace hF := ifP h152 hF
                refine W.seq fun K153 hK153 => ?_
                refine W.region ?_
                refine wl_assign rfl rfl ?_
                refine WL.nil ?_
                refine fun a ha => hK153 _ _ ?_ a ha
                refine W.ret ?_
                have hr := Option.some.inj hF
                subst hr
                exact rets (vs := [(.bool false)]) hQ rfl ⟨rv_tmp rfl, trivial⟩ ⟨rfl, hB147⟩
              · replace hF := ifN h152 hF
                refine W.skip ?_
                refine fun a ha => hK150 _ _ ?_ a ha
                refine W.seq fun K154 hK154 => ?_
                refine W.seq fun K155 hK155 => ?_
                refine W.region ?_
                refine wl_move rfl rfl ?_
                refine wl_move rfl rfl ?_
                refine wl_neq rfl rfl rfl ?_
                refine WL.nil ?_
                refine fun a ha => hK155 _ _ ?_ a ha
                refine W.cond rfl (fun h156 => ?_) (fun h156 => ?_)
                · replace hF := ifP h156 hF
                  refine W.seq fun K157 hK157 => ?_
                  refine W.region ?_
                  refine wl_assign rfl rfl ?_
                  refine WL.nil ?_
                  refine fun a ha => hK157 _ _ ?_ a ha
                  refine W.ret ?_
                  have hr := Option.some.inj hF
                  subst hr
                  exact rets (vs := [(.bool false)]) hQ rfl ⟨rv_tmp rfl, trivial⟩ ⟨rfl, hB147⟩
                · replace hF := ifN h156 hF
                  refine W.skip ?_
                  refine fun a ha => hK154 _ _ ?_ a ha
                  refine W.seq fun K158 hK158 => ?_
                  refine W.region ?_
                  refine wl_load_blk (i := 1) (vs := [v0_0, v0_1, (.int .i64 x0.1.2.2.1), (.int .i64 x0.1.2.2.2), (.int .i64 x0.2.1), v0_2, v0_3]) (v := (.agg #[v0_0, v0_1, (.int .i64 x0.1.2.2.1), (.int .i64 x0.1.2.2.2), (.int .i64 x0.2.1), v0_2, v0_3])) tf_55 rfl rfl hS148 rfl rfl rfl ?_
                  obtain ⟨u159, hu159, hF⟩ := bindE hF
                  refine wl_call rfl Try.call38 (C_laws_toMarch w145 x0 v0_0 (h0_0.ro hB147) v0_1 (h0_1.ro hB147) v0_2 (h0_2.ro hB147) v0_3 (h0_3.ro hB147) _ hu159) rfl ?_
                  rintro _ w168 ⟨v160, F161, v162, F163, v164, F165, v166, F167, rfl, hb169, hM172⟩
                  refine ⟨_, rfl, ?_⟩
                  have hB170 := hB147.trans (hb169.mono hB147.size)
                  have hS171 := hS148.join hb169 hM172 hB147.size
                  obtain ⟨u173, hu173, hF⟩ := bindE hF
                  refine wl_call rfl Try.call66 (C_impl_StillGoing w168 u159 v160 (hS171.own_ro (i := 0) rfl) v162 (hS171.own_ro (i := 1) rfl) v164 (hS171.own_ro (i := 2) rfl) v166 (hS171.own_ro (i := 3) rfl) _ hu173) rfl ?_
                  rintro _ w176 ⟨v174, F175, rfl, hb177, hM180⟩
                  refine ⟨_, rfl, ?_⟩
                  have hB178 := hB170.trans (hb177.mono hB170.size)
                  have hS179 := hS171.join hb177 hM180 hB170.size
                  refine wl_move rfl rfl ?_
                  refine wl_extract rfl rfl rfl ?_
                  refine wl_extract rfl rfl rfl ?_
                  refine wl_assign rfl rfl ?_
                  refine wl_assign rfl rfl ?_
                  refine WL.nil ?_
                  refine fun a ha => hK158 _ _ ?_ a ha
                  refine W.seq fun K181 hK181 => ?_
                  refine W.seq fun K182 hK182 => ?_
                  obtain ⟨k187, hk187, hF⟩ := jE1 hF
                  have hJ188 : ∀ (y186 : Bool) (w183 : World) (_ : k187 y186 = some r) (_ : Below w0.heap.size w0 w183) (_ : Sep w0.heap.size w183 [R.own ty_3 F69 v68 u136.2]), ∀ a, St 96 [(7, v68), (10, (.int .i64 u136.1)), (87, (.bool y186))] a → K182 a w183 := by
                    intro y186 w183 hF hB184 hS185
                    subst hk187
                    refine fun a ha => hK182 _ _ ?_ a ha
                    refine W.cond rfl (fun h189 => ?_) (fun h189 => ?_)
                    · replace hF := ifP h189 hF
                      refine W.seq fun K190 hK190 => ?_
                      refine W.region ?_
                      refine wl_assign rfl rfl ?_
                      refine WL.nil ?_
                      refine fun a ha => hK190 _ _ ?_ a ha
                      refine W.ret ?_
                      have hr := Option.some.inj hF
                      subst hr
                      exact rets (vs := [(.bool false)]) hQ rfl ⟨rv_tmp rfl, trivial⟩ ⟨rfl, hB184⟩
                    · replace hF := ifN h189 hF
                      refine W.skip ?_
                      refine fun a ha => hK181 _ _ ?_ a ha
                      refine W.seq fun K191 hK191 => ?_
                      refine W.region ?_
                      refine wl_assign rfl rfl ?_
                      refine WL.nil ?_
                      refine fun a ha => hK191 _ _ ?_ a ha
                      refine W.seq fun K192 hK192 => ?_
                      refine W.region ?_
                      refine wl_move rfl rfl ?_
                      refine wl_move rfl rfl ?_
                      obtain ⟨u193, hu193, hF⟩ := bindE hF
                      refine wl_call rfl Try.call23 (C_laws_heldIntS w183 u136.2 v68 (hS185.own_ro (i := 0) rfl) 1 _ hu193) rfl ?_
                      rintro _ w194 ⟨rfl, hb195⟩
                      refine ⟨_, rfl, ?_⟩
                      have hB196 := hB184.trans (hb195.mono hB184.size)
                      have hS197 := hS185.below hb195
                      refine wl_assign rfl rfl ?_
                      refine WL.nil ?_
                      refine fun a ha => hK192 _ _ ?_ a ha
                      refine W.seq fun K199 hK199 => ?_
                      refine W.seq fun K200 hK200 => ?_
                      refine W.region ?_
                      refine wl_move rfl rfl ?_
                      refine wl_lss rfl rfl rfl ?_
                      refine WL.nil ?_
                      refine fun a ha => hK200 _ _ ?_ a ha
                      refine W.cond rfl (fun h201 => ?_) (fun h201 => ?_)
                      · replace hF := ifP h201 hF
                        refine W.seq fun K202 hK202 => ?_
                        refine W.region ?_
                        refine wl_assign rfl rfl ?_
                        refine WL.nil ?_
                        refine fun a ha => hK202 _ _ ?_ a ha
                        refine W.ret ?_
                        have hr := Option.some.inj hF
                        subst hr
                        exact rets (vs := [(.bool false)]) hQ rfl ⟨rv_tmp rfl, trivial⟩ ⟨rfl, hB196⟩
                      · replace hF := ifN h201 hF
                        refine W.skip ?_
                        refine fun a ha => hK199 _ _ ?_ a ha
                        refine W.seq fun K203 hK203 => ?_
                        refine W.seq fun K204 hK204 => ?_
                        refine W.region ?_
                        refine wl_move rfl rfl ?_
                        refine wl_move rfl rfl ?_
                        refine wl_neq rfl rfl rfl ?_
                        refine WL.nil ?_
                        refine fun a ha => hK204 _ _ ?_ a ha
                        refine W.cond rfl (fun h205 => ?_) (fun h205 => ?_)
                        · replace hF := ifP h205 hF
                          refine W.seq fun K206 hK206 => ?_
                          refine W.region ?_
                          refine wl_assign rfl rfl ?_
                          refine WL.nil ?_
                          refine fun a ha => hK206 _ _ ?_ a ha
                          refine W.ret ?_
                          have hr := Option.some.inj hF
                          subst hr
                          exact rets (vs := [(.bool false)]) hQ rfl ⟨rv_tmp rfl, trivial⟩ ⟨rfl, hB196⟩
                        · replace hF := ifN h205 hF
                          refine W.skip ?_
                          refine fun a ha => hK203 _ _ ?_ a ha
                          refine W.seq fun K207 hK207 => ?_
                          refine W.region ?_
                          refine wl_assign rfl rfl ?_
                          refine WL.nil ?_
                          refine fun a ha => hK207 _ _ ?_ a ha
                          refine W.ret ?_
                          have hr := Option.some.inj hF
                          subst hr
                          exact rets (vs := [(.bool true)]) hQ rfl ⟨rv_tmp rfl, trivial⟩ ⟨rfl, hB196⟩
                  refine W.region ?_
                  refine wl_move rfl rfl ?_
                  refine wl_move rfl rfl ?_
                  obtain ⟨u208, hu208, hF⟩ := bindE hF
                  refine wl_call rfl Try.call19 (C_laws_eqIntS w176 u173.1 v174 (hS179.own_ro (i := 0) rfl) u34.1 v35 (hS179.own_ro (i := 7) rfl) _ hu208) rfl ?_
                  rintro _ w209 ⟨rfl, hb210⟩
                  refine ⟨_, rfl, ?_⟩
                  have hB211 := hB178.trans (hb210.mono hB178.size)
                  have hS212 := hS179.below hb210
                  refine wl_not rfl rfl ?_
                  refine wl_move rfl rfl ?_
                  rcases bE (!u208) with h214 | h214
                  · replace hF := ifP h214 hF
                    refine wl_off rfl rfl rfl h214 ?_
                    refine wl_off rfl rfl rfl h214 ?_
                    refine wl_off rfl rfl rfl h214 ?_
                    refine wl_pick_t rfl rfl h214 rfl ?_
                    refine WL.nil ?_
                    exact fun a ha => hJ188 (true) _ hF hB211 (hS212.sel [5] rfl) a (ha.sub ⟨rfl, rfl, rfl, trivial⟩)
                  · replace hF := ifN h214 hF
                    refine wl_on rfl rfl h214 ?_
                    refine wl_move rfl rfl ?_
                    refine wl_on rfl rfl h214 ?_
                    refine wl_move rfl rfl ?_
                    refine wl_on rfl rfl h214 ?_
                    refine wl_neqb Try.underlying4 rfl rfl rfl ?_
                    refine wl_pick_f rfl rfl h214 rfl ?_
                    refine WL.nil ?_
                    exact fun a ha => hJ188 ((u173.2 != u34.2)) _ hF hB211 (hS212.sel [5] rfl) a (ha.sub ⟨rfl, rfl, rfl, trivial⟩)
          refine W.region ?_
          refine wl_move rfl rfl ?_
          refine wl_lss rfl rfl rfl ?_
          refine wl_move rfl rfl ?_
          rcases bE (decide (u118.1 < 0)) with h215 | h215
          · replace hF := ifP h215 hF
            refine wl_off rfl rfl rfl h215 ?_
            refine wl_off rfl rfl rfl h215 ?_
            refine wl_off rfl rfl rfl h215 ?_
            refine wl_off rfl rfl rfl h215 ?_
            refine wl_pick_t rfl rfl h215 rfl ?_
            refine wl_move rfl rfl ?_
            refine wl_off rfl rfl rfl rfl ?_
            refine wl_off rfl rfl rfl rfl ?_
            refine wl_off rfl rfl rfl rfl ?_
            refine wl_pick_t rfl rfl rfl rfl ?_
            refine WL.nil ?_
            exact fun a ha => hJ131 (true) _ hF hB122 (hS123.sel [8, 9, 11] rfl) a (ha.sub ⟨rfl, rfl, rfl, rfl, rfl, trivial⟩)
          · replace hF := ifN h215 hF
            refine wl_on rfl rfl h215 ?_
            refine wl_move rfl rfl ?_
            refine wl_on rfl rfl h215 ?_
            refine wl_move rfl rfl ?_
            refine wl_on rfl rfl h215 ?_
            obtain ⟨u216, hu216, hF⟩ := bindE hF
            refine wl_call rfl Try.call19 (C_laws_eqIntS w119 u67.1 v68 (hS123.own_ro (i := 11) rfl) u34.1 v35 (hS123.own_ro (i := 9) rfl) _ hu216) rfl ?_
            rintro _ w217 ⟨rfl, hb218⟩
            refine ⟨_, rfl, ?_⟩
            have hB219 := hB122.trans (hb218.mono hB122.size)
            have hS220 := hS123.below hb218
            refine wl_on rfl rfl h215 ?_
            refine wl_not rfl rfl ?_
            refine wl_pick_f rfl rfl h215 rfl ?_
            refine wl_move rfl rfl ?_
            rcases bE (!u216) with h222 | h222
            · replace hF := ifP h222 hF
              refine wl_off rfl rfl rfl h222 ?_
              refine wl_off rfl rfl rfl h222 ?_
              refine wl_off rfl rfl rfl h222 ?_
              refine wl_pick_t rfl rfl h222 rfl ?_
              refine WL.nil ?_
              exact fun a ha => hJ131 (true) _ hF hB219 (hS220.sel [8, 9, 11] rfl) a (ha.sub ⟨rfl, rfl, rfl, rfl, rfl, trivial⟩)
            · replace hF := ifN h222 hF
              refine wl_on rfl rfl h222 ?_
              refine wl_move rfl rfl ?_
              refine wl_on rfl rfl h222 ?_
              refine wl_move rfl rfl ?_
              refine wl_on rfl rfl h222 ?_
              refine wl_neqb Try.underlying4 rfl rfl rfl ?_
              refine wl_pick_f rfl rfl h222 rfl ?_
              refine WL.nil ?_
              exact fun a ha => hJ131 ((u67.2 != u34.2)) _ hF hB219 (hS220.sel [8, 9, 11] rfl) a (ha.sub ⟨rfl, rfl, rfl, rfl, rfl, trivial⟩)
    refine W.region ?_
    refine wl_move rfl rfl ?_
    refine wl_move rfl rfl ?_
    obtain ⟨u223, hu223, hF⟩ := bindE hF
    refine wl_call rfl Try.call19 (C_laws_eqIntS w70 u67.1 v68 (hS73.own_ro (i := 0) rfl) u34.1 v35 (hS73.own_ro (i := 6) rfl) _ hu223) rfl ?_
    rintro _ w224 ⟨rfl, hb225⟩
    refine ⟨_, rfl, ?_⟩
    have hB226 := hB72.trans (hb225.mono hB72.size)
    have hS227 := hS73.below hb225
    refine wl_not rfl rfl ?_
    refine wl_move rfl rfl ?_
    rcases bE (!u223) with h229 | h229
    · replace hF := ifP h229 hF
      refine wl_off rfl rfl rfl h229 ?_
      refine wl_off rfl rfl rfl h229 ?_
      refine wl_off rfl rfl rfl h229 ?_
      refine wl_pick_t rfl rfl h229 rfl ?_
      refine WL.nil ?_
      exact fun a ha => hJ82 (true) _ hF hB226 (hS227.sel [11, 6, 2, 3, 4, 5, 1, 0] rfl) a (ha.sub ⟨rfl, rfl, rfl, rfl, rfl, rfl, rfl, trivial⟩)
    · replace hF := ifN h229 hF
      refine wl_on rfl rfl h229 ?_
      refine wl_move rfl rfl ?_
      refine wl_on rfl rfl h229 ?_
      refine wl_move rfl rfl ?_
      refine wl_on rfl rfl h229 ?_
      refine wl_neqb Try.underlying4 rfl rfl rfl ?_
      refine wl_pick_f rfl rfl h229 rfl ?_
      refine WL.nil ?_
      exact fun a ha => hJ82 ((u67.2 != u34.2)) _ hF hB226 (hS227.sel [11, 6, 2, 3, 4, 5, 1, 0] rfl) a (ha.sub ⟨rfl, rfl, rfl, rfl, rfl, rfl, rfl, trivial⟩)
end Go.Proofs.Ytadklddedeoniaa
