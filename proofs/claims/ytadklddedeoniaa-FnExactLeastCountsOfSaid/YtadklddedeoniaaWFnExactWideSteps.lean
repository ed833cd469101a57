/-
  THE WALKS of functions of this seat, by program (gen.py).
-/
import Derived.Test.YtadklddedeoniaaH
import Derived.Test.YtadklddedeoniaaWFnExactCuesBetween
import Derived.Test.YtadklddedeoniaaWFnExactMostBehind
import Derived.Test.YtadklddedeoniaaWFnExactShowMoves
import Derived.Test.YtadklddedeoniaaWFnExactWaySums
set_option linter.unusedSimpArgs false
set_option linter.unusedVariables false
set_option maxRecDepth 100000
namespace Go.Proofs.Ytadklddedeoniaa
open Go Go.RowKit
theorem C_spec_mvWithin (w0 : World) (x0 : ((Int × Int) × (Int × Int) × Int)) (x1 : Int) (r : Bool) (hF : F_spec_mvWithin x0 x1 = some r) :
    Calls Try.prog 127 [(.agg #[(.int .i64 x0.1.1), (.int .i64 x0.1.2), (.int .i64 x0.2.1.1), (.int .i64 x0.2.1.2), (.int .i64 x0.2.2)]), (.int .i64 x1)].toArray w0 fun e w' => e = .returned (.bool r) ∧ Below w0.heap.size w0 w' := by
  refine calls_mk' Try.func127 rfl Try.ntmps127 rfl rfl fun Q hQ hP => ?_
  have hB : Below w0.heap.size w0 w0 := Below.refl _ _
  have hS : Sep w0.heap.size w0 [] := Sep.nil _ _
  unfold F_spec_mvWithin at hF
  refine W.seq fun K1 hK1 => ?_
  refine W.region ?_
  refine wl_box (cs := [(.int .i64 x0.1.1), (.int .i64 x0.1.2), (.int .i64 x0.2.1.1), (.int .i64 x0.2.1.2), (.int .i64 x0.2.2)]) rfl rfl rfl hB hS ?_
  intro b2 w3 hb4 hB5 hS6
  refine wl_assign rfl rfl ?_
  refine WL.nil ?_
  refine fun a ha => hK1 _ _ ?_ a ha
  refine W.seq fun K7 hK7 => ?_
  refine W.regionH mixed_ [] hB5 hS6 ?_
  intro w8 hb9 hB10 hS11
  have hSW12 := KeepX.refl w8 []
  refine WH.takex (i := 0) rfl (by kernel_rfl) (by kernel_rfl) (by kernel_rfl) hP hSW12 ?_
  refine pr_field (o := 0) (off' := 0) ff_123_0 rfl rfl rfl ?_
  refine WH.takex (i := 1) rfl (by kernel_rfl) (by kernel_rfl) (by kernel_rfl) hP hSW12 ?_
  refine pr_load_blk (i := 0) (vs := [(.int .i64 x0.1.1), (.int .i64 x0.1.2)]) (v := (.agg #[(.int .i64 x0.1.1), (.int .i64 x0.1.2)])) tf_116 rfl rfl hS11 rfl rfl rfl (by simp) ?_
  refine WH.takex (i := 2) rfl (by kernel_rfl) (by kernel_rfl) (by kernel_rfl) hP hSW12 ?_
  refine pr_field (o := 2) (off' := 2) ff_123_1 rfl rfl rfl ?_
  refine WH.takex (i := 3) rfl (by kernel_rfl) (by kernel_rfl) (by kernel_rfl) hP hSW12 ?_
  refine pr_load_blk (i := 0) (vs := [(.int .i64 x0.2.1.1), (.int .i64 x0.2.1.2)]) (v := (.agg #[(.int .i64 x0.2.1.1), (.int .i64 x0.2.1.2)])) tf_116 rfl rfl hS11 rfl rfl rfl (by simp) ?_
  refine WH.takex (i := 5) rfl (by kernel_rfl) (by kernel_rfl) (by kernel_rfl) hP hSW12 ?_
  refine pr_move rfl rfl ?_
  refine WH.takex (i := 6) rfl (by kernel_rfl) (by kernel_rfl) (by kernel_rfl) hP hSW12 ?_
  refine pr_move rfl rfl ?_
  refine WH.takex (i := 7) rfl (by kernel_rfl) (by kernel_rfl) (by kernel_rfl) hP hSW12 ?_
  refine pr_mul rfl rfl rfl ?_
  refine WH.takex (i := 8) rfl (by kernel_rfl) (by kernel_rfl) (by kernel_rfl) hP hSW12 ?_
  refine pr_field (o := 4) (off' := 4) ff_123_2 rfl rfl rfl ?_
  refine WH.takex (i := 9) rfl (by kernel_rfl) (by kernel_rfl) (by kernel_rfl) hP hSW12 ?_
  refine pr_load_blk (i := 0) (vs := [(.int .i64 x0.2.2)]) (v := (.int .i64 x0.2.2)) tf_3 rfl rfl hS11 rfl rfl rfl (by simp) ?_
  refine WH.takex (i := 10) rfl (by kernel_rfl) (by kernel_rfl) (by kernel_rfl) hP hSW12 ?_
  refine pr_mul rfl rfl rfl ?_
  refine WH.takex (i := 11) rfl (by kernel_rfl) (by kernel_rfl) (by kernel_rfl) hP hSW12 ?_
  refine pr_field (o := 4) (off' := 4) ff_123_2 rfl rfl rfl ?_
  refine WH.takex (i := 12) rfl (by kernel_rfl) (by kernel_rfl) (by kernel_rfl) hP hSW12 ?_
  refine pr_load_blk (i := 0) (vs := [(.int .i64 x0.2.2)]) (v := (.int .i64 x0.2.2)) tf_3 rfl rfl hS11 rfl rfl rfl (by simp) ?_
  refine WH.takex (i := 13) rfl (by kernel_rfl) (by kernel_rfl) (by kernel_rfl) hP hSW12 ?_
  refine pr_mul rfl rfl rfl ?_
  refine WH.one (i := 4) (by kernel_rfl) rfl ?_
  obtain ⟨u13, hu13, hF⟩ := bindE hF
  refine wl_call rfl Try.call144 (C_spec_stSquare w8 x0.1 x0.2.1 _ hu13) rfl ?_
  rintro _ w14 ⟨rfl, hb15⟩
  refine ⟨_, rfl, ?_⟩
  have hB16 := hB10.trans (hb15.mono hB10.size)
  have hS17 := hS11.below hb15
  have hSW19 := hSW12.ext hb15
  refine WL.nil (WH.ret hSW19 ?_)
  refine WH.takex (i := 14) rfl (by kernel_rfl) (by kernel_rfl) (by kernel_rfl) hP hSW19 ?_
  refine pr_leq rfl rfl rfl ?_
  refine WH.takex (i := 15) rfl (by kernel_rfl) (by kernel_rfl) (by kernel_rfl) hP hSW19 ?_
  refine pr_assign rfl rfl ?_
  refine WH.done (by kernel_rfl) ?_
  refine fun a ha => hK7 _ _ ?_ a ha
  refine W.ret ?_
  have hr := Option.some.inj hF
  subst hr
  exact rets (vs := [(.bool (decide (u13 ≤ (w64 ((w64 ((w64 (x1 * x1)) * x0.2.2)) * x0.2.2)))))]) hQ rfl ⟨rv_tmp rfl, trivial⟩ ⟨rfl, hB16⟩
theorem C_spec_swWide (w0 : World) (x0 : ((List (List (Int × Int))) × (List Int) × Int × Int)) (v0_0 : Value) (h0_0 : rdS ty_69 (· < w0.heap.size) w0 v0_0 x0.1) (v0_1 : Value) (h0_1 : rdS ty_3 (· < w0.heap.size) w0 v0_1 x0.2.1) (x1 : Int) (r : (List Int)) (hF : F_spec_swWide x0 x1 = some r) :
    Calls Try.prog 78 [(.agg #[v0_0, v0_1, (.int .i64 x0.2.2.1), (.int .i64 x0.2.2.2)]), (.int .i64 x1)].toArray w0 fun e w' => ∃ (q0 : Value) (G0 : List Nat), e = .returned q0 ∧ Below w0.heap.size w0 w' ∧ Sep w0.heap.size w' [R.own ty_3 G0 q0 r] := by
  refine calls_mk' Try.func78 rfl Try.ntmps78 rfl rfl fun Q hQ hP => ?_
  have hB : Below w0.heap.size w0 w0 := Below.refl _ _
  have hS : Sep w0.heap.size w0 [] := Sep.nil _ _
  unfold F_spec_swWide at hF
  refine W.seq fun K1 hK1 => ?_
  refine W.region ?_
  refine wl_box (cs := [v0_0, v0_1, (.int .i64 x0.2.2.1), (.int .i64 x0.2.2.2)]) rfl rfl rfl hB hS ?_
  intro b2 w3 hb4 hB5 hS6
  refine wl_assign rfl rfl ?_
  refine WL.nil ?_
  refine fun a ha => hK1 _ _ ?_ a ha
  refine W.seq fun K7 hK7 => ?_
  refine W.region ?_
  refine wl_assign rfl rfl ?_
  refine WL.nil ?_
  refine fun a ha => hK7 _ _ ?_ a ha
  refine W.seq fun K8 hK8 => ?_
  refine W.seq fun K9 hK9 => ?_
  refine W.region ?_
  refine wl_load_blk (i := 0) (vs := [v0_0, v0_1, (.int .i64 x0.2.2.1), (.int .i64 x0.2.2.2)]) (v := (.agg #[v0_0, v0_1, (.int .i64 x0.2.2.1), (.int .i64 x0.2.2.2)])) tf_31 rfl rfl hS6 rfl rfl rfl ?_
  refine wl_move rfl rfl ?_
  obtain ⟨u10, hu10, hF⟩ := bindE hF
  refine wl_call rfl Try.call105 (C_spec_swMoves w3 x0 v0_0 (h0_0.ro hB5) v0_1 (h0_1.ro hB5) x1 _ hu10) rfl ?_
  rintro _ w13 ⟨v11, F12, rfl, hb14, hM17⟩
  refine ⟨_, rfl, ?_⟩
  have hB15 := hB5.trans (hb14.mono hB5.size)
  have hS16 := hS6.join hb14 hM17 hB5.size
  refine wl_lenr (e := ty_123) (l := u10) Try.underlying76 rfl rfl (hS16.own_ro (i := 0) rfl) ?_
  refine wl_move rfl rfl ?_
  refine WL.nil ?_
  refine fun a ha => hK9 _ _ ?_ a ha
  refine W.block ?_
  refine W.loopk (fun m a w18 => ∃ (l21 : (List Int)) (y24 : Int) (v22 : Value) (F23 : List Nat), St 28 [(2, (.pointer (some ⟨b2, 0, none⟩))), (5, v22), (10, v11), (11, (.int .i64 (List.length u10 : Int))), (12, (.int .i64 y24))] a ∧ Below w0.heap.size w0 w18 ∧ Sep w0.heap.size w18 [R.blk b2 31 [v0_0, v0_1, (.int .i64 x0.2.2.1), (.int .i64 x0.2.2.2)], R.own ty_3 F23 v22 l21, R.own ty_123 F12 v11 u10] ∧ F_spec_swWide_L1 u10 x0 m l21 y24 = some r) FU ?_ ?_
  ·
    have hS26 := hS16.push0 (r := R.own ty_3 [] (.slice none 0 0) []) rfl fun _ => .inl ⟨rfl, rfl, rfl⟩
    exact fun a ha => ⟨[], 0, (.slice none 0 0), [], ha.sub ⟨rfl, rfl, rfl, rfl, rfl, trivial⟩, hB15, (hS26.sel [2, 0, 1] rfl), hF⟩
  ·
    rintro m28 a w18 ⟨l21, y24, v22, F23, ha, hB19, hS20, hF⟩ KL27 hKL27
    refine W.at ?_ ha
    cases m28 with
    | zero => exact noneE hF
    | succ m28 =>
      obtain ⟨nx25, hnx25⟩ : ∃ k, k = F_spec_swWide_L1 u10 x0 m28 := ⟨_, rfl⟩
      rw [F_spec_swWide_L1, ← hnx25] at hF
      refine W.seq fun K29 hK29 => ?_
      refine W.region ?_
      refine wl_lss rfl rfl rfl ?_
      refine WL.nil ?_
      refine fun a ha => hK29 _ _ ?_ a ha
      refine W.seq fun K30 hK30 => ?_
      refine W.cond rfl (fun h31 => ?_) (fun h31 => ?_)
      · replace hF := ifP h31 hF
        refine W.skip ?_
        refine fun a ha => hK30 _ _ ?_ a ha
        refine W.seq fun K32 hK32 => ?_
        obtain ⟨k39, hk39, hF⟩ := jE1 hF
        have hJ40 : ∀ (l36 : (List Int)) (v37 : Value) (F38 : List Nat) (w33 : World) (_ : k39 l36 = some r) (_ : Below w0.heap.size w0 w33) (_ : Sep w0.heap.size w33 [R.blk b2 31 [v0_0, v0_1, (.int .i64 x0.2.2.1), (.int .i64 x0.2.2.2)], R.own ty_3 F38 v37 l36, R.own ty_123 F12 v11 u10]), ∀ a, St 28 [(2, (.pointer (some ⟨b2, 0, none⟩))), (5, v37), (10, v11), (11, (.int .i64 (List.length u10 : Int))), (12, (.int .i64 y24))] a → K32 a w33 := by
          intro l36 v37 F38 w33 hF hB34 hS35
          subst hk39
          refine fun a ha => hK32 _ _ ?_ a ha
          refine W.region ?_
          refine wl_add rfl rfl rfl ?_
          refine wl_move rfl rfl ?_
          refine WL.nil ?_
          rw [hnx25] at hF
          exact fun a ha => hKL27 a _ m28 (Nat.lt_succ_self m28) ⟨l36, (w64 (y24 + 1)), v37, F38, ha.sub ⟨rfl, rfl, rfl, rfl, rfl, trivial⟩, hB34, (hS35.sel [0, 1, 2] rfl), hF⟩
        refine W.block ?_
        refine W.seq fun K41 hK41 => ?_
        refine W.region ?_
        refine wl_move rfl rfl ?_
        obtain ⟨u42, hu42, hF⟩ := bindE hF
        refine wl_indexo (e := ty_123) (i := 2) Try.underlying76 rfl rfl rfl hS20 rfl hu42 ?_
        rintro p43 _ rfl hp44 ho45
        refine wl_load_p (vs := [(.int .i64 u42.1.1), (.int .i64 u42.1.2), (.int .i64 u42.2.1.1), (.int .i64 u42.2.1.2), (.int .i64 u42.2.2)]) (v := (.agg #[(.int .i64 u42.1.1), (.int .i64 u42.1.2), (.int .i64 u42.2.1.1), (.int .i64 u42.2.1.2), (.int .i64 u42.2.2)])) tf_123 rfl rfl hp44 rfl rfl ?_
        refine wl_alloc (cs := [(.int .i64 0), (.int .i64 0), (.int .i64 0), (.int .i64 0), (.int .i64 0)]) tf_123 rfl rfl hB19 hS20 ?_
        intro b46 w47 hb48 hB49 hS50
        refine wl_assign rfl rfl ?_
        refine wl_store_blk (i := 0) (vs := [(.int .i64 u42.1.1), (.int .i64 u42.1.2), (.int .i64 u42.2.1.1), (.int .i64 u42.2.1.2), (.int .i64 u42.2.2)]) (cs' := [(.int .i64 u42.1.1), (.int .i64 u42.1.2), (.int .i64 u42.2.1.1), (.int .i64 u42.2.1.2), (.int .i64 u42.2.2)]) tf_123 rfl rfl rfl rfl hB49 hS50 rfl rfl ⟨rfl, rfl, rfl, rfl, rfl, trivial⟩ rfl ?_
        intro w51 hk54 hB52 hS53
        refine WL.nil ?_
        refine fun a ha => hK41 _ _ ?_ a ha
        refine W.seq fun K55 hK55 => ?_
        refine W.region ?_
        refine wl_load_blk (i := 0) (vs := [(.int .i64 u42.1.1), (.int .i64 u42.1.2), (.int .i64 u42.2.1.1), (.int .i64 u42.2.1.2), (.int .i64 u42.2.2)]) (v := (.agg #[(.int .i64 u42.1.1), (.int .i64 u42.1.2), (.int .i64 u42.2.1.1), (.int .i64 u42.2.1.2), (.int .i64 u42.2.2)])) tf_123 rfl rfl hS53 rfl rfl rfl ?_
        refine wl_field (o := 3) (off' := 3) ff_31_3 rfl rfl rfl ?_
        refine wl_load_blk (i := 1) (vs := [(.int .i64 x0.2.2.2)]) (v := (.int .i64 x0.2.2.2)) tf_3 rfl rfl hS53 rfl rfl rfl ?_
        obtain ⟨u56, hu56, hF⟩ := bindE hF
        refine wl_call rfl Try.call127 (C_spec_mvWithin w51 u42 x0.2.2.2 _ hu56) rfl ?_
        rintro _ w57 ⟨rfl, hb58⟩
        refine ⟨_, rfl, ?_⟩
        have hB59 := hB52.trans (hb58.mono hB52.size)
        have hS60 := hS53.below hb58
        refine wl_not rfl rfl ?_
        refine WL.nil ?_
        refine fun a ha => hK55 _ _ ?_ a ha
        refine W.cond rfl (fun h62 => ?_) (fun h62 => ?_)
        · replace hF := ifP h62 hF
          refine W.region ?_
          refine wl_move rfl rfl ?_
          refine wl_move rfl rfl ?_
          refine wl_lit (vs := [(.int .i64 y24)]) (l := [y24]) fl_3 Try.underlying23 rfl rfl rfl rfl rfl rfl hB59 hS60 ?_
          intro v63 F64 w65 hb66 hB67 hS68
          obtain ⟨u69, hu69, hF⟩ := bindE hF
          refine wl_append (i := 3) (S := (· < w65.heap.size)) fl_3 Try.underlying23 rfl rfl rfl hB67 hS68 rfl (hS68.own_ro (i := 0) rfl) hu69 ?_
          intro v70 F71 w72 hk73 hB74 hS75
          refine wl_assign rfl rfl ?_
          refine WL.nil ?_
          exact fun a ha => hJ40 (u69) (v70) (F71) _ hF hB74 (hS75.sel [2, 3, 4] rfl) a (ha.sub ⟨rfl, rfl, rfl, rfl, rfl, trivial⟩)
        · replace hF := ifN h62 hF
          refine W.skip ?_
          exact fun a ha => hJ40 (l21) (v22) (F23) _ hF hB59 (hS60.sel [1, 2, 3] rfl) a (ha.sub ⟨rfl, rfl, rfl, rfl, rfl, trivial⟩)
      · replace hF := ifN h31 hF
        refine W.exit ?_
        refine fun a ha => hK8 _ _ ?_ a ha
        refine W.seq fun K76 hK76 => ?_
        refine W.region ?_
        refine wl_move rfl rfl ?_
        refine wl_assign rfl rfl ?_
        refine WL.nil ?_
        refine fun a ha => hK76 _ _ ?_ a ha
        refine W.ret ?_
        have hr := Option.some.inj hF
        subst hr
        exact rets (vs := [v22]) hQ rfl ⟨rv_tmp rfl, trivial⟩ ⟨v22, F23, rfl, hB19, hS20.sel [1] rfl⟩
theorem C_spec_WideSteps (w0 : World) (x0 : ((List (List (Int × Int))) × (List Int) × Int × Int)) (v0_0 : Value) (h0_0 : rdS ty_69 (· < w0.heap.size) w0 v0_0 x0.1) (v0_1 : Value) (h0_1 : rdS ty_3 (· < w0.heap.size) w0 v0_1 x0.2.1) (x1 : Int) (r : ((List Int) × Bool)) (hF : F_spec_WideSteps x0 x1 = some r) :
    Calls Try.prog 24 [(.agg #[v0_0, v0_1, (.int .i64 x0.2.2.1), (.int .i64 x0.2.2.2)]), (.int .i64 x1)].toArray w0 fun e w' => ∃ (q0 : Value) (G0 : List Nat), e = .returned (.tuple #[q0, (.bool r.2)]) ∧ Below w0.heap.size w0 w' ∧ Sep w0.heap.size w' [R.own ty_3 G0 q0 r.1] := by
  refine calls_mk' Try.func24 rfl Try.ntmps24 rfl rfl fun Q hQ hP => ?_
  have hB : Below w0.heap.size w0 w0 := Below.refl _ _
  have hS : Sep w0.heap.size w0 [] := Sep.nil _ _
  unfold F_spec_WideSteps at hF
  refine W.seq fun K1 hK1 => ?_
  refine W.region ?_
  refine wl_box (cs := [v0_0, v0_1, (.int .i64 x0.2.2.1), (.int .i64 x0.2.2.2)]) rfl rfl rfl hB hS ?_
  intro b2 w3 hb4 hB5 hS6
  refine wl_assign rfl rfl ?_
  refine wl_assign rfl rfl ?_
  refine WL.nil ?_
  refine fun a ha => hK1 _ _ ?_ a ha
  refine W.seq fun K7 hK7 => ?_
  refine W.seq fun K8 hK8 => ?_
  refine W.region ?_
  refine wl_load_blk (i := 0) (vs := [v0_0, v0_1, (.int .i64 x0.2.2.1), (.int .i64 x0.2.2.2)]) (v := (.agg #[v0_0, v0_1, (.int .i64 x0.2.2.1), (.int .i64 x0.2.2.2)])) tf_31 rfl rfl hS6 rfl rfl rfl ?_
  refine wl_move rfl rfl ?_
  obtain ⟨u9, hu9, hF⟩ := bindE hF
  refine wl_call rfl Try.call77 (C_spec_swHas w3 x0 v0_0 (h0_0.ro hB5) v0_1 (h0_1.ro hB5) x1 _ hu9) rfl ?_
  rintro _ w10 ⟨rfl, hb11⟩
  refine ⟨_, rfl, ?_⟩
  have hB12 := hB5.trans (hb11.mono hB5.size)
  have hS13 := hS6.below hb11
  refine wl_not rfl rfl ?_
  refine WL.nil ?_
  refine fun a ha => hK8 _ _ ?_ a ha
  refine W.cond rfl (fun h15 => ?_) (fun h15 => ?_)
  · replace hF := ifP h15 hF
    refine W.seq fun K16 hK16 => ?_
    refine W.region ?_
    refine wl_assign rfl rfl ?_
    refine wl_assign rfl rfl ?_
    refine WL.nil ?_
    refine fun a ha => hK16 _ _ ?_ a ha
    refine W.ret ?_
    have hS17 := hS13.push0 (r := R.own ty_3 [] (.slice none 0 0) []) rfl fun _ => .inl ⟨rfl, rfl, rfl⟩
    have hr := Option.some.inj hF
    subst hr
    exact rets (vs := [(.slice none 0 0), (.bool false)]) hQ rfl ⟨rv_tmp rfl, rv_tmp rfl, trivial⟩ ⟨(.slice none 0 0), [], rfl, hB12, hS17.sel [0] rfl⟩
  · replace hF := ifN h15 hF
    refine W.skip ?_
    refine fun a ha => hK7 _ _ ?_ a ha
    refine W.seq fun K18 hK18 => ?_
    refine W.region ?_
    refine wl_load_blk (i := 0) (vs := [v0_0, v0_1, (.int .i64 x0.2.2.1), (.int .i64 x0.2.2.2)]) (v := (.agg #[v0_0, v0_1, (.int .i64 x0.2.2.1), (.int .i64 x0.2.2.2)])) tf_31 rfl rfl hS13 rfl rfl rfl ?_
    refine wl_move rfl rfl ?_
    obtain ⟨u19, hu19, hF⟩ := bindE hF
    refine wl_call rfl Try.call78 (C_spec_swWide w10 x0 v0_0 (h0_0.ro hB12) v0_1 (h0_1.ro hB12) x1 _ hu19) rfl ?_
    rintro _ w22 ⟨v20, F21, rfl, hb23, hM26⟩
    refine ⟨_, rfl, ?_⟩
    have hB24 := hB12.trans (hb23.mono hB12.size)
    have hS25 := hS13.join hb23 hM26 hB12.size
    refine wl_assign rfl rfl ?_
    refine wl_assign rfl rfl ?_
    refine WL.nil ?_
    refine fun a ha => hK18 _ _ ?_ a ha
    refine W.ret ?_
    have hr := Option.some.inj hF
    subst hr
    exact rets (vs := [v20, (.bool true)]) hQ rfl ⟨rv_tmp rfl, rv_tmp rfl, trivial⟩ ⟨v20, F21, rfl, hB24, hS25.sel [0] rfl⟩
theorem C_impl_withinStep (w0 : World) (x0 : ((Int × Int) × (Int × Int) × Int)) (x1 : Int) (r : Bool) (hF : F_impl_withinStep x0 x1 = some r) :
    Calls Try.prog 128 [(.agg #[(.int .i64 x0.1.1), (.int .i64 x0.1.2), (.int .i64 x0.2.1.1), (.int .i64 x0.2.1.2), (.int .i64 x0.2.2)]), (.int .i64 x1)].toArray w0 fun e w' => e = .returned (.bool r) ∧ Below w0.heap.size w0 w' := by
  refine calls_mk' Try.func128 rfl Try.ntmps128 rfl rfl fun Q hQ hP => ?_
  have hB : Below w0.heap.size w0 w0 := Below.refl _ _
  have hS : Sep w0.heap.size w0 [] := Sep.nil _ _
  unfold F_impl_withinStep at hF
  refine W.seq fun K1 hK1 => ?_
  refine W.region ?_
  refine wl_box (cs := [(.int .i64 x0.1.1), (.int .i64 x0.1.2), (.int .i64 x0.2.1.1), (.int .i64 x0.2.1.2), (.int .i64 x0.2.2)]) rfl rfl rfl hB hS ?_
  intro b2 w3 hb4 hB5 hS6
  refine wl_assign rfl rfl ?_
  refine WL.nil ?_
  refine fun a ha => hK1 _ _ ?_ a ha
  refine W.seq fun K7 hK7 => ?_
  refine W.regionH mixed_ [] hB5 hS6 ?_
  intro w8 hb9 hB10 hS11
  have hSW12 := KeepX.refl w8 []
  refine WH.takex (i := 0) rfl (by kernel_rfl) (by kernel_rfl) (by kernel_rfl) hP hSW12 ?_
  refine pr_field (o := 0) (off' := 0) ff_123_0 rfl rfl rfl ?_
  refine WH.takex (i := 1) rfl (by kernel_rfl) (by kernel_rfl) (by kernel_rfl) hP hSW12 ?_
  refine pr_load_blk (i := 0) (vs := [(.int .i64 x0.1.1), (.int .i64 x0.1.2)]) (v := (.agg #[(.int .i64 x0.1.1), (.int .i64 x0.1.2)])) tf_116 rfl rfl hS11 rfl rfl rfl (by simp) ?_
  refine WH.takex (i := 2) rfl (by kernel_rfl) (by kernel_rfl) (by kernel_rfl) hP hSW12 ?_
  refine pr_field (o := 2) (off' := 2) ff_123_1 rfl rfl rfl ?_
  refine WH.takex (i := 3) rfl (by kernel_rfl) (by kernel_rfl) (by kernel_rfl) hP hSW12 ?_
  refine pr_load_blk (i := 0) (vs := [(.int .i64 x0.2.1.1), (.int .i64 x0.2.1.2)]) (v := (.agg #[(.int .i64 x0.2.1.1), (.int .i64 x0.2.1.2)])) tf_116 rfl rfl hS11 rfl rfl rfl (by simp) ?_
  refine WH.takex (i := 5) rfl (by kernel_rfl) (by kernel_rfl) (by kernel_rfl) hP hSW12 ?_
  refine pr_move rfl rfl ?_
  refine WH.takex (i := 6) rfl (by kernel_rfl) (by kernel_rfl) (by kernel_rfl) hP hSW12 ?_
  refine pr_move rfl rfl ?_
  refine WH.takex (i := 7) rfl (by kernel_rfl) (by kernel_rfl) (by kernel_rfl) hP hSW12 ?_
  refine pr_mul rfl rfl rfl ?_
  refine WH.takex (i := 8) rfl (by kernel_rfl) (by kernel_rfl) (by kernel_rfl) hP hSW12 ?_
  refine pr_field (o := 4) (off' := 4) ff_123_2 rfl rfl rfl ?_
  refine WH.takex (i := 9) rfl (by kernel_rfl) (by kernel_rfl) (by kernel_rfl) hP hSW12 ?_
  refine pr_load_blk (i := 0) (vs := [(.int .i64 x0.2.2)]) (v := (.int .i64 x0.2.2)) tf_3 rfl rfl hS11 rfl rfl rfl (by simp) ?_
  refine WH.takex (i := 10) rfl (by kernel_rfl) (by kernel_rfl) (by kernel_rfl) hP hSW12 ?_
  refine pr_mul rfl rfl rfl ?_
  refine WH.takex (i := 11) rfl (by kernel_rfl) (by kernel_rfl) (by kernel_rfl) hP hSW12 ?_
  refine pr_field (o := 4) (off' := 4) ff_123_2 rfl rfl rfl ?_
  refine WH.takex (i := 12) rfl (by kernel_rfl) (by kernel_rfl) (by kernel_rfl) hP hSW12 ?_
  refine pr_load_blk (i := 0) (vs := [(.int .i64 x0.2.2)]) (v := (.int .i64 x0.2.2)) tf_3 rfl rfl hS11 rfl rfl rfl (by simp) ?_
  refine WH.takex (i := 13) rfl (by kernel_rfl) (by kernel_rfl) (by kernel_rfl) hP hSW12 ?_
  refine pr_mul rfl rfl rfl ?_
  refine WH.one (i := 4) (by kernel_rfl) rfl ?_
  obtain ⟨u13, hu13, hF⟩ := bindE hF
  refine wl_call rfl Try.call126 (C_impl_squareOf w8 x0.1 x0.2.1 _ hu13) rfl ?_
  rintro _ w14 ⟨rfl, hb15⟩
  refine ⟨_, rfl, ?_⟩
  have hB16 := hB10.trans (hb15.mono hB10.size)
  have hS17 := hS11.below hb15
  have hSW19 := hSW12.ext hb15
  refine WL.nil (WH.ret hSW19 ?_)
  refine WH.takex (i := 14) rfl (by kernel_rfl) (by kernel_rfl) (by kernel_rfl) hP hSW19 ?_
  refine pr_leq rfl rfl rfl ?_
  refine WH.takex (i := 15) rfl (by kernel_rfl) (by kernel_rfl) (by kernel_rfl) hP hSW19 ?_
  refine pr_assign rfl rfl ?_
  refine WH.done (by kernel_rfl) ?_
  refine fun a ha => hK7 _ _ ?_ a ha
  refine W.ret ?_
  have hr := Option.some.inj hF
  subst hr
  exact rets (vs := [(.bool (decide (u13 ≤ (w64 ((w64 ((w64 (x1 * x1)) * x0.2.2)) * x0.2.2)))))]) hQ rfl ⟨rv_tmp rfl, trivial⟩ ⟨rfl, hB16⟩
theorem C_impl_wideSteps (w0 : World) (x0 : ((List (List (Int × Int))) × (List Int) × Int × Int)) (v0_0 : Value) (h0_0 : rdS ty_69 (· < w0.heap.size) w0 v0_0 x0.1) (v0_1 : Value) (h0_1 : rdS ty_3 (· < w0.heap.size) w0 v0_1 x0.2.1) (x1 : Int) (r : (List Int)) (hF : F_impl_wideSteps x0 x1 = some r) :
    Calls Try.prog 80 [(.agg #[v0_0, v0_1, (.int .i64 x0.2.2.1), (.int .i64 x0.2.2.2)]), (.int .i64 x1)].toArray w0 fun e w' => ∃ (q0 : Value) (G0 : List Nat), e = .returned q0 ∧ Below w0.heap.size w0 w' ∧ Sep w0.heap.size w' [R.own ty_3 G0 q0 r] := by
  refine calls_mk' Try.func80 rfl Try.ntmps80 rfl rfl fun Q hQ hP => ?_
  have hB : Below w0.heap.size w0 w0 := Below.refl _ _
  have hS : Sep w0.heap.size w0 [] := Sep.nil _ _
  unfold F_impl_wideSteps at hF
  refine W.seq fun K1 hK1 => ?_
  refine W.region ?_
  refine wl_box (cs := [v0_0, v0_1, (.int .i64 x0.2.2.1), (.int .i64 x0.2.2.2)]) rfl rfl rfl hB hS ?_
  intro b2 w3 hb4 hB5 hS6
  refine wl_assign rfl rfl ?_
  refine WL.nil ?_
  refine fun a ha => hK1 _ _ ?_ a ha
  refine W.seq fun K7 hK7 => ?_
  refine W.region ?_
  refine wl_lit (vs := []) (l := []) fl_3 Try.underlying23 rfl rfl rfl rfl rfl rfl hB5 hS6 ?_
  intro v8 F9 w10 hb11 hB12 hS13
  refine wl_assign rfl rfl ?_
  refine WL.nil ?_
  refine fun a ha => hK7 _ _ ?_ a ha
  refine W.seq fun K14 hK14 => ?_
  refine W.seq fun K15 hK15 => ?_
  refine W.region ?_
  refine wl_load_blk (i := 1) (vs := [v0_0, v0_1, (.int .i64 x0.2.2.1), (.int .i64 x0.2.2.2)]) (v := (.agg #[v0_0, v0_1, (.int .i64 x0.2.2.1), (.int .i64 x0.2.2.2)])) tf_31 rfl rfl hS13 rfl rfl rfl ?_
  refine wl_move rfl rfl ?_
  obtain ⟨u16, hu16, hF⟩ := bindE hF
  refine wl_call rfl Try.call106 (C_impl_showMoves w10 x0 v0_0 (h0_0.ro hB12) v0_1 (h0_1.ro hB12) x1 _ hu16) rfl ?_
  rintro _ w19 ⟨v17, F18, rfl, hb20, hM23⟩
  refine ⟨_, rfl, ?_⟩
  have hB21 := hB12.trans (hb20.mono hB12.size)
  have hS22 := hS13.join hb20 hM23 hB12.size
  refine wl_lenr (e := ty_123) (l := u16) Try.underlying76 rfl rfl (hS22.own_ro (i := 0) rfl) ?_
  refine wl_move rfl rfl ?_
  refine WL.nil ?_
  refine fun a ha => hK15 _ _ ?_ a ha
  refine W.block ?_
  refine W.loopk (fun m a w24 => ∃ (l27 : (List Int)) (y30 : Int) (v28 : Value) (F29 : List Nat), St 29 [(2, (.pointer (some ⟨b2, 0, none⟩))), (5, v28), (11, v17), (12, (.int .i64 (List.length u16 : Int))), (13, (.int .i64 y30))] a ∧ Below w0.heap.size w0 w24 ∧ Sep w0.heap.size w24 [R.blk b2 31 [v0_0, v0_1, (.int .i64 x0.2.2.1), (.int .i64 x0.2.2.2)], R.own ty_3 F29 v28 l27, R.own ty_123 F18 v17 u16] ∧ F_impl_wideSteps_L1 u16 x0 m l27 y30 = some r) FU ?_ ?_
  ·
    exact fun a ha => ⟨[], 0, v8, F9, ha.sub ⟨rfl, rfl, rfl, rfl, rfl, trivial⟩, hB21, (hS22.sel [2, 1, 0] rfl), hF⟩
  ·
    rintro m33 a w24 ⟨l27, y30, v28, F29, ha, hB25, hS26, hF⟩ KL32 hKL32
    refine W.at ?_ ha
    cases m33 with
    | zero => exact noneE hF
    | succ m33 =>
      obtain ⟨nx31, hnx31⟩ : ∃ k, k = F_impl_wideSteps_L1 u16 x0 m33 := ⟨_, rfl⟩
      rw [F_impl_wideSteps_L1, ← hnx31] at hF
      refine W.seq fun K34 hK34 => ?_
      refine W.region ?_
      refine wl_lss rfl rfl rfl ?_
      refine WL.nil ?_
      refine fun a ha => hK34 _ _ ?_ a ha
      refine W.seq fun K35 hK35 => ?_
      refine W.cond rfl (fun h36 => ?_) (fun h36 => ?_)
      · replace hF := ifP h36 hF
        refine W.skip ?_
        refine fun a ha => hK35 _ _ ?_ a ha
        refine W.seq fun K37 hK37 => ?_
        obtain ⟨k44, hk44, hF⟩ := jE1 hF
        have hJ45 : ∀ (l41 : (List Int)) (v42 : Value) (F43 : List Nat) (w38 : World) (_ : k44 l41 = some r) (_ : Below w0.heap.size w0 w38) (_ : Sep w0.heap.size w38 [R.blk b2 31 [v0_0, v0_1, (.int .i64 x0.2.2.1), (.int .i64 x0.2.2.2)], R.own ty_3 F43 v42 l41, R.own ty_123 F18 v17 u16]), ∀ a, St 29 [(2, (.pointer (some ⟨b2, 0, none⟩))), (5, v42), (11, v17), (12, (.int .i64 (List.length u16 : Int))), (13, (.int .i64 y30))] a → K37 a w38 := by
          intro l41 v42 F43 w38 hF hB39 hS40
          subst hk44
          refine fun a ha => hK37 _ _ ?_ a ha
          refine W.region ?_
          refine wl_add rfl rfl rfl ?_
          refine wl_move rfl rfl ?_
          refine WL.nil ?_
          rw [hnx31] at hF
          exact fun a ha => hKL32 a _ m33 (Nat.lt_succ_self m33) ⟨l41, (w64 (y30 + 1)), v42, F43, ha.sub ⟨rfl, rfl, rfl, rfl, rfl, trivial⟩, hB39, (hS40.sel [0, 1, 2] rfl), hF⟩
        refine W.block ?_
        refine W.seq fun K46 hK46 => ?_
        refine W.region ?_
        refine wl_move rfl rfl ?_
        obtain ⟨u47, hu47, hF⟩ := bindE hF
        refine wl_indexo (e := ty_123) (i := 2) Try.underlying76 rfl rfl rfl hS26 rfl hu47 ?_
        rintro p48 _ rfl hp49 ho50
        refine wl_load_p (vs := [(.int .i64 u47.1.1), (.int .i64 u47.1.2), (.int .i64 u47.2.1.1), (.int .i64 u47.2.1.2), (.int .i64 u47.2.2)]) (v := (.agg #[(.int .i64 u47.1.1), (.int .i64 u47.1.2), (.int .i64 u47.2.1.1), (.int .i64 u47.2.1.2), (.int .i64 u47.2.2)])) tf_123 rfl rfl hp49 rfl rfl ?_
        refine wl_alloc (cs := [(.int .i64 0), (.int .i64 0), (.int .i64 0), (.int .i64 0), (.int .i64 0)]) tf_123 rfl rfl hB25 hS26 ?_
        intro b51 w52 hb53 hB54 hS55
        refine wl_assign rfl rfl ?_
        refine wl_store_blk (i := 0) (vs := [(.int .i64 u47.1.1), (.int .i64 u47.1.2), (.int .i64 u47.2.1.1), (.int .i64 u47.2.1.2), (.int .i64 u47.2.2)]) (cs' := [(.int .i64 u47.1.1), (.int .i64 u47.1.2), (.int .i64 u47.2.1.1), (.int .i64 u47.2.1.2), (.int .i64 u47.2.2)]) tf_123 rfl rfl rfl rfl hB54 hS55 rfl rfl ⟨rfl, rfl, rfl, rfl, rfl, trivial⟩ rfl ?_
        intro w56 hk59 hB57 hS58
        refine WL.nil ?_
        refine fun a ha => hK46 _ _ ?_ a ha
        refine W.seq fun K60 hK60 => ?_
        refine W.region ?_
        refine wl_load_blk (i := 0) (vs := [(.int .i64 u47.1.1), (.int .i64 u47.1.2), (.int .i64 u47.2.1.1), (.int .i64 u47.2.1.2), (.int .i64 u47.2.2)]) (v := (.agg #[(.int .i64 u47.1.1), (.int .i64 u47.1.2), (.int .i64 u47.2.1.1), (.int .i64 u47.2.1.2), (.int .i64 u47.2.2)])) tf_123 rfl rfl hS58 rfl rfl rfl ?_
        refine wl_field (o := 3) (off' := 3) ff_31_3 rfl rfl rfl ?_
        refine wl_load_blk (i := 1) (vs := [(.int .i64 x0.2.2.2)]) (v := (.int .i64 x0.2.2.2)) tf_3 rfl rfl hS58 rfl rfl rfl ?_
        obtain ⟨u61, hu61, hF⟩ := bindE hF
        refine wl_call rfl Try.call128 (C_impl_withinStep w56 u47 x0.2.2.2 _ hu61) rfl ?_
        rintro _ w62 ⟨rfl, hb63⟩
        refine ⟨_, rfl, ?_⟩
        have hB64 := hB57.trans (hb63.mono hB57.size)
        have hS65 := hS58.below hb63
        refine wl_not rfl rfl ?_
        refine WL.nil ?_
        refine fun a ha => hK60 _ _ ?_ a ha
        refine W.cond rfl (fun h67 => ?_) (fun h67 => ?_)
        · replace hF := ifP h67 hF
          refine W.region ?_
          refine wl_move rfl rfl ?_
          refine wl_move rfl rfl ?_
          refine wl_lit (vs := [(.int .i64 y30)]) (l := [y30]) fl_3 Try.underlying23 rfl rfl rfl rfl rfl rfl hB64 hS65 ?_
          intro v68 F69 w70 hb71 hB72 hS73
          obtain ⟨u74, hu74, hF⟩ := bindE hF
          refine wl_append (i := 3) (S := (· < w70.heap.size)) fl_3 Try.underlying23 rfl rfl rfl hB72 hS73 rfl (hS73.own_ro (i := 0) rfl) hu74 ?_
          intro v75 F76 w77 hk78 hB79 hS80
          refine wl_assign rfl rfl ?_
          refine WL.nil ?_
          exact fun a ha => hJ45 (u74) (v75) (F76) _ hF hB79 (hS80.sel [2, 3, 4] rfl) a (ha.sub ⟨rfl, rfl, rfl, rfl, rfl, trivial⟩)
        · replace hF := ifN h67 hF
          refine W.skip ?_
          exact fun a ha => hJ45 (l27) (v28) (F29) _ hF hB64 (hS65.sel [1, 2, 3] rfl) a (ha.sub ⟨rfl, rfl, rfl, rfl, rfl, trivial⟩)
      · replace hF := ifN h36 hF
        refine W.exit ?_
        refine fun a ha => hK14 _ _ ?_ a ha
        refine W.seq fun K81 hK81 => ?_
        refine W.region ?_
        refine wl_move rfl rfl ?_
        refine wl_assign rfl rfl ?_
        refine WL.nil ?_
        refine fun a ha => hK81 _ _ ?_ a ha
        refine W.ret ?_
        have hr := Option.some.inj hF
        subst hr
        exact rets (vs := [v28]) hQ rfl ⟨rv_tmp rfl, trivial⟩ ⟨v28, F29, rfl, hB25, hS26.sel [1] rfl⟩
theorem C_impl_WideSteps (w0 : World) (x0 : ((List (List (Int × Int))) × (List Int) × Int × Int)) (v0_0 : Value) (h0_0 : rdS ty_69 (· < w0.heap.size) w0 v0_0 x0.1) (v0_1 : Value) (h0_1 : rdS ty_3 (· < w0.heap.size) w0 v0_1 x0.2.1) (x1 : Int) (r : ((List Int) × Bool)) (hF : F_impl_WideSteps x0 x1 = some r) :
    Calls Try.prog 25 [(.agg #[v0_0, v0_1, (.int .i64 x0.2.2.1), (.int .i64 x0.2.2.2)]), (.int .i64 x1)].toArray w0 fun e w' => ∃ (q0 : Value) (G0 : List Nat), e = .returned (.tuple #[q0, (.bool r.2)]) ∧ Below w0.heap.size w0 w' ∧ Sep w0.heap.size w' [R.own ty_3 G0 q0 r.1] := by
  refine calls_mk' Try.func25 rfl Try.ntmps25 rfl rfl fun Q hQ hP => ?_
  have hB : Below w0.heap.size w0 w0 := Below.refl _ _
  have hS : Sep w0.heap.size w0 [] := Sep.nil _ _
  unfold F_impl_WideSteps at hF
  refine W.seq fun K1 hK1 => ?_
  refine W.region ?_
  refine wl_box (cs := [v0_0, v0_1, (.int .i64 x0.2.2.1), (.int .i64 x0.2.2.2)]) rfl rfl rfl hB hS ?_
  intro b2 w3 hb4 hB5 hS6
  refine wl_assign rfl rfl ?_
  refine wl_assign rfl rfl ?_
  refine WL.nil ?_
  refine fun a ha => hK1 _ _ ?_ a ha
  refine W.seq fun K7 hK7 => ?_
  refine W.seq fun K8 hK8 => ?_
  refine W.region ?_
  refine wl_load_blk (i := 0) (vs := [v0_0, v0_1, (.int .i64 x0.2.2.1), (.int .i64 x0.2.2.2)]) (v := (.agg #[v0_0, v0_1, (.int .i64 x0.2.2.1), (.int .i64 x0.2.2.2)])) tf_31 rfl rfl hS6 rfl rfl rfl ?_
  refine wl_move rfl rfl ?_
  obtain ⟨u9, hu9, hF⟩ := bindE hF
  refine wl_call rfl Try.call79 (C_impl_isPart w3 x0 v0_0 (h0_0.ro hB5) v0_1 (h0_1.ro hB5) x1 _ hu9) rfl ?_
  rintro _ w10 ⟨rfl, hb11⟩
  refine ⟨_, rfl, ?_⟩
  have hB12 := hB5.trans (hb11.mono hB5.size)
  have hS13 := hS6.below hb11
  refine wl_not rfl rfl ?_
  refine WL.nil ?_
  refine fun a ha => hK8 _ _ ?_ a ha
  refine W.cond rfl (fun h15 => ?_) (fun h15 => ?_)
  · replace hF := ifP h15 hF
    refine W.seq fun K16 hK16 => ?_
    refine W.region ?_
    refine wl_assign rfl rfl ?_
    refine wl_assign rfl rfl ?_
    refine WL.nil ?_
    refine fun a ha => hK16 _ _ ?_ a ha
    refine W.ret ?_
    have hS17 := hS13.push0 (r := R.own ty_3 [] (.slice none 0 0) []) rfl fun _ => .inl ⟨rfl, rfl, rfl⟩
    have hr := Option.some.inj hF
    subst hr
    exact rets (vs := [(.slice none 0 0), (.bool false)]) hQ rfl ⟨rv_tmp rfl, rv_tmp rfl, trivial⟩ ⟨(.slice none 0 0), [], rfl, hB12, hS17.sel [0] rfl⟩
  · replace hF := ifN h15 hF
    refine W.skip ?_
    refine fun a ha => hK7 _ _ ?_ a ha
    refine W.seq fun K18 hK18 => ?_
    refine W.region ?_
    refine wl_load_blk (i := 0) (vs := [v0_0, v0_1, (.int .i64 x0.2.2.1), (.int .i64 x0.2.2.2)]) (v := (.agg #[v0_0, v0_1, (.int .i64 x0.2.2.1), (.int .i64 x0.2.2.2)])) tf_31 rfl rfl hS13 rfl rfl rfl ?_
    refine wl_move rfl rfl ?_
    obtain ⟨u19, hu19, hF⟩ := bindE hF
    refine wl_call rfl Try.call80 (C_impl_wideSteps w10 x0 v0_0 (h0_0.ro hB12) v0_1 (h0_1.ro hB12) x1 _ hu19) rfl ?_
    rintro _ w22 ⟨v20, F21, rfl, hb23, hM26⟩
    refine ⟨_, rfl, ?_⟩
    have hB24 := hB12.trans (hb23.mono hB12.size)
    have hS25 := hS13.join hb23 hM26 hB12.size
    refine wl_assign rfl rfl ?_
    refine wl_assign rfl rfl ?_
    refine WL.nil ?_
    refine fun a ha => hK18 _ _ ?_ a ha
    refine W.ret ?_
    have hr := Option.some.inj hF
    subst hr
    exact rets (vs := [v20, (.bool true)]) hQ rfl ⟨rv_tmp rfl, rv_tmp rfl, trivial⟩ ⟨v20, F21, rfl, hB24, hS25.sel [0] rfl⟩
theorem C_laws_FnExactWideSteps (w0 : World) (x0 : ((List (List (Int × Int))) × (List Int) × Int × Int)) (v0_0 : Value) (h0_0 : rdS ty_66 (· < w0.heap.size) w0 v0_0 x0.1) (v0_1 : Value) (h0_1 : rdS ty_3 (· < w0.heap.size) w0 v0_1 x0.2.1) (x1 : Int) (r : Bool) (hF : F_laws_FnExactWideSteps x0 x1 = some r) :
    Calls Try.prog 4 [(.agg #[v0_0, v0_1, (.int .i64 x0.2.2.1), (.int .i64 x0.2.2.2)]), (.int .i64 x1)].toArray w0 fun e w' => e = .returned (.bool r) ∧ Below w0.heap.size w0 w' := by
  refine calls_mk' Try.func4 rfl Try.ntmps4 rfl rfl fun Q hQ hP => ?_
  have hB : Below w0.heap.size w0 w0 := Below.refl _ _
  have hS : Sep w0.heap.size w0 [] := Sep.nil _ _
  unfold F_laws_FnExactWideSteps at hF
  refine W.seq fun K1 hK1 => ?_
  refine W.region ?_
  refine wl_box (cs := [v0_0, v0_1, (.int .i64 x0.2.2.1), (.int .i64 x0.2.2.2)]) rfl rfl rfl hB hS ?_
  intro b2 w3 hb4 hB5 hS6
  refine wl_assign rfl rfl ?_
  refine WL.nil ?_
  refine fun a ha => hK1 _ _ ?_ a ha
  refine W.seq fun K7 hK7 => ?_
  refine W.region ?_
  refine wl_assign rfl rfl ?_
  refine WL.nil ?_
  refine fun a ha => hK7 _ _ ?_ a ha
  refine W.seq fun K8 hK8 => ?_
  refine W.region ?_
  refine wl_load_blk (i := 0) (vs := [v0_0, v0_1, (.int .i64 x0.2.2.1), (.int .i64 x0.2.2.2)]) (v := (.agg #[v0_0, v0_1, (.int .i64 x0.2.2.1), (.int .i64 x0.2.2.2)])) tf_25 rfl rfl hS6 rfl rfl rfl ?_
  refine wl_move rfl rfl ?_
  obtain ⟨u9, hu9, hF⟩ := bindE hF
  refine wl_call rfl Try.call15 (C_laws_szShow w3 x0 v0_0 (h0_0.ro hB5) v0_1 (h0_1.ro hB5) 1048576 _ hu9) rfl ?_
  rintro _ w10 ⟨rfl, hb11⟩
  refine ⟨_, rfl, ?_⟩
  have hB12 := hB5.trans (hb11.mono hB5.size)
  have hS13 := hS6.below hb11
  refine wl_assign rfl rfl ?_
  refine WL.nil ?_
  refine fun a ha => hK8 _ _ ?_ a ha
  refine W.seq fun K15 hK15 => ?_
  refine W.seq fun K16 hK16 => ?_
  refine W.region ?_
  refine wl_move rfl rfl ?_
  refine wl_lss rfl rfl rfl ?_
  refine WL.nil ?_
  refine fun a ha => hK16 _ _ ?_ a ha
  refine W.cond rfl (fun h17 => ?_) (fun h17 => ?_)
  · replace hF := ifP h17 hF
    refine W.seq fun K18 hK18 => ?_
    refine W.region ?_
    refine wl_assign rfl rfl ?_
    refine WL.nil ?_
    refine fun a ha => hK18 _ _ ?_ a ha
    refine W.ret ?_
    have hr := Option.some.inj hF
    subst hr
    exact rets (vs := [(.bool true)]) hQ rfl ⟨rv_tmp rfl, trivial⟩ ⟨rfl, hB12⟩
  · replace hF := ifN h17 hF
    refine W.skip ?_
    refine fun a ha => hK15 _ _ ?_ a ha
    refine W.seq fun K19 hK19 => ?_
    refine W.region ?_
    refine wl_load_blk (i := 0) (vs := [v0_0, v0_1, (.int .i64 x0.2.2.1), (.int .i64 x0.2.2.2)]) (v := (.agg #[v0_0, v0_1, (.int .i64 x0.2.2.1), (.int .i64 x0.2.2.2)])) tf_25 rfl rfl hS13 rfl rfl rfl ?_
    obtain ⟨u20, hu20, hF⟩ := bindE hF
    refine wl_call rfl Try.call17 (C_laws_toShow w10 x0 v0_0 (h0_0.ro hB12) v0_1 (h0_1.ro hB12) _ hu20) rfl ?_
    rintro _ w25 ⟨v21, F22, v23, F24, rfl, hb26, hM29⟩
    refine ⟨_, rfl, ?_⟩
    have hB27 := hB12.trans (hb26.mono hB12.size)
    have hS28 := hS13.join hb26 hM29 hB12.size
    refine wl_move rfl rfl ?_
    obtain ⟨u30, hu30, hF⟩ := bindE hF
    refine wl_call rfl Try.call24 (C_spec_WideSteps w25 u20 v21 (hS28.own_ro (i := 0) rfl) v23 (hS28.own_ro (i := 1) rfl) x1 _ hu30) rfl ?_
    rintro _ w33 ⟨v31, F32, rfl, hb34, hM37⟩
    refine ⟨_, rfl, ?_⟩
    have hB35 := hB27.trans (hb34.mono hB27.size)
    have hS36 := hS28.join hb34 hM37 hB27.size
    refine wl_move rfl rfl ?_
    refine wl_extract rfl rfl rfl ?_
    refine wl_extract rfl rfl rfl ?_
    refine wl_assign rfl rfl ?_
    refine wl_assign rfl rfl ?_
    refine WL.nil ?_
    refine fun a ha => hK19 _ _ ?_ a ha
    refine W.seq fun K38 hK38 => ?_
    refine W.region ?_
    refine wl_load_blk (i := 3) (vs := [v0_0, v0_1, (.int .i64 x0.2.2.1), (.int .i64 x0.2.2.2)]) (v := (.agg #[v0_0, v0_1, (.int .i64 x0.2.2.1), (.int .i64 x0.2.2.2)])) tf_25 rfl rfl hS36 rfl rfl rfl ?_
    obtain ⟨u39, hu39, hF⟩ := bindE hF
    refine wl_call rfl Try.call17 (C_laws_toShow w33 x0 v0_0 (h0_0.ro hB35) v0_1 (h0_1.ro hB35) _ hu39) rfl ?_
    rintro _ w44 ⟨v40, F41, v42, F43, rfl, hb45, hM48⟩
    refine ⟨_, rfl, ?_⟩
    have hB46 := hB35.trans (hb45.mono hB35.size)
    have hS47 := hS36.join hb45 hM48 hB35.size
    refine wl_alloc (cs := [(.slice none 0 0), (.slice none 0 0), (.int .i64 0), (.int .i64 0)]) tf_31 rfl rfl hB46 hS47 ?_
    intro b49 w50 hb51 hB52 hS53
    refine wl_store_blk (i := 0) (vs := [v40, v42, (.int .i64 u39.2.2.1), (.int .i64 u39.2.2.2)]) (cs' := [v40, v42, (.int .i64 u39.2.2.1), (.int .i64 u39.2.2.2)]) tf_31 rfl rfl rfl rfl hB52 hS53 rfl rfl ⟨(hS53.own_ro (i := 1) rfl).one, (hS53.own_ro (i := 2) rfl).one, rfl, rfl, trivial⟩ rfl ?_
    intro w54 hk57 hB55 hS56
    refine WL.nil ?_
    refine fun a ha => hK38 _ _ ?_ a ha
    refine W.seq fun K58 hK58 => ?_
    refine W.region ?_
    refine wl_load_blk (i := 0) (vs := [v40, v42, (.int .i64 u39.2.2.1), (.int .i64 u39.2.2.2)]) (v := (.agg #[v40, v42, (.int .i64 u39.2.2.1), (.int .i64 u39.2.2.2)])) tf_31 rfl rfl hS56 rfl rfl rfl ?_
    refine wl_move rfl rfl ?_
    obtain ⟨u59, hu59, hF⟩ := bindE hF
    refine wl_call rfl Try.call25 (C_impl_WideSteps w54 u39 v40 (hS56.own_ro (i := 1) rfl) v42 (hS56.own_ro (i := 2) rfl) x1 _ hu59) rfl ?_
    rintro _ w62 ⟨v60, F61, rfl, hb63, hM66⟩
    refine ⟨_, rfl, ?_⟩
    have hB64 := hB55.trans (hb63.mono hB55.size)
    have hS65 := hS56.join hb63 hM66 hB55.size
    refine wl_move rfl rfl ?_
    refine wl_extract rfl rfl rfl ?_
    refine wl_extract rfl rfl rfl ?_
    refine wl_assign rfl rfl ?_
    refine wl_assign rfl rfl ?_
    refine WL.nil ?_
    refine fun a ha => hK58 _ _ ?_ a ha
    refine W.seq fun K67 hK67 => ?_
    refine W.seq fun K68 hK68 => ?_
    obtain ⟨k73, hk73, hF⟩ := jE1 hF
    have hJ74 : ∀ (y72 : Bool) (w69 : World) (_ : k73 y72 = some r) (_ : Below w0.heap.size w0 w69) (_ : Sep w0.heap.size w69 [R.blk b2 25 [v0_0, v0_1, (.int .i64 x0.2.2.1), (.int .i64 x0.2.2.2)], R.own ty_3 F32 v31 u30.1, R.own ty_69 F41 v40 u39.1, R.own ty_3 F43 v42 u39.2.1, R.blk b49 31 [v40, v42, (.int .i64 u39.2.2.1), (.int .i64 u39.2.2.2)], R.own ty_3 F61 v60 u59.1]), ∀ a, St 101 [(1, (.int .i64 x1)), (2, (.pointer (some ⟨b2, 0, none⟩))), (6, v31), (7, (.bool u30.2)), (8, (.pointer (some ⟨b49, 0, none⟩))), (9, v60), (10, (.bool u59.2)), (44, (.bool y72))] a → K68 a w69 := by
      intro y72 w69 hF hB70 hS71
      subst hk73
      refine fun a ha => hK68 _ _ ?_ a ha
      refine W.cond rfl (fun h75 => ?_) (fun h75 => ?_)
      · replace hF := ifP h75 hF
        refine W.seq fun K76 hK76 => ?_
        refine W.region ?_
        refine wl_assign rfl rfl ?_
        refine WL.nil ?_
        refine fun a ha => hK76 _ _ ?_ a ha
        refine W.ret ?_
        have hr := Option.some.inj hF
        subst hr
        exact rets (vs := [(.bool false)]) hQ rfl ⟨rv_tmp rfl, trivial⟩ ⟨rfl, hB70⟩
      · replace hF := ifN h75 hF
        refine W.skip ?_
        refine fun a ha => hK67 _ _ ?_ a ha
        refine W.seq fun K77 hK77 => ?_
        refine W.seq fun K78 hK78 => ?_
        refine W.regionH mixed_ [] hB70 hS71 ?_
        intro w79 hb80 hB81 hS82
        have hSW83 := KeepX.refl w79 []
        refine WH.takex (i := 0) rfl (by kernel_rfl) (by kernel_rfl) (by kernel_rfl) hP hSW83 ?_
        refine pr_load_blk (i := 4) (vs := [v40, v42, (.int .i64 u39.2.2.1), (.int .i64 u39.2.2.2)]) (v := (.agg #[v40, v42, (.int .i64 u39.2.2.1), (.int .i64 u39.2.2.2)])) tf_31 rfl rfl hS82 rfl rfl rfl (by simp) ?_
        refine WH.takex (i := 1) rfl (by kernel_rfl) (by kernel_rfl) (by kernel_rfl) hP hSW83 ?_
        refine pr_load_blk (i := 0) (vs := [v0_0, v0_1, (.int .i64 x0.2.2.1), (.int .i64 x0.2.2.2)]) (v := (.agg #[v0_0, v0_1, (.int .i64 x0.2.2.1), (.int .i64 x0.2.2.2)])) tf_25 rfl rfl hS82 rfl rfl rfl (by simp) ?_
        refine WH.one (i := 2) (by kernel_rfl) rfl ?_
        obtain ⟨u84, hu84, hF⟩ := bindE hF
        refine wl_call rfl Try.call17 (C_laws_toShow w79 x0 v0_0 (h0_0.ro hB81) v0_1 (h0_1.ro hB81) _ hu84) rfl ?_
        rintro _ w89 ⟨v85, F86, v87, F88, rfl, hb90, hM93⟩
        refine ⟨_, rfl, ?_⟩
        have hB91 := hB81.trans (hb90.mono hB81.size)
        have hS92 := hS82.join hb90 hM93 hB81.size
        have hSW94 := hSW83.ext hb90
        refine WL.nil (WH.ret hSW94 ?_)
        refine WH.one (i := 3) (by kernel_rfl) rfl ?_
        obtain ⟨u95, hu95, hF⟩ := bindE hF
        refine wl_call rfl Try.call20 (C_laws_eqShow w89 u39 v40 (hS92.own_ro (i := 4) rfl) v42 (hS92.own_ro (i := 5) rfl) u84 v85 (hS92.own_ro (i := 0) rfl) v87 (hS92.own_ro (i := 1) rfl) _ hu95) rfl ?_
        rintro _ w96 ⟨rfl, hb97⟩
        refine ⟨_, rfl, ?_⟩
        have hB98 := hB91.trans (hb97.mono hB91.size)
        have hS99 := hS92.below hb97
        have hSW101 := hSW94.ext hb97
        refine WL.nil (WH.ret hSW101 ?_)
        refine WH.takex (i := 4) rfl (by kernel_rfl) (by kernel_rfl) (by kernel_rfl) hP hSW101 ?_
        refine pr_not rfl rfl ?_
        refine WH.done (by kernel_rfl) ?_
        refine fun a ha => hK78 _ _ ?_ a ha
        refine W.cond rfl (fun h102 => ?_) (fun h102 => ?_)
        · replace hF := ifP h102 hF
          refine W.seq fun K103 hK103 => ?_
          refine W.region ?_
          refine wl_assign rfl rfl ?_
          refine WL.nil ?_
          refine fun a ha => hK103 _ _ ?_ a ha
          refine W.ret ?_
          have hr := Option.some.inj hF
          subst hr
          exact rets (vs := [(.bool false)]) hQ rfl ⟨rv_tmp rfl, trivial⟩ ⟨rfl, hB98⟩
        · replace hF := ifN h102 hF
          refine W.skip ?_
          refine fun a ha => hK77 _ _ ?_ a ha
          refine W.seq fun K104 hK104 => ?_
          refine W.region ?_
          refine wl_assign rfl rfl ?_
          refine WL.nil ?_
          refine fun a ha => hK104 _ _ ?_ a ha
          refine W.seq fun K105 hK105 => ?_
          refine W.region ?_
          refine wl_load_blk (i := 6) (vs := [v40, v42, (.int .i64 u39.2.2.1), (.int .i64 u39.2.2.2)]) (v := (.agg #[v40, v42, (.int .i64 u39.2.2.1), (.int .i64 u39.2.2.2)])) tf_31 rfl rfl hS99 rfl rfl rfl ?_
          refine wl_move rfl rfl ?_
          obtain ⟨u106, hu106, hF⟩ := bindE hF
          refine wl_call rfl Try.call21 (C_laws_markShow w96 u39 v40 F41 v42 F43 1 (hS99.sel [4, 5] rfl).base0 _ hu106) rfl ?_
          rintro _ w107 ⟨rfl, hE108, hM109⟩
          refine ⟨_, rfl, ?_⟩
          have hB110 := hS99.mutB [4, 5] rfl (M := [R.own ty_69 F41 v40 u39.1, R.own ty_3 F43 v42 u39.2.1]) rfl (M' := [R.own ty_69 F41 v40 u106.2.1, R.own ty_3 F43 v42 u106.2.2.1]) rfl hB98 hB98.size hE108 hM109
          have hS111 : Sep w0.heap.size w107 [R.own ty_69 F41 v40 u106.2.1, R.own ty_3 F43 v42 u106.2.2.1, R.own ty_69 F86 v85 u84.1, R.own ty_3 F88 v87 u84.2.1, R.blk b2 25 [v0_0, v0_1, (.int .i64 x0.2.2.1), (.int .i64 x0.2.2.2)], R.own ty_3 F32 v31 u30.1, R.blk b49 31 [v40, v42, (.int .i64 u39.2.2.1), (.int .i64 u39.2.2.2)], R.own ty_3 F61 v60 u59.1] := hS99.mut [4, 5] [0, 1, 2, 3, 6, 7] rfl (M := [R.own ty_69 F41 v40 u39.1, R.own ty_3 F43 v42 u39.2.1]) rfl (M' := [R.own ty_69 F41 v40 u106.2.1, R.own ty_3 F43 v42 u106.2.2.1]) rfl hM109
          refine wl_assign rfl rfl ?_
          refine WL.nil ?_
          refine fun a ha => hK105 _ _ ?_ a ha
          refine W.seq fun K112 hK112 => ?_
          refine W.seq fun K113 hK113 => ?_
          obtain ⟨k118, hk118, hF⟩ := jE1 hF
          have hJ119 : ∀ (y117 : Bool) (w114 : World) (_ : k118 y117 = some r) (_ : Below w0.heap.size w0 w114) (_ : Sep w0.heap.size w114 [R.blk b2 25 [v0_0, v0_1, (.int .i64 x0.2.2.1), (.int .i64 x0.2.2.2)], R.own ty_3 F32 v31 u30.1, R.own ty_3 F61 v60 u59.1]), ∀ a, St 101 [(1, (.int .i64 x1)), (2, (.pointer (some ⟨b2, 0, none⟩))), (6, v31), (7, (.bool u30.2)), (9, v60), (65, (.bool y117))] a → K113 a w114 := by
            intro y117 w114 hF hB115 hS116
            subst hk118
            refine fun a ha => hK113 _ _ ?_ a ha
            refine W.cond rfl (fun h120 => ?_) (fun h120 => ?_)
            · replace hF := ifP h120 hF
              refine W.seq fun K121 hK121 => ?_
              refine W.region ?_
              refine wl_assign rfl rfl ?_
              refine WL.nil ?_
              refine fun a ha => hK121 _ _ ?_ a ha
              refine W.ret ?_
              have hr := Option.some.inj hF
              subst hr
              exact rets (vs := [(.bool false)]) hQ rfl ⟨rv_tmp rfl, trivial⟩ ⟨rfl, hB115⟩
            · replace hF := ifN h120 hF
              refine W.skip ?_
              refine fun a ha => hK112 _ _ ?_ a ha
              refine W.seq fun K122 hK122 => ?_
              refine W.region ?_
              refine wl_assign rfl rfl ?_
              refine WL.nil ?_
              refine fun a ha => hK122 _ _ ?_ a ha
              refine W.seq fun K123 hK123 => ?_
              refine W.region ?_
              refine wl_move rfl rfl ?_
              refine wl_move rfl rfl ?_
              obtain ⟨u124, hu124, hF⟩ := bindE hF
              refine wl_call rfl Try.call22 (C_laws_markIntS w114 u59.1 v60 F61 1 (hS116.sel [2] rfl).base0 _ hu124) rfl ?_
              rintro _ w125 ⟨rfl, hE126, hM127⟩
              refine ⟨_, rfl, ?_⟩
              have hB128 := hS116.mutB [2] rfl (M := [R.own ty_3 F61 v60 u59.1]) rfl (M' := [R.own ty_3 F61 v60 u124.2]) rfl hB115 hB115.size hE126 hM127
              have hS129 : Sep w0.heap.size w125 [R.own ty_3 F61 v60 u124.2, R.blk b2 25 [v0_0, v0_1, (.int .i64 x0.2.2.1), (.int .i64 x0.2.2.2)], R.own ty_3 F32 v31 u30.1] := hS116.mut [2] [0, 1] rfl (M := [R.own ty_3 F61 v60 u59.1]) rfl (M' := [R.own ty_3 F61 v60 u124.2]) rfl hM127
              refine wl_assign rfl rfl ?_
              refine WL.nil ?_
              refine fun a ha => hK123 _ _ ?_ a ha
              refine W.seq fun K130 hK130 => ?_
              refine W.region ?_
              refine wl_assign rfl rfl ?_
              refine WL.nil ?_
              refine fun a ha => hK130 _ _ ?_ a ha
              refine W.seq fun K131 hK131 => ?_
              refine W.region ?_
              refine wl_move rfl rfl ?_
              refine wl_move rfl rfl ?_
              obtain ⟨u132, hu132, hF⟩ := bindE hF
              refine wl_call rfl Try.call23 (C_laws_heldIntS w125 u124.2 v60 (hS129.own_ro (i := 0) rfl) 1 _ hu132) rfl ?_
              rintro _ w133 ⟨rfl, hb134⟩
              refine ⟨_, rfl, ?_⟩
              have hB135 := hB128.trans (hb134.mono hB128.size)
              have hS136 := hS129.below hb134
              refine wl_assign rfl rfl ?_
              refine WL.nil ?_
              refine fun a ha => hK131 _ _ ?_ a ha
              refine W.seq fun K138 hK138 => ?_
              refine W.seq fun K139 hK139 => ?_
              refine W.region ?_
              refine wl_move rfl rfl ?_
              refine wl_lss rfl rfl rfl ?_
              refine WL.nil ?_
              refine fun a ha => hK139 _ _ ?_ a ha
              refine W.cond rfl (fun h140 => ?_) (fun h140 => ?_)
              · replace hF := ifP h140 hF
                refine W.seq fun K141 hK141 => ?_
                refine W.region ?_
                refine wl_assign rfl rfl ?_
                refine WL.nil ?_
                refine fun a ha => hK141 _ _ ?_ a ha
                refine W.ret ?_
                have hr := Option.some.inj hF
                subst hr
                exact rets (vs := [(.bool false)]) hQ rfl ⟨rv_tmp rfl, trivial⟩ ⟨rfl, hB135⟩
              · replace hF := ifN h140 hF
                refine W.skip ?_
                refine fun a ha => hK138 _ _ ?_ a ha
                refine W.seq fun K142 hK142 => ?_
                refine W.seq fun K143 hK143 => ?_
                refine W.region ?_
                refine wl_move rfl rfl ?_
                refine wl_move rfl rfl ?_
                refine wl_neq rfl rfl rfl ?_
                refine WL.nil ?_
                refine fun a ha => hK143 _ _ ?_ a ha
                refine W.cond rfl (fun h144 => ?_) (fun h144 => ?_)
                · replace hF := ifP h144 hF
                  refine W.seq fun K145 hK145 => ?_
                  refine W.region ?_
                  refine wl_assign rfl rfl ?_
                  refine WL.nil ?_
                  refine fun a ha => hK145 _ _ ?_ a ha
                  refine W.ret ?_
                  have hr := Option.some.inj hF
                  subst hr
                  exact rets (vs := [(.bool false)]) hQ rfl ⟨rv_tmp rfl, trivial⟩ ⟨rfl, hB135⟩
                · replace hF := ifN h144 hF
                  refine W.skip ?_
                  refine fun a ha => hK142 _ _ ?_ a ha
                  refine W.seq fun K146 hK146 => ?_
                  refine W.region ?_
                  refine wl_load_blk (i := 1) (vs := [v0_0, v0_1, (.int .i64 x0.2.2.1), (.int .i64 x0.2.2.2)]) (v := (.agg #[v0_0, v0_1, (.int .i64 x0.2.2.1), (.int .i64 x0.2.2.2)])) tf_25 rfl rfl hS136 rfl rfl rfl ?_
                  obtain ⟨u147, hu147, hF⟩ := bindE hF
                  refine wl_call rfl Try.call17 (C_laws_toShow w133 x0 v0_0 (h0_0.ro hB135) v0_1 (h0_1.ro hB135) _ hu147) rfl ?_
                  rintro _ w152 ⟨v148, F149, v150, F151, rfl, hb153, hM156⟩
                  refine ⟨_, rfl, ?_⟩
                  have hB154 := hB135.trans (hb153.mono hB135.size)
                  have hS155 := hS136.join hb153 hM156 hB135.size
                  refine wl_move rfl rfl ?_
                  obtain ⟨u157, hu157, hF⟩ := bindE hF
                  refine wl_call rfl Try.call25 (C_impl_WideSteps w152 u147 v148 (hS155.own_ro (i := 0) rfl) v150 (hS155.own_ro (i := 1) rfl) x1 _ hu157) rfl ?_
                  rintro _ w160 ⟨v158, F159, rfl, hb161, hM164⟩
                  refine ⟨_, rfl, ?_⟩
                  have hB162 := hB154.trans (hb161.mono hB154.size)
                  have hS163 := hS155.join hb161 hM164 hB154.size
                  refine wl_move rfl rfl ?_
                  refine wl_extract rfl rfl rfl ?_
                  refine wl_extract rfl rfl rfl ?_
                  refine wl_assign rfl rfl ?_
                  refine wl_assign rfl rfl ?_
                  refine WL.nil ?_
                  refine fun a ha => hK146 _ _ ?_ a ha
                  refine W.seq fun K165 hK165 => ?_
                  refine W.seq fun K166 hK166 => ?_
                  obtain ⟨k171, hk171, hF⟩ := jE1 hF
                  have hJ172 : ∀ (y170 : Bool) (w167 : World) (_ : k171 y170 = some r) (_ : Below w0.heap.size w0 w167) (_ : Sep w0.heap.size w167 [R.own ty_3 F61 v60 u124.2]), ∀ a, St 101 [(9, v60), (12, (.int .i64 u124.1)), (92, (.bool y170))] a → K166 a w167 := by
                    intro y170 w167 hF hB168 hS169
                    subst hk171
                    refine fun a ha => hK166 _ _ ?_ a ha
                    refine W.cond rfl (fun h173 => ?_) (fun h173 => ?_)
                    · replace hF := ifP h173 hF
                      refine W.seq fun K174 hK174 => ?_
                      refine W.region ?_
                      refine wl_assign rfl rfl ?_
                      refine WL.nil ?_
                      refine fun a ha => hK174 _ _ ?_ a ha
                      refine W.ret ?_
                      have hr := Option.some.inj hF
                      subst hr
                      exact rets (vs := [(.bool false)]) hQ rfl ⟨rv_tmp rfl, trivial⟩ ⟨rfl, hB168⟩
                    · replace hF := ifN h173 hF
                      refine W.skip ?_
                      refine fun a ha => hK165 _ _ ?_ a ha
                      refine W.seq fun K175 hK175 => ?_
                      refine W.region ?_
                      refine wl_assign rfl rfl ?_
                      refine WL.nil ?_
                      refine fun a ha => hK175 _ _ ?_ a ha
                      refine W.seq fun K176 hK176 => ?_
                      refine W.region ?_
                      refine wl_move rfl rfl ?_
                      refine wl_move rfl rfl ?_
                      obtain ⟨u177, hu177, hF⟩ := bindE hF
                      refine wl_call rfl Try.call23 (C_laws_heldIntS w167 u124.2 v60 (hS169.own_ro (i := 0) rfl) 1 _ hu177) rfl ?_
                      rintro _ w178 ⟨rfl, hb179⟩
                      refine ⟨_, rfl, ?_⟩
                      have hB180 := hB168.trans (hb179.mono hB168.size)
                      have hS181 := hS169.below hb179
                      refine wl_assign rfl rfl ?_
                      refine WL.nil ?_
                      refine fun a ha => hK176 _ _ ?_ a ha
                      refine W.seq fun K183 hK183 => ?_
                      refine W.seq fun K184 hK184 => ?_
                      refine W.region ?_
                      refine wl_move rfl rfl ?_
                      refine wl_lss rfl rfl rfl ?_
                      refine WL.nil ?_
                      refine fun a ha => hK184 _ _ ?_ a ha
                      refine W.cond rfl (fun h185 => ?_) (fun h185 => ?_)
                      · replace hF := ifP h185 hF
                        refine W.seq fun K186 hK186 => ?_
                        refine W.region ?_
                        refine wl_assign rfl rfl ?_
                        refine WL.nil ?_
                        refine fun a ha => hK186 _ _ ?_ a ha
                        refine W.ret ?_
                        have hr := Option.some.inj hF
                        subst hr
                        exact rets (vs := [(.bool false)]) hQ rfl ⟨rv_tmp rfl, trivial⟩ ⟨rfl, hB180⟩
                      · replace hF := ifN h185 hF
                        refine W.skip ?_
                        refine fun a ha => hK183 _ _ ?_ a ha
                        refine W.seq fun K187 hK187 => ?_
                        refine W.seq fun K188 hK188 => ?_
                        refine W.region ?_
                        refine wl_move rfl rfl ?_
                        refine wl_move rfl rfl ?_
                        refine wl_neq rfl rfl rfl ?_
                        refine WL.nil ?_
                        refine fun a ha => hK188 _ _ ?_ a ha
                        refine W.cond rfl (fun h189 => ?_) (fun h189 => ?_)
                        · replace hF := ifP h189 hF
                          refine W.seq fun K190 hK190 => ?_
                          refine W.region ?_
                          refine wl_assign rfl rfl ?_
                          refine WL.nil ?_
                          refine fun a ha => hK190 _ _ ?_ a ha
                          refine W.ret ?_
                          have hr := Option.some.inj hF
                          subst hr
                          exact rets (vs := [(.bool false)]) hQ rfl ⟨rv_tmp rfl, trivial⟩ ⟨rfl, hB180⟩
                        · replace hF := ifN h189 hF
                          refine W.skip ?_
                          refine fun a ha => hK187 _ _ ?_ a ha
                          refine W.seq fun K191 hK191 => ?_
                          refine W.region ?_
                          refine wl_assign rfl rfl ?_
                          refine WL.nil ?_
                          refine fun a ha => hK191 _ _ ?_ a ha
                          refine W.ret ?_
                          have hr := Option.some.inj hF
                          subst hr
                          exact rets (vs := [(.bool true)]) hQ rfl ⟨rv_tmp rfl, trivial⟩ ⟨rfl, hB180⟩
                  refine W.region ?_
                  refine wl_move rfl rfl ?_
                  refine wl_move rfl rfl ?_
                  obtain ⟨u192, hu192, hF⟩ := bindE hF
                  refine wl_call rfl Try.call19 (C_laws_eqIntS w160 u157.1 v158 (hS163.own_ro (i := 0) rfl) u30.1 v31 (hS163.own_ro (i := 5) rfl) _ hu192) rfl ?_
                  rintro _ w193 ⟨rfl, hb194⟩
                  refine ⟨_, rfl, ?_⟩
                  have hB195 := hB162.trans (hb194.mono hB162.size)
                  have hS196 := hS163.below hb194
                  refine wl_not rfl rfl ?_
                  refine wl_move rfl rfl ?_
                  rcases bE (!u192) with h198 | h198
                  · replace hF := ifP h198 hF
                    refine wl_off rfl rfl rfl h198 ?_
                    refine wl_off rfl rfl rfl h198 ?_
                    refine wl_off rfl rfl rfl h198 ?_
                    refine wl_pick_t rfl rfl h198 rfl ?_
                    refine WL.nil ?_
                    exact fun a ha => hJ172 (true) _ hF hB195 (hS196.sel [3] rfl) a (ha.sub ⟨rfl, rfl, rfl, trivial⟩)
                  · replace hF := ifN h198 hF
                    refine wl_on rfl rfl h198 ?_
                    refine wl_move rfl rfl ?_
                    refine wl_on rfl rfl h198 ?_
                    refine wl_move rfl rfl ?_
                    refine wl_on rfl rfl h198 ?_
                    refine wl_neqb Try.underlying4 rfl rfl rfl ?_
                    refine wl_pick_f rfl rfl h198 rfl ?_
                    refine WL.nil ?_
                    exact fun a ha => hJ172 ((u157.2 != u30.2)) _ hF hB195 (hS196.sel [3] rfl) a (ha.sub ⟨rfl, rfl, rfl, trivial⟩)
          refine W.region ?_
          refine wl_move rfl rfl ?_
          refine wl_lss rfl rfl rfl ?_
          refine wl_move rfl rfl ?_
          rcases bE (decide (u106.1 < 0)) with h199 | h199
          · replace hF := ifP h199 hF
            refine wl_off rfl rfl rfl h199 ?_
            refine wl_off rfl rfl rfl h199 ?_
            refine wl_off rfl rfl rfl h199 ?_
            refine wl_off rfl rfl rfl h199 ?_
            refine wl_pick_t rfl rfl h199 rfl ?_
            refine wl_move rfl rfl ?_
            refine wl_off rfl rfl rfl rfl ?_
            refine wl_off rfl rfl rfl rfl ?_
            refine wl_off rfl rfl rfl rfl ?_
            refine wl_pick_t rfl rfl rfl rfl ?_
            refine WL.nil ?_
            exact fun a ha => hJ119 (true) _ hF hB110 (hS111.sel [4, 5, 7] rfl) a (ha.sub ⟨rfl, rfl, rfl, rfl, rfl, rfl, trivial⟩)
          · replace hF := ifN h199 hF
            refine wl_on rfl rfl h199 ?_
            refine wl_move rfl rfl ?_
            refine wl_on rfl rfl h199 ?_
            refine wl_move rfl rfl ?_
            refine wl_on rfl rfl h199 ?_
            obtain ⟨u200, hu200, hF⟩ := bindE hF
            refine wl_call rfl Try.call19 (C_laws_eqIntS w107 u59.1 v60 (hS111.own_ro (i := 7) rfl) u30.1 v31 (hS111.own_ro (i := 5) rfl) _ hu200) rfl ?_
            rintro _ w201 ⟨rfl, hb202⟩
            refine ⟨_, rfl, ?_⟩
            have hB203 := hB110.trans (hb202.mono hB110.size)
            have hS204 := hS111.below hb202
            refine wl_on rfl rfl h199 ?_
            refine wl_not rfl rfl ?_
            refine wl_pick_f rfl rfl h199 rfl ?_
            refine wl_move rfl rfl ?_
            rcases bE (!u200) with h206 | h206
            · replace hF := ifP h206 hF
              refine wl_off rfl rfl rfl h206 ?_
              refine wl_off rfl rfl rfl h206 ?_
              refine wl_off rfl rfl rfl h206 ?_
              refine wl_pick_t rfl rfl h206 rfl ?_
              refine WL.nil ?_
              exact fun a ha => hJ119 (true) _ hF hB203 (hS204.sel [4, 5, 7] rfl) a (ha.sub ⟨rfl, rfl, rfl, rfl, rfl, rfl, trivial⟩)
            · replace hF := ifN h206 hF
              refine wl_on rfl rfl h206 ?_
              refine wl_move rfl rfl ?_
              refine wl_on rfl rfl h206 ?_
              refine wl_move rfl rfl ?_
              refine wl_on rfl rfl h206 ?_
              refine wl_neqb Try.underlying4 rfl rfl rfl ?_
              refine wl_pick_f rfl rfl h206 rfl ?_
              refine WL.nil ?_
              exact fun a ha => hJ119 ((u59.2 != u30.2)) _ hF hB203 (hS204.sel [4, 5, 7] rfl) a (ha.sub ⟨rfl, rfl, rfl, rfl, rfl, rfl, trivial⟩)
    refine W.region ?_
    refine wl_move rfl rfl ?_
    refine wl_move rfl rfl ?_
    obtain ⟨u207, hu207, hF⟩ := bindE hF
    refine wl_call rfl Try.call19 (C_laws_eqIntS w62 u59.1 v60 (hS65.own_ro (i := 0) rfl) u30.1 v31 (hS65.own_ro (i := 4) rfl) _ hu207) rfl ?_
    rintro _ w208 ⟨rfl, hb209⟩
    refine ⟨_, rfl, ?_⟩
    have hB210 := hB64.trans (hb209.mono hB64.size)
    have hS211 := hS65.below hb209
    refine wl_not rfl rfl ?_
    refine wl_move rfl rfl ?_
    rcases bE (!u207) with h213 | h213
    · replace hF := ifP h213 hF
      refine wl_off rfl rfl rfl h213 ?_
      refine wl_off rfl rfl rfl h213 ?_
      refine wl_off rfl rfl rfl h213 ?_
      refine wl_pick_t rfl rfl h213 rfl ?_
      refine WL.nil ?_
      exact fun a ha => hJ74 (true) _ hF hB210 (hS211.sel [7, 4, 2, 3, 1, 0] rfl) a (ha.sub ⟨rfl, rfl, rfl, rfl, rfl, rfl, rfl, rfl, trivial⟩)
    · replace hF := ifN h213 hF
      refine wl_on rfl rfl h213 ?_
      refine wl_move rfl rfl ?_
      refine wl_on rfl rfl h213 ?_
      refine wl_move rfl rfl ?_
      refine wl_on rfl rfl h213 ?_
      refine wl_neqb Try.underlying4 rfl rfl rfl ?_
      refine wl_pick_f rfl rfl h213 rfl ?_
      refine WL.nil ?_
      exact fun a ha => hJ74 ((u59.2 != u30.2)) _ hF hB210 (hS211.sel [7, 4, 2, 3, 1, 0] rfl) a (ha.sub ⟨rfl, rfl, rfl, rfl, rfl, rfl, rfl, rfl, trivial⟩)
end Go.Proofs.Ytadklddedeoniaa
