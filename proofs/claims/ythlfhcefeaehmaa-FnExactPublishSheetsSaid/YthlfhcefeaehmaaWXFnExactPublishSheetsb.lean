/-
  THE WALKS of functions of this seat, by program (gen.py, prune.py).
-/
import Derived.Test.YthlfhcefeaehmaaWXFnExactPublishSheetsa
set_option linter.unusedSimpArgs false
set_option linter.unusedVariables false
set_option maxRecDepth 100000
namespace Go.Proofs.Ythlfhcefeaehmaa
open Go Go.RowKit
theorem C_impl_stayApart (w0 : World) (x0 : ((Int × Int) × (Int × Int) × Int)) (x1 : ((Int × Int) × (Int × Int) × Int)) (x2 : Int) (r : Bool) (hF : F_impl_stayApart x0 x1 x2 = some r) :
    Calls Try.prog 117 [(.agg #[(.int .i64 x0.1.1), (.int .i64 x0.1.2), (.int .i64 x0.2.1.1), (.int .i64 x0.2.1.2), (.int .i64 x0.2.2)]), (.agg #[(.int .i64 x1.1.1), (.int .i64 x1.1.2), (.int .i64 x1.2.1.1), (.int .i64 x1.2.1.2), (.int .i64 x1.2.2)]), (.int .i64 x2)].toArray w0 fun e w' => e = .returned (.bool r) ∧ Below w0.heap.size w0 w' := by
  refine calls_mk' Try.func117 rfl Try.ntmps117 rfl rfl fun Q hQ hP => ?_
  have hB : Below w0.heap.size w0 w0 := Below.refl _ _
  have hS : Sep w0.heap.size w0 [] := Sep.nil _ _
  unfold F_impl_stayApart at hF
  refine W.seq fun K1 hK1 => ?_
  refine W.region ?_
  refine wl_box (cs := [(.int .i64 x0.1.1), (.int .i64 x0.1.2), (.int .i64 x0.2.1.1), (.int .i64 x0.2.1.2), (.int .i64 x0.2.2)]) rfl rfl rfl hB hS ?_
  intro b2 w3 hb4 hB5 hS6
  refine wl_box (cs := [(.int .i64 x1.1.1), (.int .i64 x1.1.2), (.int .i64 x1.2.1.1), (.int .i64 x1.2.1.2), (.int .i64 x1.2.2)]) rfl rfl rfl hB5 hS6 ?_
  intro b7 w8 hb9 hB10 hS11
  refine wl_assign rfl rfl ?_
  refine WL.nil ?_
  refine fun a ha => hK1 _ _ ?_ a ha
  refine W.seq fun K12 hK12 => ?_
  refine W.region ?_
  refine wl_load_blk (i := 1) (vs := [(.int .i64 x0.1.1), (.int .i64 x0.1.2), (.int .i64 x0.2.1.1), (.int .i64 x0.2.1.2), (.int .i64 x0.2.2)]) (v := (.agg #[(.int .i64 x0.1.1), (.int .i64 x0.1.2), (.int .i64 x0.2.1.1), (.int .i64 x0.2.1.2), (.int .i64 x0.2.2)])) tf_96 rfl rfl hS11 rfl rfl rfl ?_
  refine wl_load_blk (i := 0) (vs := [(.int .i64 x1.1.1), (.int .i64 x1.1.2), (.int .i64 x1.2.1.1), (.int .i64 x1.2.1.2), (.int .i64 x1.2.2)]) (v := (.agg #[(.int .i64 x1.1.1), (.int .i64 x1.1.2), (.int .i64 x1.2.1.1), (.int .i64 x1.2.1.2), (.int .i64 x1.2.2)])) tf_96 rfl rfl hS11 rfl rfl rfl ?_
  obtain ⟨u13, hu13, hF⟩ := bindE hF
  refine wl_call rfl Try.call76 (C_impl_leastApart w8 x0 x1 _ hu13) rfl ?_
  rintro _ w14 ⟨rfl, hb15⟩
  refine ⟨_, rfl, ?_⟩
  have hB16 := hB10.trans (hb15.mono hB10.size)
  have hS17 := hS11.below hb15
  refine wl_move rfl rfl ?_
  refine wl_extract rfl rfl rfl ?_
  refine wl_extract rfl rfl rfl ?_
  refine wl_assign rfl rfl ?_
  refine wl_assign rfl rfl ?_
  refine WL.nil ?_
  refine fun a ha => hK12 _ _ ?_ a ha
  refine W.seq fun K19 hK19 => ?_
  refine W.region ?_
  refine wl_move rfl rfl ?_
  refine wl_move rfl rfl ?_
  refine wl_move rfl rfl ?_
  refine wl_mul rfl rfl rfl ?_
  refine wl_move rfl rfl ?_
  refine wl_mul rfl rfl rfl ?_
  refine wl_geq rfl rfl rfl ?_
  refine wl_assign rfl rfl ?_
  refine WL.nil ?_
  refine fun a ha => hK19 _ _ ?_ a ha
  refine W.ret ?_
  have hr := Option.some.inj hF
  subst hr
  exact rets (vs := [(.bool (decide ((w64 ((w64 (x2 * x2)) * u13.2)) ≤ u13.1)))]) hQ rfl ⟨rv_tmp rfl, trivial⟩ ⟨rfl, hB16⟩
theorem C_impl_pairsTooClose (w0 : World) (x0 : (List ((Int × Int) × (Int × Int) × Int))) (v0_0 : Value) (h0_0 : rdS ty_96 (· < w0.heap.size) w0 v0_0 x0) (x1 : Int) (r : (List (List Int))) (hF : F_impl_pairsTooClose x0 x1 = some r) :
    Calls Try.prog 71 [v0_0, (.int .i64 x1)].toArray w0 fun e w' => ∃ (q0 : Value) (G0 : List Nat), e = .returned q0 ∧ Below w0.heap.size w0 w' ∧ Sep w0.heap.size w' [R.own ty_23 G0 q0 r] := by
  refine calls_mk' Try.func71 rfl Try.ntmps71 rfl rfl fun Q hQ hP => ?_
  have hB : Below w0.heap.size w0 w0 := Below.refl _ _
  have hS : Sep w0.heap.size w0 [] := Sep.nil _ _
  unfold F_impl_pairsTooClose at hF
  refine W.seq fun K1 hK1 => ?_
  refine W.region ?_
  refine wl_assign rfl rfl ?_
  refine WL.nil ?_
  refine fun a ha => hK1 _ _ ?_ a ha
  refine W.seq fun K2 hK2 => ?_
  refine W.region ?_
  refine wl_lit0 (e := ty_23) Try.underlying39 rfl hB hS ?_
  intro v3 F4 w5 hb6 hB7 hS8
  refine wl_assign rfl rfl ?_
  refine WL.nil ?_
  refine fun a ha => hK2 _ _ ?_ a ha
  refine W.seq fun K9 hK9 => ?_
  refine W.seq fun K10 hK10 => ?_
  refine W.region ?_
  refine wl_move rfl rfl ?_
  refine wl_lenr (e := ty_96) (l := x0) Try.underlying87 rfl rfl h0_0 ?_
  refine wl_move rfl rfl ?_
  refine WL.nil ?_
  refine fun a ha => hK10 _ _ ?_ a ha
  refine W.block ?_
  refine W.loopk (fun m a w11 => ∃ (l14 : (List (List Int))) (y17 : Int) (v15 : Value) (F16 : List Nat), St 41 [(0, v0_0), (1, (.int .i64 x1)), (5, v15), (10, (.int .i64 (List.length x0 : Int))), (11, (.int .i64 y17))] a ∧ Below w0.heap.size w0 w11 ∧ Sep w0.heap.size w11 [R.own ty_23 F16 v15 l14] ∧ F_impl_pairsTooClose_L1 x0 x1 m l14 y17 = some r) FU ?_ ?_
  ·
    exact fun a ha => ⟨[], 0, v3, F4, ha.sub ⟨rfl, rfl, rfl, rfl, rfl, trivial⟩, hB7, (hS8.sel [0] rfl), hF⟩
  ·
    rintro m20 a w11 ⟨l14, y17, v15, F16, ha, hB12, hS13, hF⟩ KL19 hKL19
    refine W.at ?_ ha
    cases m20 with
    | zero => exact noneE hF
    | succ m20 =>
      obtain ⟨nx18, hnx18⟩ : ∃ k, k = F_impl_pairsTooClose_L1 x0 x1 m20 := ⟨_, rfl⟩
      rw [F_impl_pairsTooClose_L1, ← hnx18] at hF
      refine W.seq fun K21 hK21 => ?_
      refine W.region ?_
      refine wl_lss rfl rfl rfl ?_
      refine WL.nil ?_
      refine fun a ha => hK21 _ _ ?_ a ha
      refine W.seq fun K22 hK22 => ?_
      refine W.cond rfl (fun h23 => ?_) (fun h23 => ?_)
      · replace hF := ifP h23 hF
        refine W.skip ?_
        refine fun a ha => hK22 _ _ ?_ a ha
        refine W.seq fun K24 hK24 => ?_
        refine W.block ?_
        refine W.seq fun K25 hK25 => ?_
        refine W.region ?_
        refine wl_move rfl rfl ?_
        refine wl_assign rfl rfl ?_
        refine WL.nil ?_
        refine fun a ha => hK25 _ _ ?_ a ha
        refine W.seq fun K26 hK26 => ?_
        refine W.region ?_
        refine wl_move rfl rfl ?_
        refine wl_add rfl rfl rfl ?_
        refine wl_assign rfl rfl ?_
        refine WL.nil ?_
        refine fun a ha => hK26 _ _ ?_ a ha
        refine W.block ?_
        refine W.loopk (fun m a w27 => ∃ (l30 : (List (List Int))) (y33 : Int) (v31 : Value) (F32 : List Nat), St 41 [(0, v0_0), (1, (.int .i64 x1)), (5, v31), (6, (.int .i64 y17)), (7, (.int .i64 y33)), (10, (.int .i64 (List.length x0 : Int))), (11, (.int .i64 y17))] a ∧ Below w0.heap.size w0 w27 ∧ Sep w0.heap.size w27 [R.own ty_23 F32 v31 l30] ∧ F_impl_pairsTooClose_L2 x0 y17 x1 nx18 m l30 y33 = some r) FU ?_ ?_
        ·
          exact fun a ha => ⟨l14, (w64 (y17 + 1)), v15, F16, ha.sub ⟨rfl, rfl, rfl, rfl, rfl, rfl, rfl, trivial⟩, hB12, (hS13.sel [0] rfl), hF⟩
        ·
          rintro m36 a w27 ⟨l30, y33, v31, F32, ha, hB28, hS29, hF⟩ KL35 hKL35
          refine W.at ?_ ha
          cases m36 with
          | zero => exact noneE hF
          | succ m36 =>
            obtain ⟨nx34, hnx34⟩ : ∃ k, k = F_impl_pairsTooClose_L2 x0 y17 x1 nx18 m36 := ⟨_, rfl⟩
            rw [F_impl_pairsTooClose_L2, ← hnx34] at hF
            refine W.seq fun K37 hK37 => ?_
            refine W.seq fun K38 hK38 => ?_
            refine W.region ?_
            refine wl_move rfl rfl ?_
            refine wl_move rfl rfl ?_
            refine wl_lenr (e := ty_96) (l := x0) Try.underlying87 rfl rfl h0_0 ?_
            refine wl_lss rfl rfl rfl ?_
            refine WL.nil ?_
            refine fun a ha => hK38 _ _ ?_ a ha
            refine W.cond rfl (fun h39 => ?_) (fun h39 => ?_)
            · replace hF := ifP h39 hF
              refine W.skip ?_
              refine fun a ha => hK37 _ _ ?_ a ha
              refine W.seq fun K40 hK40 => ?_
              obtain ⟨k47, hk47, hF⟩ := jE1 hF
              have hJ48 : ∀ (l44 : (List (List Int))) (v45 : Value) (F46 : List Nat) (w41 : World) (_ : k47 l44 = some r) (_ : Below w0.heap.size w0 w41) (_ : Sep w0.heap.size w41 [R.own ty_23 F46 v45 l44]), ∀ a, St 41 [(0, v0_0), (1, (.int .i64 x1)), (5, v45), (6, (.int .i64 y17)), (7, (.int .i64 y33)), (10, (.int .i64 (List.length x0 : Int))), (11, (.int .i64 y17))] a → K40 a w41 := by
                intro l44 v45 F46 w41 hF hB42 hS43
                subst hk47
                refine fun a ha => hK40 _ _ ?_ a ha
                refine W.region ?_
                refine wl_move rfl rfl ?_
                refine wl_add rfl rfl rfl ?_
                refine wl_assign rfl rfl ?_
                refine WL.nil ?_
                rw [hnx34] at hF
                exact fun a ha => hKL35 a _ m36 (Nat.lt_succ_self m36) ⟨l44, (w64 (y33 + 1)), v45, F46, ha.sub ⟨rfl, rfl, rfl, rfl, rfl, rfl, rfl, trivial⟩, hB42, (hS43.sel [0] rfl), hF⟩
              refine W.block ?_
              refine W.seq fun K49 hK49 => ?_
              refine W.regionH mixed_ [] hB28 hS29 ?_
              intro w50 hb51 hB52 hS53
              have hSW54 := KeepX.refl w50 []
              refine WH.takex (i := 0) rfl (by kernel_rfl) (by kernel_rfl) (by kernel_rfl) hP hSW54 ?_
              refine pr_move rfl rfl ?_
              refine WH.takex (i := 1) rfl (by kernel_rfl) (by kernel_rfl) (by kernel_rfl) hP hSW54 ?_
              refine pr_move rfl rfl ?_
              obtain ⟨u55, hu55, hF⟩ := bindE hF
              refine WH.takex (i := 2) rfl (by kernel_rfl) (by kernel_rfl) (by kernel_rfl) hP hSW54 ?_
              refine pr_index (e := ty_96) Try.underlying87 rfl rfl rfl h0_0 hu55 ?_
              rintro p56 _ rfl hp57
              refine WH.takex (i := 3) rfl (by kernel_rfl) (by kernel_rfl) (by kernel_rfl) hP hSW54 ?_
              refine pr_load_p (vs := [(.int .i64 u55.1.1), (.int .i64 u55.1.2), (.int .i64 u55.2.1.1), (.int .i64 u55.2.1.2), (.int .i64 u55.2.2)]) (v := (.agg #[(.int .i64 u55.1.1), (.int .i64 u55.1.2), (.int .i64 u55.2.1.1), (.int .i64 u55.2.1.2), (.int .i64 u55.2.2)])) tf_96 rfl rfl (hp57.kx hB52 (by simp)) rfl rfl ?_
              refine WH.takex (i := 4) rfl (by kernel_rfl) (by kernel_rfl) (by kernel_rfl) hP hSW54 ?_
              refine pr_move rfl rfl ?_
              refine WH.takex (i := 5) rfl (by kernel_rfl) (by kernel_rfl) (by kernel_rfl) hP hSW54 ?_
              refine pr_move rfl rfl ?_
              obtain ⟨u58, hu58, hF⟩ := bindE hF
              refine WH.takex (i := 6) rfl (by kernel_rfl) (by kernel_rfl) (by kernel_rfl) hP hSW54 ?_
              refine pr_index (e := ty_96) Try.underlying87 rfl rfl rfl h0_0 hu58 ?_
              rintro p59 _ rfl hp60
              refine WH.takex (i := 7) rfl (by kernel_rfl) (by kernel_rfl) (by kernel_rfl) hP hSW54 ?_
              refine pr_load_p (vs := [(.int .i64 u58.1.1), (.int .i64 u58.1.2), (.int .i64 u58.2.1.1), (.int .i64 u58.2.1.2), (.int .i64 u58.2.2)]) (v := (.agg #[(.int .i64 u58.1.1), (.int .i64 u58.1.2), (.int .i64 u58.2.1.1), (.int .i64 u58.2.1.2), (.int .i64 u58.2.2)])) tf_96 rfl rfl (hp60.kx hB52 (by simp)) rfl rfl ?_
              refine WH.takex (i := 8) rfl (by kernel_rfl) (by kernel_rfl) (by kernel_rfl) hP hSW54 ?_
              refine pr_move rfl rfl ?_
              refine WH.one (i := 9) (by kernel_rfl) rfl ?_
              obtain ⟨u61, hu61, hF⟩ := bindE hF
              refine wl_call rfl Try.call117 (C_impl_stayApart w50 u55 u58 x1 _ hu61) rfl ?_
              rintro _ w62 ⟨rfl, hb63⟩
              refine ⟨_, rfl, ?_⟩
              have hB64 := hB52.trans (hb63.mono hB52.size)
              have hS65 := hS53.below hb63
              have hSW67 := hSW54.ext hb63
              refine WL.nil (WH.ret hSW67 ?_)
              refine WH.takex (i := 10) rfl (by kernel_rfl) (by kernel_rfl) (by kernel_rfl) hP hSW67 ?_
              refine pr_not rfl rfl ?_
              refine WH.done (by kernel_rfl) ?_
              refine fun a ha => hK49 _ _ ?_ a ha
              refine W.cond rfl (fun h68 => ?_) (fun h68 => ?_)
              · replace hF := ifP h68 hF
                refine W.region ?_
                refine wl_move rfl rfl ?_
                refine wl_move rfl rfl ?_
                refine wl_move rfl rfl ?_
                refine wl_lit (vs := [(.int .i64 y17), (.int .i64 y33)]) (l := [y17, y33]) fl_3 Try.underlying23 rfl rfl rfl rfl rfl rfl hB64 hS65 ?_
                intro v69 F70 w71 hb72 hB73 hS74
                have hq75 := hS74.sel [0, 1] rfl
                have hq76 := hq75.head (r' := R.cel ty_23 F70 [v69] [y17, y33]) (rfl) fun _ h0 => ⟨_, rfl, h0⟩
                refine wl_lit1 (e := ty_23) (vs := [v69]) Try.underlying39 rfl rfl (cells_one (hS74.own_ro (i := 0) rfl).one) rfl hB73 hq76 ?_
                intro v77 F78 w79 hb80 hf81 hB82 hS83
                obtain ⟨u84, hu84, hF⟩ := bindE hF
                refine wl_appendn (e := ty_23) Try.underlying39 rfl rfl rfl hB82 (hS83.sel [1, 0] rfl) hu84 ?_
                intro v85 F86 w87 hk88 hB89 hS90
                refine wl_assign rfl rfl ?_
                refine WL.nil ?_
                exact fun a ha => hJ48 (u84) (v85) (F86) _ hF hB89 (hS90.sel [0] rfl) a (ha.sub ⟨rfl, rfl, rfl, rfl, rfl, rfl, rfl, trivial⟩)
              · replace hF := ifN h68 hF
                refine W.skip ?_
                exact fun a ha => hJ48 (l30) (v31) (F32) _ hF hB64 (hS65.sel [0] rfl) a (ha.sub ⟨rfl, rfl, rfl, rfl, rfl, rfl, rfl, trivial⟩)
            · replace hF := ifN h39 hF
              refine W.exit ?_
              refine fun a ha => hK24 _ _ ?_ a ha
              refine W.region ?_
              refine wl_add rfl rfl rfl ?_
              refine wl_move rfl rfl ?_
              refine WL.nil ?_
              rw [hnx18] at hF
              exact fun a ha => hKL19 a _ m20 (Nat.lt_succ_self m20) ⟨l30, (w64 (y17 + 1)), v31, F32, ha.sub ⟨rfl, rfl, rfl, rfl, rfl, trivial⟩, hB28, (hS29.sel [0] rfl), hF⟩
      · replace hF := ifN h23 hF
        refine W.exit ?_
        refine fun a ha => hK9 _ _ ?_ a ha
        refine W.seq fun K91 hK91 => ?_
        refine W.region ?_
        refine wl_move rfl rfl ?_
        refine wl_assign rfl rfl ?_
        refine WL.nil ?_
        refine fun a ha => hK91 _ _ ?_ a ha
        refine W.ret ?_
        have hr := Option.some.inj hF
        subst hr
        exact rets (vs := [v15]) hQ rfl ⟨rv_tmp rfl, trivial⟩ ⟨v15, F16, rfl, hB12, hS13.sel [0] rfl⟩
theorem C_laws_eqSpot (w0 : World) (x0 : (Int × Int)) (x1 : (Int × Int)) (r : Bool) (hF : F_laws_eqSpot x0 x1 = some r) :
    Calls Try.prog 39 [(.agg #[(.int .i64 x0.1), (.int .i64 x0.2)]), (.agg #[(.int .i64 x1.1), (.int .i64 x1.2)])].toArray w0 fun e w' => e = .returned (.bool r) ∧ Below w0.heap.size w0 w' := by
  refine calls_mk' Try.func39 rfl Try.ntmps39 rfl rfl fun Q hQ hP => ?_
  have hB : Below w0.heap.size w0 w0 := Below.refl _ _
  have hS : Sep w0.heap.size w0 [] := Sep.nil _ _
  unfold F_laws_eqSpot at hF
  refine W.seq fun K1 hK1 => ?_
  refine W.region ?_
  refine wl_box (cs := [(.int .i64 x0.1), (.int .i64 x0.2)]) rfl rfl rfl hB hS ?_
  intro b2 w3 hb4 hB5 hS6
  refine wl_box (cs := [(.int .i64 x1.1), (.int .i64 x1.2)]) rfl rfl rfl hB5 hS6 ?_
  intro b7 w8 hb9 hB10 hS11
  refine wl_assign rfl rfl ?_
  refine WL.nil ?_
  refine fun a ha => hK1 _ _ ?_ a ha
  refine W.seq fun K12 hK12 => ?_
  refine W.seq fun K13 hK13 => ?_
  refine W.region ?_
  refine wl_field (o := 0) (off' := 0) ff_54_0 rfl rfl rfl ?_
  refine wl_load_blk (i := 1) (vs := [(.int .i64 x0.1)]) (v := (.int .i64 x0.1)) tf_3 rfl rfl hS11 rfl rfl rfl ?_
  refine wl_field (o := 0) (off' := 0) ff_54_0 rfl rfl rfl ?_
  refine wl_load_blk (i := 0) (vs := [(.int .i64 x1.1)]) (v := (.int .i64 x1.1)) tf_3 rfl rfl hS11 rfl rfl rfl ?_
  refine wl_neq rfl rfl rfl ?_
  refine WL.nil ?_
  refine fun a ha => hK13 _ _ ?_ a ha
  refine W.cond rfl (fun h14 => ?_) (fun h14 => ?_)
  · replace hF := ifP h14 hF
    refine W.seq fun K15 hK15 => ?_
    refine W.region ?_
    refine wl_assign rfl rfl ?_
    refine WL.nil ?_
    refine fun a ha => hK15 _ _ ?_ a ha
    refine W.ret ?_
    have hr := Option.some.inj hF
    subst hr
    exact rets (vs := [(.bool false)]) hQ rfl ⟨rv_tmp rfl, trivial⟩ ⟨rfl, hB10⟩
  · replace hF := ifN h14 hF
    refine W.skip ?_
    refine fun a ha => hK12 _ _ ?_ a ha
    refine W.seq fun K16 hK16 => ?_
    refine W.seq fun K17 hK17 => ?_
    refine W.region ?_
    refine wl_field (o := 1) (off' := 1) ff_54_1 rfl rfl rfl ?_
    refine wl_load_blk (i := 1) (vs := [(.int .i64 x0.2)]) (v := (.int .i64 x0.2)) tf_3 rfl rfl hS11 rfl rfl rfl ?_
    refine wl_field (o := 1) (off' := 1) ff_54_1 rfl rfl rfl ?_
    refine wl_load_blk (i := 0) (vs := [(.int .i64 x1.2)]) (v := (.int .i64 x1.2)) tf_3 rfl rfl hS11 rfl rfl rfl ?_
    refine wl_neq rfl rfl rfl ?_
    refine WL.nil ?_
    refine fun a ha => hK17 _ _ ?_ a ha
    refine W.cond rfl (fun h18 => ?_) (fun h18 => ?_)
    · replace hF := ifP h18 hF
      refine W.seq fun K19 hK19 => ?_
      refine W.region ?_
      refine wl_assign rfl rfl ?_
      refine WL.nil ?_
      refine fun a ha => hK19 _ _ ?_ a ha
      refine W.ret ?_
      have hr := Option.some.inj hF
      subst hr
      exact rets (vs := [(.bool false)]) hQ rfl ⟨rv_tmp rfl, trivial⟩ ⟨rfl, hB10⟩
    · replace hF := ifN h18 hF
      refine W.skip ?_
      refine fun a ha => hK16 _ _ ?_ a ha
      refine W.seq fun K20 hK20 => ?_
      refine W.region ?_
      refine wl_assign rfl rfl ?_
      refine WL.nil ?_
      refine fun a ha => hK20 _ _ ?_ a ha
      refine W.ret ?_
      have hr := Option.some.inj hF
      subst hr
      exact rets (vs := [(.bool true)]) hQ rfl ⟨rv_tmp rfl, trivial⟩ ⟨rfl, hB10⟩
theorem C_laws_eqSpotS (w0 : World) (x0 : (List (Int × Int))) (v0_0 : Value) (h0_0 : rdS ty_54 (· < w0.heap.size) w0 v0_0 x0) (x1 : (List (Int × Int))) (v1_0 : Value) (h1_0 : rdS ty_54 (· < w0.heap.size) w0 v1_0 x1) (r : Bool) (hF : F_laws_eqSpotS x0 x1 = some r) :
    Calls Try.prog 51 [v0_0, v1_0].toArray w0 fun e w' => e = .returned (.bool r) ∧ Below w0.heap.size w0 w' := by
  refine calls_mk' Try.func51 rfl Try.ntmps51 rfl rfl fun Q hQ hP => ?_
  have hB : Below w0.heap.size w0 w0 := Below.refl _ _
  have hS : Sep w0.heap.size w0 [] := Sep.nil _ _
  unfold F_laws_eqSpotS at hF
  refine W.seq fun K1 hK1 => ?_
  refine W.region ?_
  refine wl_assign rfl rfl ?_
  refine WL.nil ?_
  refine fun a ha => hK1 _ _ ?_ a ha
  refine W.seq fun K2 hK2 => ?_
  refine W.seq fun K3 hK3 => ?_
  refine W.region ?_
  refine wl_move rfl rfl ?_
  refine wl_lenr (e := ty_54) (l := x0) Try.underlying70 rfl rfl h0_0 ?_
  refine wl_move rfl rfl ?_
  refine wl_lenr (e := ty_54) (l := x1) Try.underlying70 rfl rfl h1_0 ?_
  refine wl_neq rfl rfl rfl ?_
  refine WL.nil ?_
  refine fun a ha => hK3 _ _ ?_ a ha
  refine W.cond rfl (fun h4 => ?_) (fun h4 => ?_)
  · replace hF := ifP h4 hF
    refine W.seq fun K5 hK5 => ?_
    refine W.region ?_
    refine wl_assign rfl rfl ?_
    refine WL.nil ?_
    refine fun a ha => hK5 _ _ ?_ a ha
    refine W.ret ?_
    have hr := Option.some.inj hF
    subst hr
    exact rets (vs := [(.bool false)]) hQ rfl ⟨rv_tmp rfl, trivial⟩ ⟨rfl, hB⟩
  · replace hF := ifN h4 hF
    refine W.skip ?_
    refine fun a ha => hK2 _ _ ?_ a ha
    refine W.seq fun K6 hK6 => ?_
    refine W.seq fun K7 hK7 => ?_
    refine W.region ?_
    refine wl_assign rfl rfl ?_
    refine WL.nil ?_
    refine fun a ha => hK7 _ _ ?_ a ha
    refine W.block ?_
    refine W.loopk (fun m a w8 => ∃ (y11 : Int), St 27 [(0, v0_0), (1, v1_0), (5, (.int .i64 y11))] a ∧ Below w0.heap.size w0 w8 ∧ Sep w0.heap.size w8 [] ∧ F_laws_eqSpotS_L1 x0 x1 m y11 = some r) FU ?_ ?_
    ·
      exact fun a ha => ⟨0, ha.sub ⟨rfl, rfl, rfl, trivial⟩, hB, (hS.sel [] rfl), hF⟩
    ·
      rintro m14 a w8 ⟨y11, ha, hB9, hS10, hF⟩ KL13 hKL13
      refine W.at ?_ ha
      cases m14 with
      | zero => exact noneE hF
      | succ m14 =>
        obtain ⟨nx12, hnx12⟩ : ∃ k, k = F_laws_eqSpotS_L1 x0 x1 m14 := ⟨_, rfl⟩
        rw [F_laws_eqSpotS_L1, ← hnx12] at hF
        refine W.seq fun K15 hK15 => ?_
        refine W.seq fun K16 hK16 => ?_
        refine W.region ?_
        refine wl_move rfl rfl ?_
        refine wl_move rfl rfl ?_
        refine wl_lenr (e := ty_54) (l := x0) Try.underlying70 rfl rfl h0_0 ?_
        refine wl_lss rfl rfl rfl ?_
        refine WL.nil ?_
        refine fun a ha => hK16 _ _ ?_ a ha
        refine W.cond rfl (fun h17 => ?_) (fun h17 => ?_)
        · replace hF := ifP h17 hF
          refine W.skip ?_
          refine fun a ha => hK15 _ _ ?_ a ha
          refine W.seq fun K18 hK18 => ?_
          refine W.block ?_
          refine W.seq fun K19 hK19 => ?_
          refine W.regionH mixed_ [] hB9 hS10 ?_
          intro w20 hb21 hB22 hS23
          have hSW24 := KeepX.refl w20 []
          refine WH.takex (i := 0) rfl (by kernel_rfl) (by kernel_rfl) (by kernel_rfl) hP hSW24 ?_
          refine pr_move rfl rfl ?_
          refine WH.takex (i := 1) rfl (by kernel_rfl) (by kernel_rfl) (by kernel_rfl) hP hSW24 ?_
          refine pr_move rfl rfl ?_
          obtain ⟨u25, hu25, hF⟩ := bindE hF
          refine WH.takex (i := 2) rfl (by kernel_rfl) (by kernel_rfl) (by kernel_rfl) hP hSW24 ?_
          refine pr_index (e := ty_54) Try.underlying70 rfl rfl rfl h0_0 hu25 ?_
          rintro p26 _ rfl hp27
          refine WH.takex (i := 3) rfl (by kernel_rfl) (by kernel_rfl) (by kernel_rfl) hP hSW24 ?_
          refine pr_load_p (vs := [(.int .i64 u25.1), (.int .i64 u25.2)]) (v := (.agg #[(.int .i64 u25.1), (.int .i64 u25.2)])) tf_54 rfl rfl (hp27.kx hB22 (by simp)) rfl rfl ?_
          refine WH.takex (i := 4) rfl (by kernel_rfl) (by kernel_rfl) (by kernel_rfl) hP hSW24 ?_
          refine pr_move rfl rfl ?_
          refine WH.takex (i := 5) rfl (by kernel_rfl) (by kernel_rfl) (by kernel_rfl) hP hSW24 ?_
          refine pr_move rfl rfl ?_
          obtain ⟨u28, hu28, hF⟩ := bindE hF
          refine WH.takex (i := 6) rfl (by kernel_rfl) (by kernel_rfl) (by kernel_rfl) hP hSW24 ?_
          refine pr_index (e := ty_54) Try.underlying70 rfl rfl rfl h1_0 hu28 ?_
          rintro p29 _ rfl hp30
          refine WH.takex (i := 7) rfl (by kernel_rfl) (by kernel_rfl) (by kernel_rfl) hP hSW24 ?_
          refine pr_load_p (vs := [(.int .i64 u28.1), (.int .i64 u28.2)]) (v := (.agg #[(.int .i64 u28.1), (.int .i64 u28.2)])) tf_54 rfl rfl (hp30.kx hB22 (by simp)) rfl rfl ?_
          refine WH.one (i := 8) (by kernel_rfl) rfl ?_
          obtain ⟨u31, hu31, hF⟩ := bindE hF
          refine wl_call rfl Try.call39 (C_laws_eqSpot w20 u25 u28 _ hu31) rfl ?_
          rintro _ w32 ⟨rfl, hb33⟩
          refine ⟨_, rfl, ?_⟩
          have hB34 := hB22.trans (hb33.mono hB22.size)
          have hS35 := hS23.below hb33
          have hSW37 := hSW24.ext hb33
          refine WL.nil (WH.ret hSW37 ?_)
          refine WH.takex (i := 9) rfl (by kernel_rfl) (by kernel_rfl) (by kernel_rfl) hP hSW37 ?_
          refine pr_not rfl rfl ?_
          refine WH.done (by kernel_rfl) ?_
          refine fun a ha => hK19 _ _ ?_ a ha
          refine W.cond rfl (fun h38 => ?_) (fun h38 => ?_)
          · replace hF := ifP h38 hF
            refine W.seq fun K39 hK39 => ?_
            refine W.region ?_
            refine wl_assign rfl rfl ?_
            refine WL.nil ?_
            refine fun a ha => hK39 _ _ ?_ a ha
            refine W.ret ?_
            have hr := Option.some.inj hF
            subst hr
            exact rets (vs := [(.bool false)]) hQ rfl ⟨rv_tmp rfl, trivial⟩ ⟨rfl, hB34⟩
          · replace hF := ifN h38 hF
            refine W.skip ?_
            refine fun a ha => hK18 _ _ ?_ a ha
            refine W.region ?_
            refine wl_move rfl rfl ?_
            refine wl_add rfl rfl rfl ?_
            refine wl_assign rfl rfl ?_
            refine WL.nil ?_
            rw [hnx12] at hF
            exact fun a ha => hKL13 a _ m14 (Nat.lt_succ_self m14) ⟨(w64 (y11 + 1)), ha.sub ⟨rfl, rfl, rfl, trivial⟩, hB34, (hS35.sel [] rfl), hF⟩
        · replace hF := ifN h17 hF
          refine W.exit ?_
          refine fun a ha => hK6 _ _ ?_ a ha
          refine W.seq fun K40 hK40 => ?_
          refine W.region ?_
          refine wl_assign rfl rfl ?_
          refine WL.nil ?_
          refine fun a ha => hK40 _ _ ?_ a ha
          refine W.ret ?_
          have hr := Option.some.inj hF
          subst hr
          exact rets (vs := [(.bool true)]) hQ rfl ⟨rv_tmp rfl, trivial⟩ ⟨rfl, hB9⟩
theorem C_laws_eqSpotSS (w0 : World) (x0 : (List (List (Int × Int)))) (v0_0 : Value) (h0_0 : rdS ty_70 (· < w0.heap.size) w0 v0_0 x0) (x1 : (List (List (Int × Int)))) (v1_0 : Value) (h1_0 : rdS ty_70 (· < w0.heap.size) w0 v1_0 x1) (r : Bool) (hF : F_laws_eqSpotSS x0 x1 = some r) :
    Calls Try.prog 69 [v0_0, v1_0].toArray w0 fun e w' => e = .returned (.bool r) ∧ Below w0.heap.size w0 w' := by
  refine calls_mk' Try.func69 rfl Try.ntmps69 rfl rfl fun Q hQ hP => ?_
  have hB : Below w0.heap.size w0 w0 := Below.refl _ _
  have hS : Sep w0.heap.size w0 [] := Sep.nil _ _
  unfold F_laws_eqSpotSS at hF
  refine W.seq fun K1 hK1 => ?_
  refine W.region ?_
  refine wl_assign rfl rfl ?_
  refine WL.nil ?_
  refine fun a ha => hK1 _ _ ?_ a ha
  refine W.seq fun K2 hK2 => ?_
  refine W.seq fun K3 hK3 => ?_
  refine W.region ?_
  refine wl_move rfl rfl ?_
  refine wl_lenr (e := ty_70) (l := x0) Try.underlying29 rfl rfl h0_0 ?_
  refine wl_move rfl rfl ?_
  refine wl_lenr (e := ty_70) (l := x1) Try.underlying29 rfl rfl h1_0 ?_
  refine wl_neq rfl rfl rfl ?_
  refine WL.nil ?_
  refine fun a ha => hK3 _ _ ?_ a ha
  refine W.cond rfl (fun h4 => ?_) (fun h4 => ?_)
  · replace hF := ifP h4 hF
    refine W.seq fun K5 hK5 => ?_
    refine W.region ?_
    refine wl_assign rfl rfl ?_
    refine WL.nil ?_
    refine fun a ha => hK5 _ _ ?_ a ha
    refine W.ret ?_
    have hr := Option.some.inj hF
    subst hr
    exact rets (vs := [(.bool false)]) hQ rfl ⟨rv_tmp rfl, trivial⟩ ⟨rfl, hB⟩
  · replace hF := ifN h4 hF
    refine W.skip ?_
    refine fun a ha => hK2 _ _ ?_ a ha
    refine W.seq fun K6 hK6 => ?_
    refine W.seq fun K7 hK7 => ?_
    refine W.region ?_
    refine wl_assign rfl rfl ?_
    refine WL.nil ?_
    refine fun a ha => hK7 _ _ ?_ a ha
    refine W.block ?_
    refine W.loopk (fun m a w8 => ∃ (y11 : Int), St 27 [(0, v0_0), (1, v1_0), (5, (.int .i64 y11))] a ∧ Below w0.heap.size w0 w8 ∧ Sep w0.heap.size w8 [] ∧ F_laws_eqSpotSS_L1 x0 x1 m y11 = some r) FU ?_ ?_
    ·
      exact fun a ha => ⟨0, ha.sub ⟨rfl, rfl, rfl, trivial⟩, hB, (hS.sel [] rfl), hF⟩
    ·
      rintro m14 a w8 ⟨y11, ha, hB9, hS10, hF⟩ KL13 hKL13
      refine W.at ?_ ha
      cases m14 with
      | zero => exact noneE hF
      | succ m14 =>
        obtain ⟨nx12, hnx12⟩ : ∃ k, k = F_laws_eqSpotSS_L1 x0 x1 m14 := ⟨_, rfl⟩
        rw [F_laws_eqSpotSS_L1, ← hnx12] at hF
        refine W.seq fun K15 hK15 => ?_
        refine W.seq fun K16 hK16 => ?_
        refine W.region ?_
        refine wl_move rfl rfl ?_
        refine wl_move rfl rfl ?_
        refine wl_lenr (e := ty_70) (l := x0) Try.underlying29 rfl rfl h0_0 ?_
        refine wl_lss rfl rfl rfl ?_
        refine WL.nil ?_
        refine fun a ha => hK16 _ _ ?_ a ha
        refine W.cond rfl (fun h17 => ?_) (fun h17 => ?_)
        · replace hF := ifP h17 hF
          refine W.skip ?_
          refine fun a ha => hK15 _ _ ?_ a ha
          refine W.seq fun K18 hK18 => ?_
          refine W.block ?_
          refine W.seq fun K19 hK19 => ?_
          refine W.regionH mixed_ [] hB9 hS10 ?_
          intro w20 hb21 hB22 hS23
          have hSW24 := KeepX.refl w20 []
          refine WH.takex (i := 0) rfl (by kernel_rfl) (by kernel_rfl) (by kernel_rfl) hP hSW24 ?_
          refine pr_move rfl rfl ?_
          refine WH.takex (i := 1) rfl (by kernel_rfl) (by kernel_rfl) (by kernel_rfl) hP hSW24 ?_
          refine pr_move rfl rfl ?_
          obtain ⟨u25, hu25, hF⟩ := bindE hF
          refine WH.takex (i := 2) rfl (by kernel_rfl) (by kernel_rfl) (by kernel_rfl) hP hSW24 ?_
          refine pr_index (e := ty_70) Try.underlying29 rfl rfl rfl h0_0 hu25 ?_
          rintro p26 _ ⟨v28, rfl, hv29⟩ hp27
          refine WH.takex (i := 3) rfl (by kernel_rfl) (by kernel_rfl) (by kernel_rfl) hP hSW24 ?_
          refine pr_load_p (vs := [v28]) (v := v28) tf_70 rfl rfl (hp27.kx hB22 (by simp)) rfl rfl ?_
          refine WH.takex (i := 4) rfl (by kernel_rfl) (by kernel_rfl) (by kernel_rfl) hP hSW24 ?_
          refine pr_move rfl rfl ?_
          refine WH.takex (i := 5) rfl (by kernel_rfl) (by kernel_rfl) (by kernel_rfl) hP hSW24 ?_
          refine pr_move rfl rfl ?_
          obtain ⟨u30, hu30, hF⟩ := bindE hF
          refine WH.takex (i := 6) rfl (by kernel_rfl) (by kernel_rfl) (by kernel_rfl) hP hSW24 ?_
          refine pr_index (e := ty_70) Try.underlying29 rfl rfl rfl h1_0 hu30 ?_
          rintro p31 _ ⟨v33, rfl, hv34⟩ hp32
          refine WH.takex (i := 7) rfl (by kernel_rfl) (by kernel_rfl) (by kernel_rfl) hP hSW24 ?_
          refine pr_load_p (vs := [v33]) (v := v33) tf_70 rfl rfl (hp32.kx hB22 (by simp)) rfl rfl ?_
          refine WH.one (i := 8) (by kernel_rfl) rfl ?_
          obtain ⟨u35, hu35, hF⟩ := bindE hF
          refine wl_call rfl Try.call51 (C_laws_eqSpotS w20 u25 v28 (hv29.ro hB22) u30 v33 (hv34.ro hB22) _ hu35) rfl ?_
          rintro _ w36 ⟨rfl, hb37⟩
          refine ⟨_, rfl, ?_⟩
          have hB38 := hB22.trans (hb37.mono hB22.size)
          have hS39 := hS23.below hb37
          have hSW41 := hSW24.ext hb37
          refine WL.nil (WH.ret hSW41 ?_)
          refine WH.takex (i := 9) rfl (by kernel_rfl) (by kernel_rfl) (by kernel_rfl) hP hSW41 ?_
          refine pr_not rfl rfl ?_
          refine WH.done (by kernel_rfl) ?_
          refine fun a ha => hK19 _ _ ?_ a ha
          refine W.cond rfl (fun h42 => ?_) (fun h42 => ?_)
          · replace hF := ifP h42 hF
            refine W.seq fun K43 hK43 => ?_
            refine W.region ?_
            refine wl_assign rfl rfl ?_
            refine WL.nil ?_
            refine fun a ha => hK43 _ _ ?_ a ha
            refine W.ret ?_
            have hr := Option.some.inj hF
            subst hr
            exact rets (vs := [(.bool false)]) hQ rfl ⟨rv_tmp rfl, trivial⟩ ⟨rfl, hB38⟩
          · replace hF := ifN h42 hF
            refine W.skip ?_
            refine fun a ha => hK18 _ _ ?_ a ha
            refine W.region ?_
            refine wl_move rfl rfl ?_
            refine wl_add rfl rfl rfl ?_
            refine wl_assign rfl rfl ?_
            refine WL.nil ?_
            rw [hnx12] at hF
            exact fun a ha => hKL13 a _ m14 (Nat.lt_succ_self m14) ⟨(w64 (y11 + 1)), ha.sub ⟨rfl, rfl, rfl, trivial⟩, hB38, (hS39.sel [] rfl), hF⟩
        · replace hF := ifN h17 hF
          refine W.exit ?_
          refine fun a ha => hK6 _ _ ?_ a ha
          refine W.seq fun K44 hK44 => ?_
          refine W.region ?_
          refine wl_assign rfl rfl ?_
          refine WL.nil ?_
          refine fun a ha => hK44 _ _ ?_ a ha
          refine W.ret ?_
          have hr := Option.some.inj hF
          subst hr
          exact rets (vs := [(.bool true)]) hQ rfl ⟨rv_tmp rfl, trivial⟩ ⟨rfl, hB9⟩
theorem C_laws_eqIntS (w0 : World) (x0 : (List Int)) (v0_0 : Value) (h0_0 : rdS ty_3 (· < w0.heap.size) w0 v0_0 x0) (x1 : (List Int)) (v1_0 : Value) (h1_0 : rdS ty_3 (· < w0.heap.size) w0 v1_0 x1) (r : Bool) (hF : F_laws_eqIntS x0 x1 = some r) :
    Calls Try.prog 32 [v0_0, v1_0].toArray w0 fun e w' => e = .returned (.bool r) ∧ Below w0.heap.size w0 w' := by
  refine calls_mk' Try.func32 rfl Try.ntmps32 rfl rfl fun Q hQ hP => ?_
  have hB : Below w0.heap.size w0 w0 := Below.refl _ _
  have hS : Sep w0.heap.size w0 [] := Sep.nil _ _
  unfold F_laws_eqIntS at hF
  refine W.seq fun K1 hK1 => ?_
  refine W.region ?_
  refine wl_assign rfl rfl ?_
  refine WL.nil ?_
  refine fun a ha => hK1 _ _ ?_ a ha
  refine W.seq fun K2 hK2 => ?_
  refine W.seq fun K3 hK3 => ?_
  refine W.region ?_
  refine wl_move rfl rfl ?_
  refine wl_lenr (e := ty_3) (l := x0) Try.underlying23 rfl rfl h0_0 ?_
  refine wl_move rfl rfl ?_
  refine wl_lenr (e := ty_3) (l := x1) Try.underlying23 rfl rfl h1_0 ?_
  refine wl_neq rfl rfl rfl ?_
  refine WL.nil ?_
  refine fun a ha => hK3 _ _ ?_ a ha
  refine W.cond rfl (fun h4 => ?_) (fun h4 => ?_)
  · replace hF := ifP h4 hF
    refine W.seq fun K5 hK5 => ?_
    refine W.region ?_
    refine wl_assign rfl rfl ?_
    refine WL.nil ?_
    refine fun a ha => hK5 _ _ ?_ a ha
    refine W.ret ?_
    have hr := Option.some.inj hF
    subst hr
    exact rets (vs := [(.bool false)]) hQ rfl ⟨rv_tmp rfl, trivial⟩ ⟨rfl, hB⟩
  · replace hF := ifN h4 hF
    refine W.skip ?_
    refine fun a ha => hK2 _ _ ?_ a ha
    refine W.seq fun K6 hK6 => ?_
    refine W.seq fun K7 hK7 => ?_
    refine W.region ?_
    refine wl_assign rfl rfl ?_
    refine WL.nil ?_
    refine fun a ha => hK7 _ _ ?_ a ha
    refine W.block ?_
    refine W.loopk (fun m a w8 => ∃ (y11 : Int), St 26 [(0, v0_0), (1, v1_0), (5, (.int .i64 y11))] a ∧ Below w0.heap.size w0 w8 ∧ Sep w0.heap.size w8 [] ∧ F_laws_eqIntS_L1 x0 x1 m y11 = some r) FU ?_ ?_
    ·
      exact fun a ha => ⟨0, ha.sub ⟨rfl, rfl, rfl, trivial⟩, hB, (hS.sel [] rfl), hF⟩
    ·
      rintro m14 a w8 ⟨y11, ha, hB9, hS10, hF⟩ KL13 hKL13
      refine W.at ?_ ha
      cases m14 with
      | zero => exact noneE hF
      | succ m14 =>
        obtain ⟨nx12, hnx12⟩ : ∃ k, k = F_laws_eqIntS_L1 x0 x1 m14 := ⟨_, rfl⟩
        rw [F_laws_eqIntS_L1, ← hnx12] at hF
        refine W.seq fun K15 hK15 => ?_
        refine W.seq fun K16 hK16 => ?_
        refine W.region ?_
        refine wl_move rfl rfl ?_
        refine wl_move rfl rfl ?_
        refine wl_lenr (e := ty_3) (l := x0) Try.underlying23 rfl rfl h0_0 ?_
        refine wl_lss rfl rfl rfl ?_
        refine WL.nil ?_
        refine fun a ha => hK16 _ _ ?_ a ha
        refine W.cond rfl (fun h17 => ?_) (fun h17 => ?_)
        · replace hF := ifP h17 hF
          refine W.skip ?_
          refine fun a ha => hK15 _ _ ?_ a ha
          refine W.seq fun K18 hK18 => ?_
          refine W.block ?_
          refine W.seq fun K19 hK19 => ?_
          refine W.regionH mixed_ [] hB9 hS10 ?_
          intro w20 hb21 hB22 hS23
          have hSW24 := KeepX.refl w20 []
          refine WH.takex (i := 0) rfl (by kernel_rfl) (by kernel_rfl) (by kernel_rfl) hP hSW24 ?_
          refine pr_move rfl rfl ?_
          refine WH.takex (i := 1) rfl (by kernel_rfl) (by kernel_rfl) (by kernel_rfl) hP hSW24 ?_
          refine pr_move rfl rfl ?_
          obtain ⟨u25, hu25, hF⟩ := bindE hF
          refine WH.takex (i := 2) rfl (by kernel_rfl) (by kernel_rfl) (by kernel_rfl) hP hSW24 ?_
          refine pr_index (e := ty_3) Try.underlying23 rfl rfl rfl h0_0 hu25 ?_
          rintro p26 _ rfl hp27
          refine WH.takex (i := 3) rfl (by kernel_rfl) (by kernel_rfl) (by kernel_rfl) hP hSW24 ?_
          refine pr_load_p (vs := [(.int .i64 u25)]) (v := (.int .i64 u25)) tf_3 rfl rfl (hp27.kx hB22 (by simp)) rfl rfl ?_
          refine WH.takex (i := 4) rfl (by kernel_rfl) (by kernel_rfl) (by kernel_rfl) hP hSW24 ?_
          refine pr_move rfl rfl ?_
          refine WH.takex (i := 5) rfl (by kernel_rfl) (by kernel_rfl) (by kernel_rfl) hP hSW24 ?_
          refine pr_move rfl rfl ?_
          obtain ⟨u28, hu28, hF⟩ := bindE hF
          refine WH.takex (i := 6) rfl (by kernel_rfl) (by kernel_rfl) (by kernel_rfl) hP hSW24 ?_
          refine pr_index (e := ty_3) Try.underlying23 rfl rfl rfl h1_0 hu28 ?_
          rintro p29 _ rfl hp30
          refine WH.takex (i := 7) rfl (by kernel_rfl) (by kernel_rfl) (by kernel_rfl) hP hSW24 ?_
          refine pr_load_p (vs := [(.int .i64 u28)]) (v := (.int .i64 u28)) tf_3 rfl rfl (hp30.kx hB22 (by simp)) rfl rfl ?_
          refine WH.takex (i := 8) rfl (by kernel_rfl) (by kernel_rfl) (by kernel_rfl) hP hSW24 ?_
          refine pr_neq rfl rfl rfl ?_
          refine WH.done (by kernel_rfl) ?_
          refine fun a ha => hK19 _ _ ?_ a ha
          refine W.cond rfl (fun h31 => ?_) (fun h31 => ?_)
          · replace hF := ifP h31 hF
            refine W.seq fun K32 hK32 => ?_
            refine W.region ?_
            refine wl_assign rfl rfl ?_
            refine WL.nil ?_
            refine fun a ha => hK32 _ _ ?_ a ha
            refine W.ret ?_
            have hr := Option.some.inj hF
            subst hr
            exact rets (vs := [(.bool false)]) hQ rfl ⟨rv_tmp rfl, trivial⟩ ⟨rfl, hB22⟩
          · replace hF := ifN h31 hF
            refine W.skip ?_
            refine fun a ha => hK18 _ _ ?_ a ha
            refine W.region ?_
            refine wl_move rfl rfl ?_
            refine wl_add rfl rfl rfl ?_
            refine wl_assign rfl rfl ?_
            refine WL.nil ?_
            rw [hnx12] at hF
            exact fun a ha => hKL13 a _ m14 (Nat.lt_succ_self m14) ⟨(w64 (y11 + 1)), ha.sub ⟨rfl, rfl, rfl, trivial⟩, hB22, (hS23.sel [] rfl), hF⟩
        · replace hF := ifN h17 hF
          refine W.exit ?_
          refine fun a ha => hK6 _ _ ?_ a ha
          refine W.seq fun K33 hK33 => ?_
          refine W.region ?_
          refine wl_assign rfl rfl ?_
          refine WL.nil ?_
          refine fun a ha => hK33 _ _ ?_ a ha
          refine W.ret ?_
          have hr := Option.some.inj hF
          subst hr
          exact rets (vs := [(.bool true)]) hQ rfl ⟨rv_tmp rfl, trivial⟩ ⟨rfl, hB9⟩
theorem C_laws_eqShow (w0 : World) (x0 : ((List (List (Int × Int))) × (List Int) × Int × Int)) (v0_0 : Value) (h0_0 : rdS ty_70 (· < w0.heap.size) w0 v0_0 x0.1) (v0_1 : Value) (h0_1 : rdS ty_3 (· < w0.heap.size) w0 v0_1 x0.2.1) (x1 : ((List (List (Int × Int))) × (List Int) × Int × Int)) (v1_0 : Value) (h1_0 : rdS ty_70 (· < w0.heap.size) w0 v1_0 x1.1) (v1_1 : Value) (h1_1 : rdS ty_3 (· < w0.heap.size) w0 v1_1 x1.2.1) (r : Bool) (hF : F_laws_eqShow x0 x1 = some r) :
    Calls Try.prog 19 [(.agg #[v0_0, v0_1, (.int .i64 x0.2.2.1), (.int .i64 x0.2.2.2)]), (.agg #[v1_0, v1_1, (.int .i64 x1.2.2.1), (.int .i64 x1.2.2.2)])].toArray w0 fun e w' => e = .returned (.bool r) ∧ Below w0.heap.size w0 w' := by
  refine calls_mk' Try.func19 rfl Try.ntmps19 rfl rfl fun Q hQ hP => ?_
  have hB : Below w0.heap.size w0 w0 := Below.refl _ _
  have hS : Sep w0.heap.size w0 [] := Sep.nil _ _
  unfold F_laws_eqShow at hF
  refine W.seq fun K1 hK1 => ?_
  refine W.region ?_
  refine wl_box (cs := [v0_0, v0_1, (.int .i64 x0.2.2.1), (.int .i64 x0.2.2.2)]) rfl rfl rfl hB hS ?_
  intro b2 w3 hb4 hB5 hS6
  refine wl_box (cs := [v1_0, v1_1, (.int .i64 x1.2.2.1), (.int .i64 x1.2.2.2)]) rfl rfl rfl hB5 hS6 ?_
  intro b7 w8 hb9 hB10 hS11
  refine wl_assign rfl rfl ?_
  refine WL.nil ?_
  refine fun a ha => hK1 _ _ ?_ a ha
  refine W.seq fun K12 hK12 => ?_
  refine W.seq fun K13 hK13 => ?_
  refine W.region ?_
  refine wl_field (o := 0) (off' := 0) ff_31_0 rfl rfl rfl ?_
  refine wl_load_blk (i := 1) (vs := [v0_0]) (v := v0_0) tf_29 rfl rfl hS11 rfl rfl rfl ?_
  refine wl_field (o := 0) (off' := 0) ff_31_0 rfl rfl rfl ?_
  refine wl_load_blk (i := 0) (vs := [v1_0]) (v := v1_0) tf_29 rfl rfl hS11 rfl rfl rfl ?_
  obtain ⟨u14, hu14, hF⟩ := bindE hF
  refine wl_call rfl Try.call69 (C_laws_eqSpotSS w8 x0.1 v0_0 (h0_0.ro hB10) x1.1 v1_0 (h1_0.ro hB10) _ hu14) rfl ?_
  rintro _ w15 ⟨rfl, hb16⟩
  refine ⟨_, rfl, ?_⟩
  have hB17 := hB10.trans (hb16.mono hB10.size)
  have hS18 := hS11.below hb16
  refine wl_not rfl rfl ?_
  refine WL.nil ?_
  refine fun a ha => hK13 _ _ ?_ a ha
  refine W.cond rfl (fun h20 => ?_) (fun h20 => ?_)
  · replace hF := ifP h20 hF
    refine W.seq fun K21 hK21 => ?_
    refine W.region ?_
    refine wl_assign rfl rfl ?_
    refine WL.nil ?_
    refine fun a ha => hK21 _ _ ?_ a ha
    refine W.ret ?_
    have hr := Option.some.inj hF
    subst hr
    exact rets (vs := [(.bool false)]) hQ rfl ⟨rv_tmp rfl, trivial⟩ ⟨rfl, hB17⟩
  · replace hF := ifN h20 hF
    refine W.skip ?_
    refine fun a ha => hK12 _ _ ?_ a ha
    refine W.seq fun K22 hK22 => ?_
    refine W.seq fun K23 hK23 => ?_
    refine W.region ?_
    refine wl_field (o := 1) (off' := 1) ff_31_1 rfl rfl rfl ?_
    refine wl_load_blk (i := 1) (vs := [v0_1]) (v := v0_1) tf_23 rfl rfl hS18 rfl rfl rfl ?_
    refine wl_field (o := 1) (off' := 1) ff_31_1 rfl rfl rfl ?_
    refine wl_load_blk (i := 0) (vs := [v1_1]) (v := v1_1) tf_23 rfl rfl hS18 rfl rfl rfl ?_
    obtain ⟨u24, hu24, hF⟩ := bindE hF
    refine wl_call rfl Try.call32 (C_laws_eqIntS w15 x0.2.1 v0_1 (h0_1.ro hB17) x1.2.1 v1_1 (h1_1.ro hB17) _ hu24) rfl ?_
    rintro _ w25 ⟨rfl, hb26⟩
    refine ⟨_, rfl, ?_⟩
    have hB27 := hB17.trans (hb26.mono hB17.size)
    have hS28 := hS18.below hb26
    refine wl_not rfl rfl ?_
    refine WL.nil ?_
    refine fun a ha => hK23 _ _ ?_ a ha
    refine W.cond rfl (fun h30 => ?_) (fun h30 => ?_)
    · replace hF := ifP h30 hF
      refine W.seq fun K31 hK31 => ?_
      refine W.region ?_
      refine wl_assign rfl rfl ?_
      refine WL.nil ?_
      refine fun a ha => hK31 _ _ ?_ a ha
      refine W.ret ?_
      have hr := Option.some.inj hF
      subst hr
      exact rets (vs := [(.bool false)]) hQ rfl ⟨rv_tmp rfl, trivial⟩ ⟨rfl, hB27⟩
    · replace hF := ifN h30 hF
      refine W.skip ?_
      refine fun a ha => hK22 _ _ ?_ a ha
      refine W.seq fun K32 hK32 => ?_
      refine W.seq fun K33 hK33 => ?_
      refine W.region ?_
      refine wl_field (o := 2) (off' := 2) ff_31_2 rfl rfl rfl ?_
      refine wl_load_blk (i := 1) (vs := [(.int .i64 x0.2.2.1)]) (v := (.int .i64 x0.2.2.1)) tf_3 rfl rfl hS28 rfl rfl rfl ?_
      refine wl_field (o := 2) (off' := 2) ff_31_2 rfl rfl rfl ?_
      refine wl_load_blk (i := 0) (vs := [(.int .i64 x1.2.2.1)]) (v := (.int .i64 x1.2.2.1)) tf_3 rfl rfl hS28 rfl rfl rfl ?_
      refine wl_neq rfl rfl rfl ?_
      refine WL.nil ?_
      refine fun a ha => hK33 _ _ ?_ a ha
      refine W.cond rfl (fun h34 => ?_) (fun h34 => ?_)
      · replace hF := ifP h34 hF
        refine W.seq fun K35 hK35 => ?_
        refine W.region ?_
        refine wl_assign rfl rfl ?_
        refine WL.nil ?_
        refine fun a ha => hK35 _ _ ?_ a ha
        refine W.ret ?_
        have hr := Option.some.inj hF
        subst hr
        exact rets (vs := [(.bool false)]) hQ rfl ⟨rv_tmp rfl, trivial⟩ ⟨rfl, hB27⟩
      · replace hF := ifN h34 hF
        refine W.skip ?_
        refine fun a ha => hK32 _ _ ?_ a ha
        refine W.seq fun K36 hK36 => ?_
        refine W.seq fun K37 hK37 => ?_
        refine W.region ?_
        refine wl_field (o := 3) (off' := 3) ff_31_3 rfl rfl rfl ?_
        refine wl_load_blk (i := 1) (vs := [(.int .i64 x0.2.2.2)]) (v := (.int .i64 x0.2.2.2)) tf_3 rfl rfl hS28 rfl rfl rfl ?_
        refine wl_field (o := 3) (off' := 3) ff_31_3 rfl rfl rfl ?_
        refine wl_load_blk (i := 0) (vs := [(.int .i64 x1.2.2.2)]) (v := (.int .i64 x1.2.2.2)) tf_3 rfl rfl hS28 rfl rfl rfl ?_
        refine wl_neq rfl rfl rfl ?_
        refine WL.nil ?_
        refine fun a ha => hK37 _ _ ?_ a ha
        refine W.cond rfl (fun h38 => ?_) (fun h38 => ?_)
        · replace hF := ifP h38 hF
          refine W.seq fun K39 hK39 => ?_
          refine W.region ?_
          refine wl_assign rfl rfl ?_
          refine WL.nil ?_
          refine fun a ha => hK39 _ _ ?_ a ha
          refine W.ret ?_
          have hr := Option.some.inj hF
          subst hr
          exact rets (vs := [(.bool false)]) hQ rfl ⟨rv_tmp rfl, trivial⟩ ⟨rfl, hB27⟩
        · replace hF := ifN h38 hF
          refine W.skip ?_
          refine fun a ha => hK36 _ _ ?_ a ha
          refine W.seq fun K40 hK40 => ?_
          refine W.region ?_
          refine wl_assign rfl rfl ?_
          refine WL.nil ?_
          refine fun a ha => hK40 _ _ ?_ a ha
          refine W.ret ?_
          have hr := Option.some.inj hF
          subst hr
          exact rets (vs := [(.bool true)]) hQ rfl ⟨rv_tmp rfl, trivial⟩ ⟨rfl, hB27⟩
theorem C_spec_apStay (w0 : World) (x0 : ((Int × Int) × (Int × Int) × Int)) (x1 : ((Int × Int) × (Int × Int) × Int)) (x2 : Int) (r : Bool) (hF : F_spec_apStay x0 x1 x2 = some r) :
    Calls Try.prog 124 [(.agg #[(.int .i64 x0.1.1), (.int .i64 x0.1.2), (.int .i64 x0.2.1.1), (.int .i64 x0.2.1.2), (.int .i64 x0.2.2)]), (.agg #[(.int .i64 x1.1.1), (.int .i64 x1.1.2), (.int .i64 x1.2.1.1), (.int .i64 x1.2.1.2), (.int .i64 x1.2.2)]), (.int .i64 x2)].toArray w0 fun e w' => e = .returned (.bool r) ∧ Below w0.heap.size w0 w' := by
  refine calls_mk' Try.func124 rfl Try.ntmps124 rfl rfl fun Q hQ hP => ?_
  have hB : Below w0.heap.size w0 w0 := Below.refl _ _
  have hS : Sep w0.heap.size w0 [] := Sep.nil _ _
  unfold F_spec_apStay at hF
  refine W.seq fun K1 hK1 => ?_
  refine W.region ?_
  refine wl_box (cs := [(.int .i64 x0.1.1), (.int .i64 x0.1.2), (.int .i64 x0.2.1.1), (.int .i64 x0.2.1.2), (.int .i64 x0.2.2)]) rfl rfl rfl hB hS ?_
  intro b2 w3 hb4 hB5 hS6
  refine wl_box (cs := [(.int .i64 x1.1.1), (.int .i64 x1.1.2), (.int .i64 x1.2.1.1), (.int .i64 x1.2.1.2), (.int .i64 x1.2.2)]) rfl rfl rfl hB5 hS6 ?_
  intro b7 w8 hb9 hB10 hS11
  refine wl_assign rfl rfl ?_
  refine WL.nil ?_
  refine fun a ha => hK1 _ _ ?_ a ha
  refine W.seq fun K12 hK12 => ?_
  refine W.region ?_
  refine wl_load_blk (i := 1) (vs := [(.int .i64 x0.1.1), (.int .i64 x0.1.2), (.int .i64 x0.2.1.1), (.int .i64 x0.2.1.2), (.int .i64 x0.2.2)]) (v := (.agg #[(.int .i64 x0.1.1), (.int .i64 x0.1.2), (.int .i64 x0.2.1.1), (.int .i64 x0.2.1.2), (.int .i64 x0.2.2)])) tf_96 rfl rfl hS11 rfl rfl rfl ?_
  refine wl_load_blk (i := 0) (vs := [(.int .i64 x1.1.1), (.int .i64 x1.1.2), (.int .i64 x1.2.1.1), (.int .i64 x1.2.1.2), (.int .i64 x1.2.2)]) (v := (.agg #[(.int .i64 x1.1.1), (.int .i64 x1.1.2), (.int .i64 x1.2.1.1), (.int .i64 x1.2.1.2), (.int .i64 x1.2.2)])) tf_96 rfl rfl hS11 rfl rfl rfl ?_
  obtain ⟨u13, hu13, hF⟩ := bindE hF
  refine wl_call rfl Try.call120 (C_spec_apLeast w8 x0 x1 _ hu13) rfl ?_
  rintro _ w14 ⟨rfl, hb15⟩
  refine ⟨_, rfl, ?_⟩
  have hB16 := hB10.trans (hb15.mono hB10.size)
  have hS17 := hS11.below hb15
  refine wl_move rfl rfl ?_
  refine wl_extract rfl rfl rfl ?_
  refine wl_extract rfl rfl rfl ?_
  refine wl_assign rfl rfl ?_
  refine wl_assign rfl rfl ?_
  refine WL.nil ?_
  refine fun a ha => hK12 _ _ ?_ a ha
  refine W.seq fun K19 hK19 => ?_
  refine W.region ?_
  refine wl_move rfl rfl ?_
  refine wl_move rfl rfl ?_
  refine wl_move rfl rfl ?_
  refine wl_mul rfl rfl rfl ?_
  refine wl_move rfl rfl ?_
  refine wl_mul rfl rfl rfl ?_
  refine wl_geq rfl rfl rfl ?_
  refine wl_assign rfl rfl ?_
  refine WL.nil ?_
  refine fun a ha => hK19 _ _ ?_ a ha
  refine W.ret ?_
  have hr := Option.some.inj hF
  subst hr
  exact rets (vs := [(.bool (decide ((w64 ((w64 (x2 * x2)) * u13.2)) ≤ u13.1)))]) hQ rfl ⟨rv_tmp rfl, trivial⟩ ⟨rfl, hB16⟩
theorem C_spec_swClose (w0 : World) (x0 : ((List (List (Int × Int))) × (List Int) × Int × Int)) (v0_0 : Value) (h0_0 : rdS ty_70 (· < w0.heap.size) w0 v0_0 x0.1) (v0_1 : Value) (h0_1 : rdS ty_3 (· < w0.heap.size) w0 v0_1 x0.2.1) (x1 : Int) (r : (List (List Int))) (hF : F_spec_swClose x0 x1 = some r) :
    Calls Try.prog 79 [(.agg #[v0_0, v0_1, (.int .i64 x0.2.2.1), (.int .i64 x0.2.2.2)]), (.int .i64 x1)].toArray w0 fun e w' => ∃ (q0 : Value) (G0 : List Nat), e = .returned q0 ∧ Below w0.heap.size w0 w' ∧ Sep w0.heap.size w' [R.own ty_23 G0 q0 r] := by
  refine calls_mk' Try.func79 rfl Try.ntmps79 rfl rfl fun Q hQ hP => ?_
  have hB : Below w0.heap.size w0 w0 := Below.refl _ _
  have hS : Sep w0.heap.size w0 [] := Sep.nil _ _
  unfold F_spec_swClose at hF
  refine W.seq fun K1 hK1 => ?_
  refine W.region ?_
  refine wl_box (cs := [v0_0, v0_1, (.int .i64 x0.2.2.1), (.int .i64 x0.2.2.2)]) rfl rfl rfl hB hS ?_
  intro b2 w3 hb4 hB5 hS6
  refine wl_assign rfl rfl ?_
  refine WL.nil ?_
  refine fun a ha => hK1 _ _ ?_ a ha
  refine W.seq fun K7 hK7 => ?_
  refine W.region ?_
  refine wl_load_blk (i := 0) (vs := [v0_0, v0_1, (.int .i64 x0.2.2.1), (.int .i64 x0.2.2.2)]) (v := (.agg #[v0_0, v0_1, (.int .i64 x0.2.2.1), (.int .i64 x0.2.2.2)])) tf_31 rfl rfl hS6 rfl rfl rfl ?_
  refine wl_move rfl rfl ?_
  obtain ⟨u8, hu8, hF⟩ := bindE hF
  refine wl_call rfl Try.call73 (C_spec_swMoves w3 x0 v0_0 (h0_0.ro hB5) v0_1 (h0_1.ro hB5) x1 _ hu8) rfl ?_
  rintro _ w11 ⟨v9, F10, rfl, hb12, hM15⟩
  refine ⟨_, rfl, ?_⟩
  have hB13 := hB5.trans (hb12.mono hB5.size)
  have hS14 := hS6.join hb12 hM15 hB5.size
  refine wl_assign rfl rfl ?_
  refine WL.nil ?_
  refine fun a ha => hK7 _ _ ?_ a ha
  refine W.seq fun K16 hK16 => ?_
  refine W.region ?_
  refine wl_assign rfl rfl ?_
  refine WL.nil ?_
  refine fun a ha => hK16 _ _ ?_ a ha
  refine W.seq fun K17 hK17 => ?_
  refine W.seq fun K18 hK18 => ?_
  refine W.region ?_
  refine wl_move rfl rfl ?_
  refine wl_lenr (e := ty_96) (l := u8) Try.underlying87 rfl rfl (hS14.own_ro (i := 0) rfl) ?_
  refine wl_move rfl rfl ?_
  refine WL.nil ?_
  refine fun a ha => hK18 _ _ ?_ a ha
  refine W.block ?_
  refine W.loopk (fun m a w19 => ∃ (l22 : (List (List Int))) (y25 : Int) (v23 : Value) (F24 : List Nat), St 45 [(2, (.pointer (some ⟨b2, 0, none⟩))), (5, v9), (6, v23), (13, v9), (14, (.int .i64 (List.length u8 : Int))), (15, (.int .i64 y25))] a ∧ Below w0.heap.size w0 w19 ∧ Sep w0.heap.size w19 [R.blk b2 31 [v0_0, v0_1, (.int .i64 x0.2.2.1), (.int .i64 x0.2.2.2)], R.own ty_96 F10 v9 u8, R.own ty_23 F24 v23 l22] ∧ F_spec_swClose_L1 u8 x0 m l22 y25 = some r) FU ?_ ?_
  ·
    have hS27 := hS14.push0 (r := R.own ty_23 [] (.slice none 0 0) []) rfl fun _ => .inl ⟨rfl, rfl, rfl⟩
    exact fun a ha => ⟨[], 0, (.slice none 0 0), [], ha.sub ⟨rfl, rfl, rfl, rfl, rfl, rfl, trivial⟩, hB13, (hS27.sel [2, 1, 0] rfl), hF⟩
  ·
    rintro m29 a w19 ⟨l22, y25, v23, F24, ha, hB20, hS21, hF⟩ KL28 hKL28
    refine W.at ?_ ha
    cases m29 with
    | zero => exact noneE hF
    | succ m29 =>
      obtain ⟨nx26, hnx26⟩ : ∃ k, k = F_spec_swClose_L1 u8 x0 m29 := ⟨_, rfl⟩
      rw [F_spec_swClose_L1, ← hnx26] at hF
      refine W.seq fun K30 hK30 => ?_
      refine W.region ?_
      refine wl_lss rfl rfl rfl ?_
      refine WL.nil ?_
      refine fun a ha => hK30 _ _ ?_ a ha
      refine W.seq fun K31 hK31 => ?_
      refine W.cond rfl (fun h32 => ?_) (fun h32 => ?_)
      · replace hF := ifP h32 hF
        refine W.skip ?_
        refine fun a ha => hK31 _ _ ?_ a ha
        refine W.seq fun K33 hK33 => ?_
        refine W.block ?_
        refine W.seq fun K34 hK34 => ?_
        refine W.region ?_
        refine wl_move rfl rfl ?_
        obtain ⟨u35, hu35, hF⟩ := bindE hF
        refine wl_indexo (e := ty_96) (i := 1) Try.underlying87 rfl rfl rfl hS21 rfl hu35 ?_
        rintro p36 _ rfl hp37 ho38
        refine wl_load_p (vs := [(.int .i64 u35.1.1), (.int .i64 u35.1.2), (.int .i64 u35.2.1.1), (.int .i64 u35.2.1.2), (.int .i64 u35.2.2)]) (v := (.agg #[(.int .i64 u35.1.1), (.int .i64 u35.1.2), (.int .i64 u35.2.1.1), (.int .i64 u35.2.1.2), (.int .i64 u35.2.2)])) tf_96 rfl rfl hp37 rfl rfl ?_
        refine wl_alloc (cs := [(.int .i64 0), (.int .i64 0), (.int .i64 0), (.int .i64 0), (.int .i64 0)]) tf_96 rfl rfl hB20 hS21 ?_
        intro b39 w40 hb41 hB42 hS43
        refine wl_assign rfl rfl ?_
        refine wl_store_blk (i := 0) (vs := [(.int .i64 u35.1.1), (.int .i64 u35.1.2), (.int .i64 u35.2.1.1), (.int .i64 u35.2.1.2), (.int .i64 u35.2.2)]) (cs' := [(.int .i64 u35.1.1), (.int .i64 u35.1.2), (.int .i64 u35.2.1.1), (.int .i64 u35.2.1.2), (.int .i64 u35.2.2)]) tf_96 rfl rfl rfl rfl hB42 hS43 rfl rfl ⟨rfl, rfl, rfl, rfl, rfl, trivial⟩ rfl ?_
        intro w44 hk47 hB45 hS46
        refine WL.nil ?_
        refine fun a ha => hK34 _ _ ?_ a ha
        refine W.seq fun K48 hK48 => ?_
        refine W.region ?_
        refine wl_move rfl rfl ?_
        refine wl_add rfl rfl rfl ?_
        refine wl_assign rfl rfl ?_
        refine WL.nil ?_
        refine fun a ha => hK48 _ _ ?_ a ha
        refine W.block ?_
        refine W.loopk (fun m a w49 => ∃ (l52 : (List (List Int))) (y55 : Int) (v53 : Value) (F54 : List Nat), St 45 [(2, (.pointer (some ⟨b2, 0, none⟩))), (5, v9), (6, v53), (7, (.int .i64 y25)), (8, (.pointer (some ⟨b39, 0, none⟩))), (9, (.int .i64 y55)), (13, v9), (14, (.int .i64 (List.length u8 : Int))), (15, (.int .i64 y25))] a ∧ Below w0.heap.size w0 w49 ∧ Sep w0.heap.size w49 [R.blk b2 31 [v0_0, v0_1, (.int .i64 x0.2.2.1), (.int .i64 x0.2.2.2)], R.own ty_96 F10 v9 u8, R.own ty_23 F54 v53 l52, R.blk b39 96 [(.int .i64 u35.1.1), (.int .i64 u35.1.2), (.int .i64 u35.2.1.1), (.int .i64 u35.2.1.2), (.int .i64 u35.2.2)]] ∧ F_spec_swClose_L2 u8 u35 x0 y25 nx26 m l52 y55 = some r) FU ?_ ?_
        ·
          exact fun a ha => ⟨l22, (w64 (y25 + 1)), v23, F24, ha.sub ⟨rfl, rfl, rfl, rfl, rfl, rfl, rfl, rfl, rfl, trivial⟩, hB45, (hS46.sel [1, 2, 3, 0] rfl), hF⟩
        ·
          rintro m58 a w49 ⟨l52, y55, v53, F54, ha, hB50, hS51, hF⟩ KL57 hKL57
          refine W.at ?_ ha
          cases m58 with
          | zero => exact noneE hF
          | succ m58 =>
            obtain ⟨nx56, hnx56⟩ : ∃ k, k = F_spec_swClose_L2 u8 u35 x0 y25 nx26 m58 := ⟨_, rfl⟩
            rw [F_spec_swClose_L2, ← hnx56] at hF
            refine W.seq fun K59 hK59 => ?_
            refine W.seq fun K60 hK60 => ?_
            refine W.region ?_
            refine wl_move rfl rfl ?_
            refine wl_move rfl rfl ?_
            refine wl_lenr (e := ty_96) (l := u8) Try.underlying87 rfl rfl (hS51.own_ro (i := 1) rfl) ?_
            refine wl_lss rfl rfl rfl ?_
            refine WL.nil ?_
            refine fun a ha => hK60 _ _ ?_ a ha
            refine W.cond rfl (fun h61 => ?_) (fun h61 => ?_)
            · replace hF := ifP h61 hF
              refine W.skip ?_
              refine fun a ha => hK59 _ _ ?_ a ha
              refine W.seq fun K62 hK62 => ?_
              obtain ⟨k69, hk69, hF⟩ := jE1 hF
              have hJ70 : ∀ (l66 : (List (List Int))) (v67 : Value) (F68 : List Nat) (w63 : World) (_ : k69 l66 = some r) (_ : Below w0.heap.size w0 w63) (_ : Sep w0.heap.size w63 [R.blk b2 31 [v0_0, v0_1, (.int .i64 x0.2.2.1), (.int .i64 x0.2.2.2)], R.own ty_96 F10 v9 u8, R.own ty_23 F68 v67 l66, R.blk b39 96 [(.int .i64 u35.1.1), (.int .i64 u35.1.2), (.int .i64 u35.2.1.1), (.int .i64 u35.2.1.2), (.int .i64 u35.2.2)]]), ∀ a, St 45 [(2, (.pointer (some ⟨b2, 0, none⟩))), (5, v9), (6, v67), (7, (.int .i64 y25)), (8, (.pointer (some ⟨b39, 0, none⟩))), (9, (.int .i64 y55)), (13, v9), (14, (.int .i64 (List.length u8 : Int))), (15, (.int .i64 y25))] a → K62 a w63 := by
                intro l66 v67 F68 w63 hF hB64 hS65
                subst hk69
                refine fun a ha => hK62 _ _ ?_ a ha
                refine W.region ?_
                refine wl_move rfl rfl ?_
                refine wl_add rfl rfl rfl ?_
                refine wl_assign rfl rfl ?_
                refine WL.nil ?_
                rw [hnx56] at hF
                exact fun a ha => hKL57 a _ m58 (Nat.lt_succ_self m58) ⟨l66, (w64 (y55 + 1)), v67, F68, ha.sub ⟨rfl, rfl, rfl, rfl, rfl, rfl, rfl, rfl, rfl, trivial⟩, hB64, (hS65.sel [0, 1, 2, 3] rfl), hF⟩
              refine W.block ?_
              refine W.seq fun K71 hK71 => ?_
              refine W.regionH mixed_ [] hB50 hS51 ?_
              intro w72 hb73 hB74 hS75
              have hSW76 := KeepX.refl w72 []
              refine WH.takex (i := 0) rfl (by kernel_rfl) (by kernel_rfl) (by kernel_rfl) hP hSW76 ?_
              refine pr_load_blk (i := 3) (vs := [(.int .i64 u35.1.1), (.int .i64 u35.1.2), (.int .i64 u35.2.1.1), (.int .i64 u35.2.1.2), (.int .i64 u35.2.2)]) (v := (.agg #[(.int .i64 u35.1.1), (.int .i64 u35.1.2), (.int .i64 u35.2.1.1), (.int .i64 u35.2.1.2), (.int .i64 u35.2.2)])) tf_96 rfl rfl hS75 rfl rfl rfl (by simp) ?_
              refine WH.takex (i := 1) rfl (by kernel_rfl) (by kernel_rfl) (by kernel_rfl) hP hSW76 ?_
              refine pr_move rfl rfl ?_
              refine WH.takex (i := 2) rfl (by kernel_rfl) (by kernel_rfl) (by kernel_rfl) hP hSW76 ?_
              refine pr_move rfl rfl ?_
              obtain ⟨u77, hu77, hF⟩ := bindE hF
              refine WH.takex (i := 3) rfl (by kernel_rfl) (by kernel_rfl) (by kernel_rfl) hP hSW76 ?_
              refine pr_indexo (e := ty_96) (i := 1) Try.underlying87 rfl rfl rfl hS75 rfl hu77 ?_
              rintro p78 _ rfl hp79 ho80
              refine WH.takex (i := 4) rfl (by kernel_rfl) (by kernel_rfl) (by kernel_rfl) hP hSW76 ?_
              refine pr_load_p (vs := [(.int .i64 u77.1.1), (.int .i64 u77.1.2), (.int .i64 u77.2.1.1), (.int .i64 u77.2.1.2), (.int .i64 u77.2.2)]) (v := (.agg #[(.int .i64 u77.1.1), (.int .i64 u77.1.2), (.int .i64 u77.2.1.1), (.int .i64 u77.2.1.2), (.int .i64 u77.2.2)])) tf_96 rfl rfl (hp79.kx0) rfl rfl ?_
              refine WH.takex (i := 5) rfl (by kernel_rfl) (by kernel_rfl) (by kernel_rfl) hP hSW76 ?_
              refine pr_field (o := 2) (off' := 2) ff_31_2 rfl rfl rfl ?_
              refine WH.takex (i := 6) rfl (by kernel_rfl) (by kernel_rfl) (by kernel_rfl) hP hSW76 ?_
              refine pr_load_blk (i := 0) (vs := [(.int .i64 x0.2.2.1)]) (v := (.int .i64 x0.2.2.1)) tf_3 rfl rfl hS75 rfl rfl rfl (by simp) ?_
              refine WH.one (i := 7) (by kernel_rfl) rfl ?_
              obtain ⟨u81, hu81, hF⟩ := bindE hF
              refine wl_call rfl Try.call124 (C_spec_apStay w72 u35 u77 x0.2.2.1 _ hu81) rfl ?_
              rintro _ w82 ⟨rfl, hb83⟩
              refine ⟨_, rfl, ?_⟩
              have hB84 := hB74.trans (hb83.mono hB74.size)
              have hS85 := hS75.below hb83
              have hSW87 := hSW76.ext hb83
              refine WL.nil (WH.ret hSW87 ?_)
              refine WH.takex (i := 8) rfl (by kernel_rfl) (by kernel_rfl) (by kernel_rfl) hP hSW87 ?_
              refine pr_not rfl rfl ?_
              refine WH.done (by kernel_rfl) ?_
              refine fun a ha => hK71 _ _ ?_ a ha
              refine W.cond rfl (fun h88 => ?_) (fun h88 => ?_)
              · replace hF := ifP h88 hF
                refine W.region ?_
                refine wl_move rfl rfl ?_
                refine wl_move rfl rfl ?_
                refine wl_move rfl rfl ?_
                refine wl_lit (vs := [(.int .i64 y25), (.int .i64 y55)]) (l := [y25, y55]) fl_3 Try.underlying23 rfl rfl rfl rfl rfl rfl hB84 hS85 ?_
                intro v89 F90 w91 hb92 hB93 hS94
                have hq95 := hS94.sel [0, 1, 2, 3, 4] rfl
                have hq96 := hq95.head (r' := R.cel ty_23 F90 [v89] [y25, y55]) (rfl) fun _ h0 => ⟨_, rfl, h0⟩
                refine wl_lit1 (e := ty_23) (vs := [v89]) Try.underlying39 rfl rfl (cells_one (hS94.own_ro (i := 0) rfl).one) rfl hB93 hq96 ?_
                intro v97 F98 w99 hb100 hf101 hB102 hS103
                obtain ⟨u104, hu104, hF⟩ := bindE hF
                refine wl_appendn (e := ty_23) Try.underlying39 rfl rfl rfl hB102 (hS103.sel [3, 0, 1, 2, 4] rfl) hu104 ?_
                intro v105 F106 w107 hk108 hB109 hS110
                refine wl_assign rfl rfl ?_
                refine WL.nil ?_
                exact fun a ha => hJ70 (u104) (v105) (F106) _ hF hB109 (hS110.sel [1, 2, 0, 3] rfl) a (ha.sub ⟨rfl, rfl, rfl, rfl, rfl, rfl, rfl, rfl, rfl, trivial⟩)
              · replace hF := ifN h88 hF
                refine W.skip ?_
                exact fun a ha => hJ70 (l52) (v53) (F54) _ hF hB84 (hS85.sel [0, 1, 2, 3] rfl) a (ha.sub ⟨rfl, rfl, rfl, rfl, rfl, rfl, rfl, rfl, rfl, trivial⟩)
            · replace hF := ifN h61 hF
              refine W.exit ?_
              refine fun a ha => hK33 _ _ ?_ a ha
              refine W.region ?_
              refine wl_add rfl rfl rfl ?_
              refine wl_move rfl rfl ?_
              refine WL.nil ?_
              rw [hnx26] at hF
              exact fun a ha => hKL28 a _ m29 (Nat.lt_succ_self m29) ⟨l52, (w64 (y25 + 1)), v53, F54, ha.sub ⟨rfl, rfl, rfl, rfl, rfl, rfl, trivial⟩, hB50, (hS51.sel [0, 1, 2] rfl), hF⟩
      · replace hF := ifN h32 hF
        refine W.exit ?_
        refine fun a ha => hK17 _ _ ?_ a ha
        refine W.seq fun K111 hK111 => ?_
        refine W.region ?_
        refine wl_move rfl rfl ?_
        refine wl_assign rfl rfl ?_
        refine WL.nil ?_
        refine fun a ha => hK111 _ _ ?_ a ha
        refine W.ret ?_
        have hr := Option.some.inj hF
        subst hr
        exact rets (vs := [v23]) hQ rfl ⟨rv_tmp rfl, trivial⟩ ⟨v23, F24, rfl, hB20, hS21.sel [2] rfl⟩
theorem C_spec_stSquare (w0 : World) (x0 : (Int × Int)) (x1 : (Int × Int)) (r : Int) (hF : F_spec_stSquare x0 x1 = some r) :
    Calls Try.prog 98 [(.agg #[(.int .i64 x0.1), (.int .i64 x0.2)]), (.agg #[(.int .i64 x1.1), (.int .i64 x1.2)])].toArray w0 fun e w' => e = .returned (.int .i64 r) ∧ Below w0.heap.size w0 w' := by
  refine calls_mk' Try.func98 rfl Try.ntmps98 rfl rfl fun Q hQ hP => ?_
  have hB : Below w0.heap.size w0 w0 := Below.refl _ _
  have hS : Sep w0.heap.size w0 [] := Sep.nil _ _
  unfold F_spec_stSquare at hF
  refine W.seq fun K1 hK1 => ?_
  refine W.region ?_
  refine wl_box (cs := [(.int .i64 x0.1), (.int .i64 x0.2)]) rfl rfl rfl hB hS ?_
  intro b2 w3 hb4 hB5 hS6
  refine wl_box (cs := [(.int .i64 x1.1), (.int .i64 x1.2)]) rfl rfl rfl hB5 hS6 ?_
  intro b7 w8 hb9 hB10 hS11
  refine wl_assign rfl rfl ?_
  refine WL.nil ?_
  refine fun a ha => hK1 _ _ ?_ a ha
  refine W.seq fun K12 hK12 => ?_
  refine W.region ?_
  refine wl_field (o := 0) (off' := 0) ff_54_0 rfl rfl rfl ?_
  refine wl_load_blk (i := 1) (vs := [(.int .i64 x0.1)]) (v := (.int .i64 x0.1)) tf_3 rfl rfl hS11 rfl rfl rfl ?_
  refine wl_field (o := 0) (off' := 0) ff_54_0 rfl rfl rfl ?_
  refine wl_load_blk (i := 0) (vs := [(.int .i64 x1.1)]) (v := (.int .i64 x1.1)) tf_3 rfl rfl hS11 rfl rfl rfl ?_
  refine wl_sub rfl rfl rfl ?_
  refine wl_field (o := 0) (off' := 0) ff_54_0 rfl rfl rfl ?_
  refine wl_load_blk (i := 1) (vs := [(.int .i64 x0.1)]) (v := (.int .i64 x0.1)) tf_3 rfl rfl hS11 rfl rfl rfl ?_
  refine wl_field (o := 0) (off' := 0) ff_54_0 rfl rfl rfl ?_
  refine wl_load_blk (i := 0) (vs := [(.int .i64 x1.1)]) (v := (.int .i64 x1.1)) tf_3 rfl rfl hS11 rfl rfl rfl ?_
  refine wl_sub rfl rfl rfl ?_
  refine wl_mul rfl rfl rfl ?_
  refine wl_field (o := 1) (off' := 1) ff_54_1 rfl rfl rfl ?_
  refine wl_load_blk (i := 1) (vs := [(.int .i64 x0.2)]) (v := (.int .i64 x0.2)) tf_3 rfl rfl hS11 rfl rfl rfl ?_
  refine wl_field (o := 1) (off' := 1) ff_54_1 rfl rfl rfl ?_
  refine wl_load_blk (i := 0) (vs := [(.int .i64 x1.2)]) (v := (.int .i64 x1.2)) tf_3 rfl rfl hS11 rfl rfl rfl ?_
  refine wl_sub rfl rfl rfl ?_
  refine wl_field (o := 1) (off' := 1) ff_54_1 rfl rfl rfl ?_
  refine wl_load_blk (i := 1) (vs := [(.int .i64 x0.2)]) (v := (.int .i64 x0.2)) tf_3 rfl rfl hS11 rfl rfl rfl ?_
  refine wl_field (o := 1) (off' := 1) ff_54_1 rfl rfl rfl ?_
  refine wl_load_blk (i := 0) (vs := [(.int .i64 x1.2)]) (v := (.int .i64 x1.2)) tf_3 rfl rfl hS11 rfl rfl rfl ?_
  refine wl_sub rfl rfl rfl ?_
  refine wl_mul rfl rfl rfl ?_
  refine wl_add rfl rfl rfl ?_
  refine wl_assign rfl rfl ?_
  refine WL.nil ?_
  refine fun a ha => hK12 _ _ ?_ a ha
  refine W.ret ?_
  have hr := Option.some.inj hF
  subst hr
  exact rets (vs := [(.int .i64 (w64 ((w64 ((w64 (x0.1 - x1.1)) * (w64 (x0.1 - x1.1)))) + (w64 ((w64 (x0.2 - x1.2)) * (w64 (x0.2 - x1.2)))))))]) hQ rfl ⟨rv_tmp rfl, trivial⟩ ⟨rfl, hB10⟩
theorem C_spec_mvWithin (w0 : World) (x0 : ((Int × Int) × (Int × Int) × Int)) (x1 : Int) (r : Bool) (hF : F_spec_mvWithin x0 x1 = some r) :
    Calls Try.prog 144 [(.agg #[(.int .i64 x0.1.1), (.int .i64 x0.1.2), (.int .i64 x0.2.1.1), (.int .i64 x0.2.1.2), (.int .i64 x0.2.2)]), (.int .i64 x1)].toArray w0 fun e w' => e = .returned (.bool r) ∧ Below w0.heap.size w0 w' := by
  refine calls_mk' Try.func144 rfl Try.ntmps144 rfl rfl fun Q hQ hP => ?_
  have hB : Below w0.heap.size w0 w0 := Below.refl _ _
  have hS : Sep w0.heap.size w0 [] := Sep.nil _ _
  unfold F_spec_mvWithin at hF
  refine W.seq fun K1 hK1 => ?_
  refine W.region ?_
  refine wl_box (cs := [(.int .i64 x0.1.1), (.int .i64 x0.1.2), (.int .i64 x0.2.1.1), (.int .i64 x0.2.1.2), (.int .i64 x0.2.2)]) rfl rfl rfl hB hS ?_
  intro b2 w3 hb4 hB5 hS6
  refine wl_assign rfl rfl ?_
  refine WL.nil ?_
  refine fun a ha => hK1 _ _ ?_ a ha
  refine W.seq fun K7 hK7 => ?_
  refine W.regionH mixed_ [] hB5 hS6 ?_
  intro w8 hb9 hB10 hS11
  have hSW12 := KeepX.refl w8 []
  refine WH.takex (i := 0) rfl (by kernel_rfl) (by kernel_rfl) (by kernel_rfl) hP hSW12 ?_
  refine pr_field (o := 0) (off' := 0) ff_96_0 rfl rfl rfl ?_
  refine WH.takex (i := 1) rfl (by kernel_rfl) (by kernel_rfl) (by kernel_rfl) hP hSW12 ?_
  refine pr_load_blk (i := 0) (vs := [(.int .i64 x0.1.1), (.int .i64 x0.1.2)]) (v := (.agg #[(.int .i64 x0.1.1), (.int .i64 x0.1.2)])) tf_54 rfl rfl hS11 rfl rfl rfl (by simp) ?_
  refine WH.takex (i := 2) rfl (by kernel_rfl) (by kernel_rfl) (by kernel_rfl) hP hSW12 ?_
  refine pr_field (o := 2) (off' := 2) ff_96_1 rfl rfl rfl ?_
  refine WH.takex (i := 3) rfl (by kernel_rfl) (by kernel_rfl) (by kernel_rfl) hP hSW12 ?_
  refine pr_load_blk (i := 0) (vs := [(.int .i64 x0.2.1.1), (.int .i64 x0.2.1.2)]) (v := (.agg #[(.int .i64 x0.2.1.1), (.int .i64 x0.2.1.2)])) tf_54 rfl rfl hS11 rfl rfl rfl (by simp) ?_
  refine WH.takex (i := 5) rfl (by kernel_rfl) (by kernel_rfl) (by kernel_rfl) hP hSW12 ?_
  refine pr_move rfl rfl ?_
  refine WH.takex (i := 6) rfl (by kernel_rfl) (by kernel_rfl) (by kernel_rfl) hP hSW12 ?_
  refine pr_move rfl rfl ?_
  refine WH.takex (i := 7) rfl (by kernel_rfl) (by kernel_rfl) (by kernel_rfl) hP hSW12 ?_
  refine pr_mul rfl rfl rfl ?_
  refine WH.takex (i := 8) rfl (by kernel_rfl) (by kernel_rfl) (by kernel_rfl) hP hSW12 ?_
  refine pr_field (o := 4) (off' := 4) ff_96_2 rfl rfl rfl ?_
  refine WH.takex (i := 9) rfl (by kernel_rfl) (by kernel_rfl) (by kernel_rfl) hP hSW12 ?_
  refine pr_load_blk (i := 0) (vs := [(.int .i64 x0.2.2)]) (v := (.int .i64 x0.2.2)) tf_3 rfl rfl hS11 rfl rfl rfl (by simp) ?_
  refine WH.takex (i := 10) rfl (by kernel_rfl) (by kernel_rfl) (by kernel_rfl) hP hSW12 ?_
  refine pr_mul rfl rfl rfl ?_
  refine WH.takex (i := 11) rfl (by kernel_rfl) (by kernel_rfl) (by kernel_rfl) hP hSW12 ?_
  refine pr_field (o := 4) (off' := 4) ff_96_2 rfl rfl rfl ?_
  refine WH.takex (i := 12) rfl (by kernel_rfl) (by kernel_rfl) (by kernel_rfl) hP hSW12 ?_
  refine pr_load_blk (i := 0) (vs := [(.int .i64 x0.2.2)]) (v := (.int .i64 x0.2.2)) tf_3 rfl rfl hS11 rfl rfl rfl (by simp) ?_
  refine WH.takex (i := 13) rfl (by kernel_rfl) (by kernel_rfl) (by kernel_rfl) hP hSW12 ?_
  refine pr_mul rfl rfl rfl ?_
  refine WH.one (i := 4) (by kernel_rfl) rfl ?_
  obtain ⟨u13, hu13, hF⟩ := bindE hF
  refine wl_call rfl Try.call98 (C_spec_stSquare w8 x0.1 x0.2.1 _ hu13) rfl ?_
  rintro _ w14 ⟨rfl, hb15⟩
  refine ⟨_, rfl, ?_⟩
  have hB16 := hB10.trans (hb15.mono hB10.size)
  have hS17 := hS11.below hb15
  have hSW19 := hSW12.ext hb15
  refine WL.nil (WH.ret hSW19 ?_)
  refine WH.takex (i := 14) rfl (by kernel_rfl) (by kernel_rfl) (by kernel_rfl) hP hSW19 ?_
  refine pr_leq rfl rfl rfl ?_
  refine WH.takex (i := 15) rfl (by kernel_rfl) (by kernel_rfl) (by kernel_rfl) hP hSW19 ?_
  refine pr_assign rfl rfl ?_
  refine WH.done (by kernel_rfl) ?_
  refine fun a ha => hK7 _ _ ?_ a ha
  refine W.ret ?_
  have hr := Option.some.inj hF
  subst hr
  exact rets (vs := [(.bool (decide (u13 ≤ (w64 ((w64 ((w64 (x1 * x1)) * x0.2.2)) * x0.2.2)))))]) hQ rfl ⟨rv_tmp rfl, trivial⟩ ⟨rfl, hB16⟩
theorem C_spec_swWide (w0 : World) (x0 : ((List (List (Int × Int))) × (List Int) × Int × Int)) (v0_0 : Value) (h0_0 : rdS ty_70 (· < w0.heap.size) w0 v0_0 x0.1) (v0_1 : Value) (h0_1 : rdS ty_3 (· < w0.heap.size) w0 v0_1 x0.2.1) (x1 : Int) (r : (List Int)) (hF : F_spec_swWide x0 x1 = some r) :
    Calls Try.prog 111 [(.agg #[v0_0, v0_1, (.int .i64 x0.2.2.1), (.int .i64 x0.2.2.2)]), (.int .i64 x1)].toArray w0 fun e w' => ∃ (q0 : Value) (G0 : List Nat), e = .returned q0 ∧ Below w0.heap.size w0 w' ∧ Sep w0.heap.size w' [R.own ty_3 G0 q0 r] := by
  refine calls_mk' Try.func111 rfl Try.ntmps111 rfl rfl fun Q hQ hP => ?_
  have hB : Below w0.heap.size w0 w0 := Below.refl _ _
  have hS : Sep w0.heap.size w0 [] := Sep.nil _ _
  unfold F_spec_swWide at hF
  refine W.seq fun K1 hK1 => ?_
  refine W.region ?_
  refine wl_box (cs := [v0_0, v0_1, (.int .i64 x0.2.2.1), (.int .i64 x0.2.2.2)]) rfl rfl rfl hB hS ?_
  intro b2 w3 hb4 hB5 hS6
  refine wl_assign rfl rfl ?_
  refine WL.nil ?_
  refine fun a ha => hK1 _ _ ?_ a ha
  refine W.seq fun K7 hK7 => ?_
  refine W.region ?_
  refine wl_assign rfl rfl ?_
  refine WL.nil ?_
  refine fun a ha => hK7 _ _ ?_ a ha
  refine W.seq fun K8 hK8 => ?_
  refine W.seq fun K9 hK9 => ?_
  refine W.region ?_
  refine wl_load_blk (i := 0) (vs := [v0_0, v0_1, (.int .i64 x0.2.2.1), (.int .i64 x0.2.2.2)]) (v := (.agg #[v0_0, v0_1, (.int .i64 x0.2.2.1), (.int .i64 x0.2.2.2)])) tf_31 rfl rfl hS6 rfl rfl rfl ?_
  refine wl_move rfl rfl ?_
  obtain ⟨u10, hu10, hF⟩ := bindE hF
  refine wl_call rfl Try.call73 (C_spec_swMoves w3 x0 v0_0 (h0_0.ro hB5) v0_1 (h0_1.ro hB5) x1 _ hu10) rfl ?_
  rintro _ w13 ⟨v11, F12, rfl, hb14, hM17⟩
  refine ⟨_, rfl, ?_⟩
  have hB15 := hB5.trans (hb14.mono hB5.size)
  have hS16 := hS6.join hb14 hM17 hB5.size
  refine wl_lenr (e := ty_96) (l := u10) Try.underlying87 rfl rfl (hS16.own_ro (i := 0) rfl) ?_
  refine wl_move rfl rfl ?_
  refine WL.nil ?_
  refine fun a ha => hK9 _ _ ?_ a ha
  refine W.block ?_
  refine W.loopk (fun m a w18 => ∃ (l21 : (List Int)) (y24 : Int) (v22 : Value) (F23 : List Nat), St 28 [(2, (.pointer (some ⟨b2, 0, none⟩))), (5, v22), (10, v11), (11, (.int .i64 (List.length u10 : Int))), (12, (.int .i64 y24))] a ∧ Below w0.heap.size w0 w18 ∧ Sep w0.heap.size w18 [R.blk b2 31 [v0_0, v0_1, (.int .i64 x0.2.2.1), (.int .i64 x0.2.2.2)], R.own ty_3 F23 v22 l21, R.own ty_96 F12 v11 u10] ∧ F_spec_swWide_L1 u10 x0 m l21 y24 = some r) FU ?_ ?_
  ·
    have hS26 := hS16.push0 (r := R.own ty_3 [] (.slice none 0 0) []) rfl fun _ => .inl ⟨rfl, rfl, rfl⟩
    exact fun a ha => ⟨[], 0, (.slice none 0 0), [], ha.sub ⟨rfl, rfl, rfl, rfl, rfl, trivial⟩, hB15, (hS26.sel [2, 0, 1] rfl), hF⟩
  ·
    rintro m28 a w18 ⟨l21, y24, v22, F23, ha, hB19, hS20, hF⟩ KL27 hKL27
    refine W.at ?_ ha
    cases m28 with
    | zero => exact noneE hF
    | succ m28 =>
      obtain ⟨nx25, hnx25⟩ : ∃ k, k = F_spec_swWide_L1 u10 x0 m28 := ⟨_, rfl⟩
      rw [F_spec_swWide_L1, ← hnx25] at hF
      refine W.seq fun K29 hK29 => ?_
      refine W.region ?_
      refine wl_lss rfl rfl rfl ?_
      refine WL.nil ?_
      refine fun a ha => hK29 _ _ ?_ a ha
      refine W.seq fun K30 hK30 => ?_
      refine W.cond rfl (fun h31 => ?_) (fun h31 => ?_)
      · replace hF := ifP h31 hF
        refine W.skip ?_
        refine fun a ha => hK30 _ _ ?_ a ha
        refine W.seq fun K32 hK32 => ?_
        obtain ⟨k39, hk39, hF⟩ := jE1 hF
        have hJ40 : ∀ (l36 : (List Int)) (v37 : Value) (F38 : List Nat) (w33 : World) (_ : k39 l36 = some r) (_ : Below w0.heap.size w0 w33) (_ : Sep w0.heap.size w33 [R.blk b2 31 [v0_0, v0_1, (.int .i64 x0.2.2.1), (.int .i64 x0.2.2.2)], R.own ty_3 F38 v37 l36, R.own ty_96 F12 v11 u10]), ∀ a, St 28 [(2, (.pointer (some ⟨b2, 0, none⟩))), (5, v37), (10, v11), (11, (.int .i64 (List.length u10 : Int))), (12, (.int .i64 y24))] a → K32 a w33 := by
          intro l36 v37 F38 w33 hF hB34 hS35
          subst hk39
          refine fun a ha => hK32 _ _ ?_ a ha
          refine W.region ?_
          refine wl_add rfl rfl rfl ?_
          refine wl_move rfl rfl ?_
          refine WL.nil ?_
          rw [hnx25] at hF
          exact fun a ha => hKL27 a _ m28 (Nat.lt_succ_self m28) ⟨l36, (w64 (y24 + 1)), v37, F38, ha.sub ⟨rfl, rfl, rfl, rfl, rfl, trivial⟩, hB34, (hS35.sel [0, 1, 2] rfl), hF⟩
        refine W.block ?_
        refine W.seq fun K41 hK41 => ?_
        refine W.region ?_
        refine wl_move rfl rfl ?_
        obtain ⟨u42, hu42, hF⟩ := bindE hF
        refine wl_indexo (e := ty_96) (i := 2) Try.underlying87 rfl rfl rfl hS20 rfl hu42 ?_
        rintro p43 _ rfl hp44 ho45
        refine wl_load_p (vs := [(.int .i64 u42.1.1), (.int .i64 u42.1.2), (.int .i64 u42.2.1.1), (.int .i64 u42.2.1.2), (.int .i64 u42.2.2)]) (v := (.agg #[(.int .i64 u42.1.1), (.int .i64 u42.1.2), (.int .i64 u42.2.1.1), (.int .i64 u42.2.1.2), (.int .i64 u42.2.2)])) tf_96 rfl rfl hp44 rfl rfl ?_
        refine wl_alloc (cs := [(.int .i64 0), (.int .i64 0), (.int .i64 0), (.int .i64 0), (.int .i64 0)]) tf_96 rfl rfl hB19 hS20 ?_
        intro b46 w47 hb48 hB49 hS50
        refine wl_assign rfl rfl ?_
        refine wl_store_blk (i := 0) (vs := [(.int .i64 u42.1.1), (.int .i64 u42.1.2), (.int .i64 u42.2.1.1), (.int .i64 u42.2.1.2), (.int .i64 u42.2.2)]) (cs' := [(.int .i64 u42.1.1), (.int .i64 u42.1.2), (.int .i64 u42.2.1.1), (.int .i64 u42.2.1.2), (.int .i64 u42.2.2)]) tf_96 rfl rfl rfl rfl hB49 hS50 rfl rfl ⟨rfl, rfl, rfl, rfl, rfl, trivial⟩ rfl ?_
        intro w51 hk54 hB52 hS53
        refine WL.nil ?_
        refine fun a ha => hK41 _ _ ?_ a ha
        refine W.seq fun K55 hK55 => ?_
        refine W.region ?_
        refine wl_load_blk (i := 0) (vs := [(.int .i64 u42.1.1), (.int .i64 u42.1.2), (.int .i64 u42.2.1.1), (.int .i64 u42.2.1.2), (.int .i64 u42.2.2)]) (v := (.agg #[(.int .i64 u42.1.1), (.int .i64 u42.1.2), (.int .i64 u42.2.1.1), (.int .i64 u42.2.1.2), (.int .i64 u42.2.2)])) tf_96 rfl rfl hS53 rfl rfl rfl ?_
        refine wl_field (o := 3) (off' := 3) ff_31_3 rfl rfl rfl ?_
        refine wl_load_blk (i := 1) (vs := [(.int .i64 x0.2.2.2)]) (v := (.int .i64 x0.2.2.2)) tf_3 rfl rfl hS53 rfl rfl rfl ?_
        obtain ⟨u56, hu56, hF⟩ := bindE hF
        refine wl_call rfl Try.call144 (C_spec_mvWithin w51 u42 x0.2.2.2 _ hu56) rfl ?_
        rintro _ w57 ⟨rfl, hb58⟩
        refine ⟨_, rfl, ?_⟩
        have hB59 := hB52.trans (hb58.mono hB52.size)
        have hS60 := hS53.below hb58
        refine wl_not rfl rfl ?_
        refine WL.nil ?_
        refine fun a ha => hK55 _ _ ?_ a ha
        refine W.cond rfl (fun h62 => ?_) (fun h62 => ?_)
        · replace hF := ifP h62 hF
          refine W.region ?_
          refine wl_move rfl rfl ?_
          refine wl_move rfl rfl ?_
          refine wl_lit (vs := [(.int .i64 y24)]) (l := [y24]) fl_3 Try.underlying23 rfl rfl rfl rfl rfl rfl hB59 hS60 ?_
          intro v63 F64 w65 hb66 hB67 hS68
          obtain ⟨u69, hu69, hF⟩ := bindE hF
          refine wl_append (i := 3) (S := (· < w65.heap.size)) fl_3 Try.underlying23 rfl rfl rfl hB67 hS68 rfl (hS68.own_ro (i := 0) rfl) hu69 ?_
          intro v70 F71 w72 hk73 hB74 hS75
          refine wl_assign rfl rfl ?_
          refine WL.nil ?_
          exact fun a ha => hJ40 (u69) (v70) (F71) _ hF hB74 (hS75.sel [2, 3, 4] rfl) a (ha.sub ⟨rfl, rfl, rfl, rfl, rfl, trivial⟩)
        · replace hF := ifN h62 hF
          refine W.skip ?_
          exact fun a ha => hJ40 (l21) (v22) (F23) _ hF hB59 (hS60.sel [1, 2, 3] rfl) a (ha.sub ⟨rfl, rfl, rfl, rfl, rfl, trivial⟩)
      · replace hF := ifN h31 hF
        refine W.exit ?_
        refine fun a ha => hK8 _ _ ?_ a ha
        refine W.seq fun K76 hK76 => ?_
        refine W.region ?_
        refine wl_move rfl rfl ?_
        refine wl_assign rfl rfl ?_
        refine WL.nil ?_
        refine fun a ha => hK76 _ _ ?_ a ha
        refine W.ret ?_
        have hr := Option.some.inj hF
        subst hr
        exact rets (vs := [v22]) hQ rfl ⟨rv_tmp rfl, trivial⟩ ⟨v22, F23, rfl, hB19, hS20.sel [1] rfl⟩
theorem C_spec_swUnsafe (w0 : World) (x0 : ((List (List (Int × Int))) × (List Int) × Int × Int)) (v0_0 : Value) (h0_0 : rdS ty_70 (· < w0.heap.size) w0 v0_0 x0.1) (v0_1 : Value) (h0_1 : rdS ty_3 (· < w0.heap.size) w0 v0_1 x0.2.1) (r : (List Int)) (hF : F_spec_swUnsafe x0 = some r) :
    Calls Try.prog 64 [(.agg #[v0_0, v0_1, (.int .i64 x0.2.2.1), (.int .i64 x0.2.2.2)])].toArray w0 fun e w' => ∃ (q0 : Value) (G0 : List Nat), e = .returned q0 ∧ Below w0.heap.size w0 w' ∧ Sep w0.heap.size w' [R.own ty_3 G0 q0 r] := by
  refine calls_mk' Try.func64 rfl Try.ntmps64 rfl rfl fun Q hQ hP => ?_
  have hB : Below w0.heap.size w0 w0 := Below.refl _ _
  have hS : Sep w0.heap.size w0 [] := Sep.nil _ _
  unfold F_spec_swUnsafe at hF
  refine W.seq fun K1 hK1 => ?_
  refine W.region ?_
  refine wl_box (cs := [v0_0, v0_1, (.int .i64 x0.2.2.1), (.int .i64 x0.2.2.2)]) rfl rfl rfl hB hS ?_
  intro b2 w3 hb4 hB5 hS6
  refine wl_assign rfl rfl ?_
  refine WL.nil ?_
  refine fun a ha => hK1 _ _ ?_ a ha
  refine W.seq fun K7 hK7 => ?_
  refine W.region ?_
  refine wl_assign rfl rfl ?_
  refine WL.nil ?_
  refine fun a ha => hK7 _ _ ?_ a ha
  refine W.seq fun K8 hK8 => ?_
  refine W.seq fun K9 hK9 => ?_
  refine W.region ?_
  refine wl_field (o := 1) (off' := 1) ff_31_1 rfl rfl rfl ?_
  refine wl_load_blk (i := 0) (vs := [v0_1]) (v := v0_1) tf_23 rfl rfl hS6 rfl rfl rfl ?_
  refine wl_lenr (e := ty_3) (l := x0.2.1) Try.underlying23 rfl rfl h0_1 ?_
  refine wl_move rfl rfl ?_
  refine WL.nil ?_
  refine fun a ha => hK9 _ _ ?_ a ha
  refine W.block ?_
  refine W.loopk (fun m a w10 => ∃ (l13 : (List Int)) (y16 : Int) (v14 : Value) (F15 : List Nat), St 27 [(1, (.pointer (some ⟨b2, 0, none⟩))), (3, v14), (7, (.int .i64 (List.length x0.2.1 : Int))), (8, (.int .i64 y16))] a ∧ Below w0.heap.size w0 w10 ∧ Sep w0.heap.size w10 [R.blk b2 31 [v0_0, v0_1, (.int .i64 x0.2.2.1), (.int .i64 x0.2.2.2)], R.own ty_3 F15 v14 l13] ∧ F_spec_swUnsafe_L1 x0 m l13 y16 = some r) FU ?_ ?_
  ·
    have hS18 := hS6.push0 (r := R.own ty_3 [] (.slice none 0 0) []) rfl fun _ => .inl ⟨rfl, rfl, rfl⟩
    exact fun a ha => ⟨[], 0, (.slice none 0 0), [], ha.sub ⟨rfl, rfl, rfl, rfl, trivial⟩, hB5, (hS18.sel [1, 0] rfl), hF⟩
  ·
    rintro m20 a w10 ⟨l13, y16, v14, F15, ha, hB11, hS12, hF⟩ KL19 hKL19
    refine W.at ?_ ha
    cases m20 with
    | zero => exact noneE hF
    | succ m20 =>
      obtain ⟨nx17, hnx17⟩ : ∃ k, k = F_spec_swUnsafe_L1 x0 m20 := ⟨_, rfl⟩
      rw [F_spec_swUnsafe_L1, ← hnx17] at hF
      refine W.seq fun K21 hK21 => ?_
      refine W.region ?_
      refine wl_lss rfl rfl rfl ?_
      refine WL.nil ?_
      refine fun a ha => hK21 _ _ ?_ a ha
      refine W.seq fun K22 hK22 => ?_
      refine W.cond rfl (fun h23 => ?_) (fun h23 => ?_)
      · replace hF := ifP h23 hF
        refine W.skip ?_
        refine fun a ha => hK22 _ _ ?_ a ha
        refine W.seq fun K24 hK24 => ?_
        obtain ⟨k31, hk31, hF⟩ := jE1 hF
        have hJ32 : ∀ (l28 : (List Int)) (v29 : Value) (F30 : List Nat) (w25 : World) (_ : k31 l28 = some r) (_ : Below w0.heap.size w0 w25) (_ : Sep w0.heap.size w25 [R.blk b2 31 [v0_0, v0_1, (.int .i64 x0.2.2.1), (.int .i64 x0.2.2.2)], R.own ty_3 F30 v29 l28]), ∀ a, St 27 [(1, (.pointer (some ⟨b2, 0, none⟩))), (3, v29), (7, (.int .i64 (List.length x0.2.1 : Int))), (8, (.int .i64 y16))] a → K24 a w25 := by
          intro l28 v29 F30 w25 hF hB26 hS27
          subst hk31
          refine fun a ha => hK24 _ _ ?_ a ha
          refine W.region ?_
          refine wl_add rfl rfl rfl ?_
          refine wl_move rfl rfl ?_
          refine WL.nil ?_
          rw [hnx17] at hF
          exact fun a ha => hKL19 a _ m20 (Nat.lt_succ_self m20) ⟨l28, (w64 (y16 + 1)), v29, F30, ha.sub ⟨rfl, rfl, rfl, rfl, trivial⟩, hB26, (hS27.sel [0, 1] rfl), hF⟩
        refine W.block ?_
        refine W.seq fun K33 hK33 => ?_
        refine W.region ?_
        refine wl_move rfl rfl ?_
        refine wl_assign rfl rfl ?_
        refine WL.nil ?_
        refine fun a ha => hK33 _ _ ?_ a ha
        refine W.seq fun K34 hK34 => ?_
        refine W.regionH mixed_ [] hB11 hS12 ?_
        intro w35 hb36 hB37 hS38
        have hSW39 := KeepX.refl w35 []
        refine WH.takex (i := 0) rfl (by kernel_rfl) (by kernel_rfl) (by kernel_rfl) hP hSW39 ?_
        refine pr_load_blk (i := 0) (vs := [v0_0, v0_1, (.int .i64 x0.2.2.1), (.int .i64 x0.2.2.2)]) (v := (.agg #[v0_0, v0_1, (.int .i64 x0.2.2.1), (.int .i64 x0.2.2.2)])) tf_31 rfl rfl hS38 rfl rfl rfl (by simp) ?_
        refine WH.takex (i := 1) rfl (by kernel_rfl) (by kernel_rfl) (by kernel_rfl) hP hSW39 ?_
        refine pr_move rfl rfl ?_
        refine WH.takex (i := 4) rfl (by kernel_rfl) (by kernel_rfl) (by kernel_rfl) hP hSW39 ?_
        refine pr_load_blk (i := 0) (vs := [v0_0, v0_1, (.int .i64 x0.2.2.1), (.int .i64 x0.2.2.2)]) (v := (.agg #[v0_0, v0_1, (.int .i64 x0.2.2.1), (.int .i64 x0.2.2.2)])) tf_31 rfl rfl hS38 rfl rfl rfl (by simp) ?_
        refine WH.takex (i := 5) rfl (by kernel_rfl) (by kernel_rfl) (by kernel_rfl) hP hSW39 ?_
        refine pr_move rfl rfl ?_
        refine WH.one (i := 2) (by kernel_rfl) rfl ?_
        obtain ⟨u40, hu40, hF⟩ := bindE hF
        refine wl_call rfl Try.call79 (C_spec_swClose w35 x0 v0_0 (h0_0.ro hB37) v0_1 (h0_1.ro hB37) y16 _ hu40) rfl ?_
        rintro _ w43 ⟨v41, F42, rfl, hb44, hM47⟩
        refine ⟨_, rfl, ?_⟩
        have hB45 := hB37.trans (hb44.mono hB37.size)
        have hS46 := hS38.join hb44 hM47 hB37.size
        have hSW48 := hSW39.ext hb44
        refine WL.nil (WH.ret hSW48 ?_)
        refine WH.takex (i := 3) rfl (by kernel_rfl) (by kernel_rfl) (by kernel_rfl) hP hSW48 ?_
        refine pr_lenr (e := ty_23) (l := u40) Try.underlying39 rfl rfl (hS46.own_ro (i := 0) rfl) ?_
        refine WH.one (i := 6) (by kernel_rfl) rfl ?_
        obtain ⟨u49, hu49, hF⟩ := bindE hF
        refine wl_call rfl Try.call111 (C_spec_swWide w43 x0 v0_0 (h0_0.ro hB45) v0_1 (h0_1.ro hB45) y16 _ hu49) rfl ?_
        rintro _ w52 ⟨v50, F51, rfl, hb53, hM56⟩
        refine ⟨_, rfl, ?_⟩
        have hB54 := hB45.trans (hb53.mono hB45.size)
        have hS55 := hS46.join hb53 hM56 hB45.size
        have hSW57 := hSW48.ext hb53
        refine WL.nil (WH.ret hSW57 ?_)
        refine WH.takex (i := 7) rfl (by kernel_rfl) (by kernel_rfl) (by kernel_rfl) hP hSW57 ?_
        refine pr_lenr (e := ty_3) (l := u49) Try.underlying23 rfl rfl (hS55.own_ro (i := 0) rfl) ?_
        refine WH.takex (i := 8) rfl (by kernel_rfl) (by kernel_rfl) (by kernel_rfl) hP hSW57 ?_
        refine pr_add rfl rfl rfl ?_
        refine WH.takex (i := 9) rfl (by kernel_rfl) (by kernel_rfl) (by kernel_rfl) hP hSW57 ?_
        refine pr_gtr rfl rfl rfl ?_
        refine WH.done (by kernel_rfl) ?_
        refine fun a ha => hK34 _ _ ?_ a ha
        refine W.cond rfl (fun h58 => ?_) (fun h58 => ?_)
        · replace hF := ifP h58 hF
          refine W.region ?_
          refine wl_move rfl rfl ?_
          refine wl_move rfl rfl ?_
          refine wl_lit (vs := [(.int .i64 y16)]) (l := [y16]) fl_3 Try.underlying23 rfl rfl rfl rfl rfl rfl hB54 hS55 ?_
          intro v59 F60 w61 hb62 hB63 hS64
          obtain ⟨u65, hu65, hF⟩ := bindE hF
          refine wl_append (i := 4) (S := (· < w61.heap.size)) fl_3 Try.underlying23 rfl rfl rfl hB63 hS64 rfl (hS64.own_ro (i := 0) rfl) hu65 ?_
          intro v66 F67 w68 hk69 hB70 hS71
          refine wl_assign rfl rfl ?_
          refine WL.nil ?_
          exact fun a ha => hJ32 (u65) (v66) (F67) _ hF hB70 (hS71.sel [3, 4] rfl) a (ha.sub ⟨rfl, rfl, rfl, rfl, trivial⟩)
        · replace hF := ifN h58 hF
          refine W.skip ?_
          exact fun a ha => hJ32 (l13) (v14) (F15) _ hF hB54 (hS55.sel [2, 3] rfl) a (ha.sub ⟨rfl, rfl, rfl, rfl, trivial⟩)
      · replace hF := ifN h23 hF
        refine W.exit ?_
        refine fun a ha => hK8 _ _ ?_ a ha
        refine W.seq fun K72 hK72 => ?_
        refine W.region ?_
        refine wl_move rfl rfl ?_
        refine wl_assign rfl rfl ?_
        refine WL.nil ?_
        refine fun a ha => hK72 _ _ ?_ a ha
        refine W.ret ?_
        have hr := Option.some.inj hF
        subst hr
        exact rets (vs := [v14]) hQ rfl ⟨rv_tmp rfl, trivial⟩ ⟨v14, F15, rfl, hB11, hS12.sel [1] rfl⟩
theorem C_impl_withinStep (w0 : World) (x0 : ((Int × Int) × (Int × Int) × Int)) (x1 : Int) (r : Bool) (hF : F_impl_withinStep x0 x1 = some r) :
    Calls Try.prog 147 [(.agg #[(.int .i64 x0.1.1), (.int .i64 x0.1.2), (.int .i64 x0.2.1.1), (.int .i64 x0.2.1.2), (.int .i64 x0.2.2)]), (.int .i64 x1)].toArray w0 fun e w' => e = .returned (.bool r) ∧ Below w0.heap.size w0 w' := by
  refine calls_mk' Try.func147 rfl Try.ntmps147 rfl rfl fun Q hQ hP => ?_
  have hB : Below w0.heap.size w0 w0 := Below.refl _ _
  have hS : Sep w0.heap.size w0 [] := Sep.nil _ _
  unfold F_impl_withinStep at hF
  refine W.seq fun K1 hK1 => ?_
  refine W.region ?_
  refine wl_box (cs := [(.int .i64 x0.1.1), (.int .i64 x0.1.2), (.int .i64 x0.2.1.1), (.int .i64 x0.2.1.2), (.int .i64 x0.2.2)]) rfl rfl rfl hB hS ?_
  intro b2 w3 hb4 hB5 hS6
  refine wl_assign rfl rfl ?_
  refine WL.nil ?_
  refine fun a ha => hK1 _ _ ?_ a ha
  refine W.seq fun K7 hK7 => ?_
  refine W.regionH mixed_ [] hB5 hS6 ?_
  intro w8 hb9 hB10 hS11
  have hSW12 := KeepX.refl w8 []
  refine WH.takex (i := 0) rfl (by kernel_rfl) (by kernel_rfl) (by kernel_rfl) hP hSW12 ?_
  refine pr_field (o := 0) (off' := 0) ff_96_0 rfl rfl rfl ?_
  refine WH.takex (i := 1) rfl (by kernel_rfl) (by kernel_rfl) (by kernel_rfl) hP hSW12 ?_
  refine pr_load_blk (i := 0) (vs := [(.int .i64 x0.1.1), (.int .i64 x0.1.2)]) (v := (.agg #[(.int .i64 x0.1.1), (.int .i64 x0.1.2)])) tf_54 rfl rfl hS11 rfl rfl rfl (by simp) ?_
  refine WH.takex (i := 2) rfl (by kernel_rfl) (by kernel_rfl) (by kernel_rfl) hP hSW12 ?_
  refine pr_field (o := 2) (off' := 2) ff_96_1 rfl rfl rfl ?_
  refine WH.takex (i := 3) rfl (by kernel_rfl) (by kernel_rfl) (by kernel_rfl) hP hSW12 ?_
  refine pr_load_blk (i := 0) (vs := [(.int .i64 x0.2.1.1), (.int .i64 x0.2.1.2)]) (v := (.agg #[(.int .i64 x0.2.1.1), (.int .i64 x0.2.1.2)])) tf_54 rfl rfl hS11 rfl rfl rfl (by simp) ?_
  refine WH.takex (i := 5) rfl (by kernel_rfl) (by kernel_rfl) (by kernel_rfl) hP hSW12 ?_
  refine pr_move rfl rfl ?_
  refine WH.takex (i := 6) rfl (by kernel_rfl) (by kernel_rfl) (by kernel_rfl) hP hSW12 ?_
  refine pr_move rfl rfl ?_
  refine WH.takex (i := 7) rfl (by kernel_rfl) (by kernel_rfl) (by kernel_rfl) hP hSW12 ?_
  refine pr_mul rfl rfl rfl ?_
  refine WH.takex (i := 8) rfl (by kernel_rfl) (by kernel_rfl) (by kernel_rfl) hP hSW12 ?_
  refine pr_field (o := 4) (off' := 4) ff_96_2 rfl rfl rfl ?_
  refine WH.takex (i := 9) rfl (by kernel_rfl) (by kernel_rfl) (by kernel_rfl) hP hSW12 ?_
  refine pr_load_blk (i := 0) (vs := [(.int .i64 x0.2.2)]) (v := (.int .i64 x0.2.2)) tf_3 rfl rfl hS11 rfl rfl rfl (by simp) ?_
  refine WH.takex (i := 10) rfl (by kernel_rfl) (by kernel_rfl) (by kernel_rfl) hP hSW12 ?_
  refine pr_mul rfl rfl rfl ?_
  refine WH.takex (i := 11) rfl (by kernel_rfl) (by kernel_rfl) (by kernel_rfl) hP hSW12 ?_
  refine pr_field (o := 4) (off' := 4) ff_96_2 rfl rfl rfl ?_
  refine WH.takex (i := 12) rfl (by kernel_rfl) (by kernel_rfl) (by kernel_rfl) hP hSW12 ?_
  refine pr_load_blk (i := 0) (vs := [(.int .i64 x0.2.2)]) (v := (.int .i64 x0.2.2)) tf_3 rfl rfl hS11 rfl rfl rfl (by simp) ?_
  refine WH.takex (i := 13) rfl (by kernel_rfl) (by kernel_rfl) (by kernel_rfl) hP hSW12 ?_
  refine pr_mul rfl rfl rfl ?_
  refine WH.one (i := 4) (by kernel_rfl) rfl ?_
  obtain ⟨u13, hu13, hF⟩ := bindE hF
  refine wl_call rfl Try.call99 (C_impl_squareOf w8 x0.1 x0.2.1 _ hu13) rfl ?_
  rintro _ w14 ⟨rfl, hb15⟩
  refine ⟨_, rfl, ?_⟩
  have hB16 := hB10.trans (hb15.mono hB10.size)
  have hS17 := hS11.below hb15
  have hSW19 := hSW12.ext hb15
  refine WL.nil (WH.ret hSW19 ?_)
  refine WH.takex (i := 14) rfl (by kernel_rfl) (by kernel_rfl) (by kernel_rfl) hP hSW19 ?_
  refine pr_leq rfl rfl rfl ?_
  refine WH.takex (i := 15) rfl (by kernel_rfl) (by kernel_rfl) (by kernel_rfl) hP hSW19 ?_
  refine pr_assign rfl rfl ?_
  refine WH.done (by kernel_rfl) ?_
  refine fun a ha => hK7 _ _ ?_ a ha
  refine W.ret ?_
  have hr := Option.some.inj hF
  subst hr
  exact rets (vs := [(.bool (decide (u13 ≤ (w64 ((w64 ((w64 (x1 * x1)) * x0.2.2)) * x0.2.2)))))]) hQ rfl ⟨rv_tmp rfl, trivial⟩ ⟨rfl, hB16⟩
theorem C_impl_wideSteps (w0 : World) (x0 : ((List (List (Int × Int))) × (List Int) × Int × Int)) (v0_0 : Value) (h0_0 : rdS ty_70 (· < w0.heap.size) w0 v0_0 x0.1) (v0_1 : Value) (h0_1 : rdS ty_3 (· < w0.heap.size) w0 v0_1 x0.2.1) (x1 : Int) (r : (List Int)) (hF : F_impl_wideSteps x0 x1 = some r) :
    Calls Try.prog 116 [(.agg #[v0_0, v0_1, (.int .i64 x0.2.2.1), (.int .i64 x0.2.2.2)]), (.int .i64 x1)].toArray w0 fun e w' => ∃ (q0 : Value) (G0 : List Nat), e = .returned q0 ∧ Below w0.heap.size w0 w' ∧ Sep w0.heap.size w' [R.own ty_3 G0 q0 r] := by
  refine calls_mk' Try.func116 rfl Try.ntmps116 rfl rfl fun Q hQ hP => ?_
  have hB : Below w0.heap.size w0 w0 := Below.refl _ _
  have hS : Sep w0.heap.size w0 [] := Sep.nil _ _
  unfold F_impl_wideSteps at hF
  refine W.seq fun K1 hK1 => ?_
  refine W.region ?_
  refine wl_box (cs := [v0_0, v0_1, (.int .i64 x0.2.2.1), (.int .i64 x0.2.2.2)]) rfl rfl rfl hB hS ?_
  intro b2 w3 hb4 hB5 hS6
  refine wl_assign rfl rfl ?_
  refine WL.nil ?_
  refine fun a ha => hK1 _ _ ?_ a ha
  refine W.seq fun K7 hK7 => ?_
  refine W.region ?_
  refine wl_lit (vs := []) (l := []) fl_3 Try.underlying23 rfl rfl rfl rfl rfl rfl hB5 hS6 ?_
  intro v8 F9 w10 hb11 hB12 hS13
  refine wl_assign rfl rfl ?_
  refine WL.nil ?_
  refine fun a ha => hK7 _ _ ?_ a ha
  refine W.seq fun K14 hK14 => ?_
  refine W.seq fun K15 hK15 => ?_
  refine W.region ?_
  refine wl_load_blk (i := 1) (vs := [v0_0, v0_1, (.int .i64 x0.2.2.1), (.int .i64 x0.2.2.2)]) (v := (.agg #[v0_0, v0_1, (.int .i64 x0.2.2.1), (.int .i64 x0.2.2.2)])) tf_31 rfl rfl hS13 rfl rfl rfl ?_
  refine wl_move rfl rfl ?_
  obtain ⟨u16, hu16, hF⟩ := bindE hF
  refine wl_call rfl Try.call70 (C_impl_showMoves w10 x0 v0_0 (h0_0.ro hB12) v0_1 (h0_1.ro hB12) x1 _ hu16) rfl ?_
  rintro _ w19 ⟨v17, F18, rfl, hb20, hM23⟩
  refine ⟨_, rfl, ?_⟩
  have hB21 := hB12.trans (hb20.mono hB12.size)
  have hS22 := hS13.join hb20 hM23 hB12.size
  refine wl_lenr (e := ty_96) (l := u16) Try.underlying87 rfl rfl (hS22.own_ro (i := 0) rfl) ?_
  refine wl_move rfl rfl ?_
  refine WL.nil ?_
  refine fun a ha => hK15 _ _ ?_ a ha
  refine W.block ?_
  refine W.loopk (fun m a w24 => ∃ (l27 : (List Int)) (y30 : Int) (v28 : Value) (F29 : List Nat), St 29 [(2, (.pointer (some ⟨b2, 0, none⟩))), (5, v28), (11, v17), (12, (.int .i64 (List.length u16 : Int))), (13, (.int .i64 y30))] a ∧ Below w0.heap.size w0 w24 ∧ Sep w0.heap.size w24 [R.blk b2 31 [v0_0, v0_1, (.int .i64 x0.2.2.1), (.int .i64 x0.2.2.2)], R.own ty_3 F29 v28 l27, R.own ty_96 F18 v17 u16] ∧ F_impl_wideSteps_L1 u16 x0 m l27 y30 = some r) FU ?_ ?_
  ·
    exact fun a ha => ⟨[], 0, v8, F9, ha.sub ⟨rfl, rfl, rfl, rfl, rfl, trivial⟩, hB21, (hS22.sel [2, 1, 0] rfl), hF⟩
  ·
    rintro m33 a w24 ⟨l27, y30, v28, F29, ha, hB25, hS26, hF⟩ KL32 hKL32
    refine W.at ?_ ha
    cases m33 with
    | zero => exact noneE hF
    | succ m33 =>
      obtain ⟨nx31, hnx31⟩ : ∃ k, k = F_impl_wideSteps_L1 u16 x0 m33 := ⟨_, rfl⟩
      rw [F_impl_wideSteps_L1, ← hnx31] at hF
      refine W.seq fun K34 hK34 => ?_
      refine W.region ?_
      refine wl_lss rfl rfl rfl ?_
      refine WL.nil ?_
      refine fun a ha => hK34 _ _ ?_ a ha
      refine W.seq fun K35 hK35 => ?_
      refine W.cond rfl (fun h36 => ?_) (fun h36 => ?_)
      · replace hF := ifP h36 hF
        refine W.skip ?_
        refine fun a ha => hK35 _ _ ?_ a ha
        refine W.seq fun K37 hK37 => ?_
        obtain ⟨k44, hk44, hF⟩ := jE1 hF
        have hJ45 : ∀ (l41 : (List Int)) (v42 : Value) (F43 : List Nat) (w38 : World) (_ : k44 l41 = some r) (_ : Below w0.heap.size w0 w38) (_ : Sep w0.heap.size w38 [R.blk b2 31 [v0_0, v0_1, (.int .i64 x0.2.2.1), (.int .i64 x0.2.2.2)], R.own ty_3 F43 v42 l41, R.own ty_96 F18 v17 u16]), ∀ a, St 29 [(2, (.pointer (some ⟨b2, 0, none⟩))), (5, v42), (11, v17), (12, (.int .i64 (List.length u16 : Int))), (13, (.int .i64 y30))] a → K37 a w38 := by
          intro l41 v42 F43 w38 hF hB39 hS40
          subst hk44
          refine fun a ha => hK37 _ _ ?_ a ha
          refine W.region ?_
          refine wl_add rfl rfl rfl ?_
          refine wl_move rfl rfl ?_
          refine WL.nil ?_
          rw [hnx31] at hF
          exact fun a ha => hKL32 a _ m33 (Nat.lt_succ_self m33) ⟨l41, (w64 (y30 + 1)), v42, F43, ha.sub ⟨rfl, rfl, rfl, rfl, rfl, trivial⟩, hB39, (hS40.sel [0, 1, 2] rfl), hF⟩
        refine W.block ?_
        refine W.seq fun K46 hK46 => ?_
        refine W.region ?_
        refine wl_move rfl rfl ?_
        obtain ⟨u47, hu47, hF⟩ := bindE hF
        refine wl_indexo (e := ty_96) (i := 2) Try.underlying87 rfl rfl rfl hS26 rfl hu47 ?_
        rintro p48 _ rfl hp49 ho50
        refine wl_load_p (vs := [(.int .i64 u47.1.1), (.int .i64 u47.1.2), (.int .i64 u47.2.1.1), (.int .i64 u47.2.1.2), (.int .i64 u47.2.2)]) (v := (.agg #[(.int .i64 u47.1.1), (.int .i64 u47.1.2), (.int .i64 u47.2.1.1), (.int .i64 u47.2.1.2), (.int .i64 u47.2.2)])) tf_96 rfl rfl hp49 rfl rfl ?_
        refine wl_alloc (cs := [(.int .i64 0), (.int .i64 0), (.int .i64 0), (.int .i64 0), (.int .i64 0)]) tf_96 rfl rfl hB25 hS26 ?_
        intro b51 w52 hb53 hB54 hS55
        refine wl_assign rfl rfl ?_
        refine wl_store_blk (i := 0) (vs := [(.int .i64 u47.1.1), (.int .i64 u47.1.2), (.int .i64 u47.2.1.1), (.int .i64 u47.2.1.2), (.int .i64 u47.2.2)]) (cs' := [(.int .i64 u47.1.1), (.int .i64 u47.1.2), (.int .i64 u47.2.1.1), (.int .i64 u47.2.1.2), (.int .i64 u47.2.2)]) tf_96 rfl rfl rfl rfl hB54 hS55 rfl rfl ⟨rfl, rfl, rfl, rfl, rfl, trivial⟩ rfl ?_
        intro w56 hk59 hB57 hS58
        refine WL.nil ?_
        refine fun a ha => hK46 _ _ ?_ a ha
        refine W.seq fun K60 hK60 => ?_
        refine W.region ?_
        refine wl_load_blk (i := 0) (vs := [(.int .i64 u47.1.1), (.int .i64 u47.1.2), (.int .i64 u47.2.1.1), (.int .i64 u47.2.1.2), (.int .i64 u47.2.2)]) (v := (.agg #[(.int .i64 u47.1.1), (.int .i64 u47.1.2), (.int .i64 u47.2.1.1), (.int .i64 u47.2.1.2), (.int .i64 u47.2.2)])) tf_96 rfl rfl hS58 rfl rfl rfl ?_
        refine wl_field (o := 3) (off' := 3) ff_31_3 rfl rfl rfl ?_
        refine wl_load_blk (i := 1) (vs := [(.int .i64 x0.2.2.2)]) (v := (.int .i64 x0.2.2.2)) tf_3 rfl rfl hS58 rfl rfl rfl ?_
        obtain ⟨u61, hu61, hF⟩ := bindE hF
        refine wl_call rfl Try.call147 (C_impl_withinStep w56 u47 x0.2.2.2 _ hu61) rfl ?_
        rintro _ w62 ⟨rfl, hb63⟩
        refine ⟨_, rfl, ?_⟩
        have hB64 := hB57.trans (hb63.mono hB57.size)
        have hS65 := hS58.below hb63
        refine wl_not rfl rfl ?_
        refine WL.nil ?_
        refine fun a ha => hK60 _ _ ?_ a ha
        refine W.cond rfl (fun h67 => ?_) (fun h67 => ?_)
        · replace hF := ifP h67 hF
          refine W.region ?_
          refine wl_move rfl rfl ?_
          refine wl_move rfl rfl ?_
          refine wl_lit (vs := [(.int .i64 y30)]) (l := [y30]) fl_3 Try.underlying23 rfl rfl rfl rfl rfl rfl hB64 hS65 ?_
          intro v68 F69 w70 hb71 hB72 hS73
          obtain ⟨u74, hu74, hF⟩ := bindE hF
          refine wl_append (i := 3) (S := (· < w70.heap.size)) fl_3 Try.underlying23 rfl rfl rfl hB72 hS73 rfl (hS73.own_ro (i := 0) rfl) hu74 ?_
          intro v75 F76 w77 hk78 hB79 hS80
          refine wl_assign rfl rfl ?_
          refine WL.nil ?_
          exact fun a ha => hJ45 (u74) (v75) (F76) _ hF hB79 (hS80.sel [2, 3, 4] rfl) a (ha.sub ⟨rfl, rfl, rfl, rfl, rfl, trivial⟩)
        · replace hF := ifN h67 hF
          refine W.skip ?_
          exact fun a ha => hJ45 (l27) (v28) (F29) _ hF hB64 (hS65.sel [1, 2, 3] rfl) a (ha.sub ⟨rfl, rfl, rfl, rfl, rfl, trivial⟩)
      · replace hF := ifN h36 hF
        refine W.exit ?_
        refine fun a ha => hK14 _ _ ?_ a ha
        refine W.seq fun K81 hK81 => ?_
        refine W.region ?_
        refine wl_move rfl rfl ?_
        refine wl_assign rfl rfl ?_
        refine WL.nil ?_
        refine fun a ha => hK81 _ _ ?_ a ha
        refine W.ret ?_
        have hr := Option.some.inj hF
        subst hr
        exact rets (vs := [v28]) hQ rfl ⟨rv_tmp rfl, trivial⟩ ⟨v28, F29, rfl, hB25, hS26.sel [1] rfl⟩
theorem C_impl_unsafParts (w0 : World) (x0 : ((List (List (Int × Int))) × (List Int) × Int × Int)) (v0_0 : Value) (h0_0 : rdS ty_70 (· < w0.heap.size) w0 v0_0 x0.1) (v0_1 : Value) (h0_1 : rdS ty_3 (· < w0.heap.size) w0 v0_1 x0.2.1) (r : (List Int)) (hF : F_impl_unsafParts x0 = some r) :
    Calls Try.prog 68 [(.agg #[v0_0, v0_1, (.int .i64 x0.2.2.1), (.int .i64 x0.2.2.2)])].toArray w0 fun e w' => ∃ (q0 : Value) (G0 : List Nat), e = .returned q0 ∧ Below w0.heap.size w0 w' ∧ Sep w0.heap.size w' [R.own ty_3 G0 q0 r] := by
  refine calls_mk' Try.func68 rfl Try.ntmps68 rfl rfl fun Q hQ hP => ?_
  have hB : Below w0.heap.size w0 w0 := Below.refl _ _
  have hS : Sep w0.heap.size w0 [] := Sep.nil _ _
  unfold F_impl_unsafParts at hF
  refine W.seq fun K1 hK1 => ?_
  refine W.region ?_
  refine wl_box (cs := [v0_0, v0_1, (.int .i64 x0.2.2.1), (.int .i64 x0.2.2.2)]) rfl rfl rfl hB hS ?_
  intro b2 w3 hb4 hB5 hS6
  refine wl_assign rfl rfl ?_
  refine WL.nil ?_
  refine fun a ha => hK1 _ _ ?_ a ha
  refine W.seq fun K7 hK7 => ?_
  refine W.region ?_
  refine wl_lit (vs := []) (l := []) fl_3 Try.underlying23 rfl rfl rfl rfl rfl rfl hB5 hS6 ?_
  intro v8 F9 w10 hb11 hB12 hS13
  refine wl_assign rfl rfl ?_
  refine WL.nil ?_
  refine fun a ha => hK7 _ _ ?_ a ha
  refine W.seq fun K14 hK14 => ?_
  refine W.seq fun K15 hK15 => ?_
  refine W.region ?_
  refine wl_field (o := 1) (off' := 1) ff_31_1 rfl rfl rfl ?_
  refine wl_load_blk (i := 1) (vs := [v0_1]) (v := v0_1) tf_23 rfl rfl hS13 rfl rfl rfl ?_
  refine wl_lenr (e := ty_3) (l := x0.2.1) Try.underlying23 rfl rfl h0_1 ?_
  refine wl_move rfl rfl ?_
  refine WL.nil ?_
  refine fun a ha => hK15 _ _ ?_ a ha
  refine W.block ?_
  refine W.loopk (fun m a w16 => ∃ (l19 : (List Int)) (y22 : Int) (v20 : Value) (F21 : List Nat), St 33 [(1, (.pointer (some ⟨b2, 0, none⟩))), (3, v20), (8, (.int .i64 (List.length x0.2.1 : Int))), (9, (.int .i64 y22))] a ∧ Below w0.heap.size w0 w16 ∧ Sep w0.heap.size w16 [R.blk b2 31 [v0_0, v0_1, (.int .i64 x0.2.2.1), (.int .i64 x0.2.2.2)], R.own ty_3 F21 v20 l19] ∧ F_impl_unsafParts_L1 x0 m l19 y22 = some r) FU ?_ ?_
  ·
    exact fun a ha => ⟨[], 0, v8, F9, ha.sub ⟨rfl, rfl, rfl, rfl, trivial⟩, hB12, (hS13.sel [1, 0] rfl), hF⟩
  ·
    rintro m25 a w16 ⟨l19, y22, v20, F21, ha, hB17, hS18, hF⟩ KL24 hKL24
    refine W.at ?_ ha
    cases m25 with
    | zero => exact noneE hF
    | succ m25 =>
      obtain ⟨nx23, hnx23⟩ : ∃ k, k = F_impl_unsafParts_L1 x0 m25 := ⟨_, rfl⟩
      rw [F_impl_unsafParts_L1, ← hnx23] at hF
      refine W.seq fun K26 hK26 => ?_
      refine W.region ?_
      refine wl_lss rfl rfl rfl ?_
      refine WL.nil ?_
      refine fun a ha => hK26 _ _ ?_ a ha
      refine W.seq fun K27 hK27 => ?_
      refine W.cond rfl (fun h28 => ?_) (fun h28 => ?_)
      · replace hF := ifP h28 hF
        refine W.skip ?_
        refine fun a ha => hK27 _ _ ?_ a ha
        refine W.seq fun K29 hK29 => ?_
        obtain ⟨k36, hk36, hF⟩ := jE1 hF
        have hJ37 : ∀ (l33 : (List Int)) (v34 : Value) (F35 : List Nat) (w30 : World) (_ : k36 l33 = some r) (_ : Below w0.heap.size w0 w30) (_ : Sep w0.heap.size w30 [R.blk b2 31 [v0_0, v0_1, (.int .i64 x0.2.2.1), (.int .i64 x0.2.2.2)], R.own ty_3 F35 v34 l33]), ∀ a, St 33 [(1, (.pointer (some ⟨b2, 0, none⟩))), (3, v34), (8, (.int .i64 (List.length x0.2.1 : Int))), (9, (.int .i64 y22))] a → K29 a w30 := by
          intro l33 v34 F35 w30 hF hB31 hS32
          subst hk36
          refine fun a ha => hK29 _ _ ?_ a ha
          refine W.region ?_
          refine wl_add rfl rfl rfl ?_
          refine wl_move rfl rfl ?_
          refine WL.nil ?_
          rw [hnx23] at hF
          exact fun a ha => hKL24 a _ m25 (Nat.lt_succ_self m25) ⟨l33, (w64 (y22 + 1)), v34, F35, ha.sub ⟨rfl, rfl, rfl, rfl, trivial⟩, hB31, (hS32.sel [0, 1] rfl), hF⟩
        refine W.block ?_
        refine W.seq fun K38 hK38 => ?_
        refine W.region ?_
        refine wl_move rfl rfl ?_
        refine wl_assign rfl rfl ?_
        refine WL.nil ?_
        refine fun a ha => hK38 _ _ ?_ a ha
        refine W.seq fun K39 hK39 => ?_
        obtain ⟨k44, hk44, hF⟩ := jE1 hF
        have hJ45 : ∀ (y43 : Bool) (w40 : World) (_ : k44 y43 = some r) (_ : Below w0.heap.size w0 w40) (_ : Sep w0.heap.size w40 [R.blk b2 31 [v0_0, v0_1, (.int .i64 x0.2.2.1), (.int .i64 x0.2.2.2)], R.own ty_3 F21 v20 l19]), ∀ a, St 33 [(1, (.pointer (some ⟨b2, 0, none⟩))), (3, v20), (4, (.int .i64 y22)), (8, (.int .i64 (List.length x0.2.1 : Int))), (9, (.int .i64 y22)), (26, (.bool y43))] a → K39 a w40 := by
          intro y43 w40 hF hB41 hS42
          subst hk44
          refine fun a ha => hK39 _ _ ?_ a ha
          refine W.cond rfl (fun h46 => ?_) (fun h46 => ?_)
          · replace hF := ifP h46 hF
            refine W.region ?_
            refine wl_move rfl rfl ?_
            refine wl_move rfl rfl ?_
            refine wl_lit (vs := [(.int .i64 y22)]) (l := [y22]) fl_3 Try.underlying23 rfl rfl rfl rfl rfl rfl hB41 hS42 ?_
            intro v47 F48 w49 hb50 hB51 hS52
            obtain ⟨u53, hu53, hF⟩ := bindE hF
            refine wl_append (i := 2) (S := (· < w49.heap.size)) fl_3 Try.underlying23 rfl rfl rfl hB51 hS52 rfl (hS52.own_ro (i := 0) rfl) hu53 ?_
            intro v54 F55 w56 hk57 hB58 hS59
            refine wl_assign rfl rfl ?_
            refine WL.nil ?_
            exact fun a ha => hJ37 (u53) (v54) (F55) _ hF hB58 (hS59.sel [1, 2] rfl) a (ha.sub ⟨rfl, rfl, rfl, rfl, trivial⟩)
          · replace hF := ifN h46 hF
            refine W.skip ?_
            exact fun a ha => hJ37 (l19) (v20) (F21) _ hF hB41 (hS42.sel [0, 1] rfl) a (ha.sub ⟨rfl, rfl, rfl, rfl, trivial⟩)
        refine W.regionH mixed_ [] hB17 hS18 ?_
        intro w60 hb61 hB62 hS63
        have hSW64 := KeepX.refl w60 []
        refine WH.takex (i := 0) rfl (by kernel_rfl) (by kernel_rfl) (by kernel_rfl) hP hSW64 ?_
        refine pr_load_blk (i := 0) (vs := [v0_0, v0_1, (.int .i64 x0.2.2.1), (.int .i64 x0.2.2.2)]) (v := (.agg #[v0_0, v0_1, (.int .i64 x0.2.2.1), (.int .i64 x0.2.2.2)])) tf_31 rfl rfl hS63 rfl rfl rfl (by simp) ?_
        refine WH.takex (i := 1) rfl (by kernel_rfl) (by kernel_rfl) (by kernel_rfl) hP hSW64 ?_
        refine pr_move rfl rfl ?_
        refine WH.one (i := 2) (by kernel_rfl) rfl ?_
        obtain ⟨u65, hu65, hF⟩ := bindE hF
        refine wl_call rfl Try.call116 (C_impl_wideSteps w60 x0 v0_0 (h0_0.ro hB62) v0_1 (h0_1.ro hB62) y22 _ hu65) rfl ?_
        rintro _ w68 ⟨v66, F67, rfl, hb69, hM72⟩
        refine ⟨_, rfl, ?_⟩
        have hB70 := hB62.trans (hb69.mono hB62.size)
        have hS71 := hS63.join hb69 hM72 hB62.size
        have hSW73 := hSW64.ext hb69
        refine WL.nil (WH.ret hSW73 ?_)
        refine WH.takex (i := 3) rfl (by kernel_rfl) (by kernel_rfl) (by kernel_rfl) hP hSW73 ?_
        refine pr_lenr (e := ty_3) (l := u65) Try.underlying23 rfl rfl (hS71.own_ro (i := 0) rfl) ?_
        refine WH.takex (i := 4) rfl (by kernel_rfl) (by kernel_rfl) (by kernel_rfl) hP hSW73 ?_
        refine pr_gtr rfl rfl rfl ?_
        refine WH.takex (i := 5) rfl (by kernel_rfl) (by kernel_rfl) (by kernel_rfl) hP hSW73 ?_
        refine pr_move rfl rfl ?_
        rcases bE (decide (0 < (List.length u65 : Int))) with h74 | h74
        · replace hF := ifP h74 hF
          refine WH.off (i := 6) rfl (by kernel_rfl) (by kernel_rfl) (by kernel_rfl) hP rfl rfl h74 rfl hSW73 ?_
          refine WH.off (i := 7) rfl (by kernel_rfl) (by kernel_rfl) (by kernel_rfl) hP rfl rfl h74 rfl hSW73 ?_
          refine WH.off (i := 8) rfl (by kernel_rfl) (by kernel_rfl) (by kernel_rfl) hP rfl rfl h74 rfl hSW73 ?_
          refine WH.off (i := 9) rfl (by kernel_rfl) (by kernel_rfl) (by kernel_rfl) hP rfl rfl h74 rfl hSW73 ?_
          refine WH.off (i := 10) rfl (by kernel_rfl) (by kernel_rfl) (by kernel_rfl) hP rfl rfl h74 rfl hSW73 ?_
          refine WH.off (i := 11) rfl (by kernel_rfl) (by kernel_rfl) (by kernel_rfl) hP rfl rfl h74 rfl hSW73 ?_
          refine WH.off (i := 12) rfl (by kernel_rfl) (by kernel_rfl) (by kernel_rfl) hP rfl rfl h74 rfl hSW73 ?_
          refine WH.off (i := 13) rfl (by kernel_rfl) (by kernel_rfl) (by kernel_rfl) hP rfl rfl h74 rfl hSW73 ?_
          refine WH.takex (i := 14) rfl (by kernel_rfl) (by kernel_rfl) (by kernel_rfl) hP hSW73 ?_
          refine pr_pick_t rfl rfl h74 rfl ?_
          refine WH.done (by kernel_rfl) ?_
          exact fun a ha => hJ45 (true) _ hF hB70 (hS71.sel [1, 2] rfl) a (ha.sub ⟨rfl, rfl, rfl, rfl, rfl, rfl, trivial⟩)
        · replace hF := ifN h74 hF
          refine WH.takexg (i := 6) rfl (by kernel_rfl) (by kernel_rfl) (by kernel_rfl) hP rfl rfl h74 hSW73 ?_
          refine pr_load_blk (i := 0) (vs := [v0_0, v0_1, (.int .i64 x0.2.2.1), (.int .i64 x0.2.2.2)]) (v := (.agg #[v0_0, v0_1, (.int .i64 x0.2.2.1), (.int .i64 x0.2.2.2)])) tf_31 rfl rfl hS63 rfl rfl rfl (by simp) ?_
          refine WH.takexg (i := 7) rfl (by kernel_rfl) (by kernel_rfl) (by kernel_rfl) hP rfl rfl h74 hSW73 ?_
          refine pr_move rfl rfl ?_
          refine WH.takexg (i := 9) rfl (by kernel_rfl) (by kernel_rfl) (by kernel_rfl) hP rfl rfl h74 hSW73 ?_
          refine pr_field (o := 2) (off' := 2) ff_31_2 rfl rfl rfl ?_
          refine WH.takexg (i := 10) rfl (by kernel_rfl) (by kernel_rfl) (by kernel_rfl) hP rfl rfl h74 hSW73 ?_
          refine pr_load_blk (i := 0) (vs := [(.int .i64 x0.2.2.1)]) (v := (.int .i64 x0.2.2.1)) tf_3 rfl rfl hS63 rfl rfl rfl (by simp) ?_
          refine WH.one (i := 8) (by kernel_rfl) rfl ?_
          refine wl_on rfl rfl h74 ?_
          obtain ⟨u75, hu75, hF⟩ := bindE hF
          refine wl_call rfl Try.call70 (C_impl_showMoves w68 x0 v0_0 (h0_0.ro hB70) v0_1 (h0_1.ro hB70) y22 _ hu75) rfl ?_
          rintro _ w78 ⟨v76, F77, rfl, hb79, hM82⟩
          refine ⟨_, rfl, ?_⟩
          have hB80 := hB70.trans (hb79.mono hB70.size)
          have hS81 := hS71.join hb79 hM82 hB70.size
          have hSW83 := hSW73.ext hb79
          refine WL.nil (WH.ret hSW83 ?_)
          refine WH.one (i := 11) (by kernel_rfl) rfl ?_
          refine wl_on rfl rfl h74 ?_
          obtain ⟨u84, hu84, hF⟩ := bindE hF
          refine wl_call rfl Try.call71 (C_impl_pairsTooClose w78 u75 v76 (hS81.own_ro (i := 0) rfl) x0.2.2.1 _ hu84) rfl ?_
          rintro _ w87 ⟨v85, F86, rfl, hb88, hM91⟩
          refine ⟨_, rfl, ?_⟩
          have hB89 := hB80.trans (hb88.mono hB80.size)
          have hS90 := hS81.join hb88 hM91 hB80.size
          have hSW92 := hSW83.ext hb88
          refine WL.nil (WH.ret hSW92 ?_)
          refine WH.takexg (i := 12) rfl (by kernel_rfl) (by kernel_rfl) (by kernel_rfl) hP rfl rfl h74 hSW92 ?_
          refine pr_lenr (e := ty_23) (l := u84) Try.underlying39 rfl rfl (hS90.own_ro (i := 0) rfl) ?_
          refine WH.takexg (i := 13) rfl (by kernel_rfl) (by kernel_rfl) (by kernel_rfl) hP rfl rfl h74 hSW92 ?_
          refine pr_gtr rfl rfl rfl ?_
          refine WH.takex (i := 14) rfl (by kernel_rfl) (by kernel_rfl) (by kernel_rfl) hP hSW92 ?_
          refine pr_pick_f rfl rfl h74 rfl ?_
          refine WH.done (by kernel_rfl) ?_
          exact fun a ha => hJ45 ((decide (0 < (List.length u84 : Int)))) _ hF hB89 (hS90.sel [3, 4] rfl) a (ha.sub ⟨rfl, rfl, rfl, rfl, rfl, rfl, trivial⟩)
      · replace hF := ifN h28 hF
        refine W.exit ?_
        refine fun a ha => hK14 _ _ ?_ a ha
        refine W.seq fun K93 hK93 => ?_
        refine W.region ?_
        refine wl_move rfl rfl ?_
        refine wl_assign rfl rfl ?_
        refine WL.nil ?_
        refine fun a ha => hK93 _ _ ?_ a ha
        refine W.ret ?_
        have hr := Option.some.inj hF
        subst hr
        exact rets (vs := [v20]) hQ rfl ⟨rv_tmp rfl, trivial⟩ ⟨v20, F21, rfl, hB17, hS18.sel [1] rfl⟩
theorem C_laws_markSpotS (w0 : World) (x0 : (List (Int × Int))) (v0_0 : Value) (B0_0 : List Nat) (x1 : Int) (hS0 : Sep 0 w0 [R.own ty_54 B0_0 v0_0 x0]) (r : (Int × (List (Int × Int)))) (hF : F_laws_markSpotS x0 x1 = some r) :
    Calls Try.prog 52 [v0_0, (.int .i64 x1)].toArray w0 fun e w' => e = .returned (.int .i64 r.1) ∧ Below 0 (wE w0) w' ∧ Sep 0 w' [R.rest w0 (fps [R.own ty_54 B0_0 v0_0 x0]), R.own ty_54 B0_0 v0_0 r.2] := by
  refine calls_mk' Try.func52 rfl Try.ntmps52 rfl rfl fun Q hQ hP => ?_
  have hB : Below (wE w0).heap.size (wE w0) w0 := wE_below w0
  have hS : Sep (wE w0).heap.size w0 [R.rest w0 (fps [R.own ty_54 B0_0 v0_0 x0]), R.own ty_54 B0_0 v0_0 x0] := hS0.rest
  unfold F_laws_markSpotS at hF
  refine W.seq fun K1 hK1 => ?_
  refine W.region ?_
  refine wl_assign rfl rfl ?_
  refine WL.nil ?_
  refine fun a ha => hK1 _ _ ?_ a ha
  refine W.seq fun K2 hK2 => ?_
  refine W.seq fun K3 hK3 => ?_
  refine W.region ?_
  refine wl_assign rfl rfl ?_
  refine WL.nil ?_
  refine fun a ha => hK3 _ _ ?_ a ha
  refine W.block ?_
  refine W.loopk (fun m a w4 => ∃ (l7 : (List (Int × Int))) (y8 : Int) (y9 : Int), St 27 [(0, v0_0), (1, (.int .i64 y8)), (5, (.int .i64 y9))] a ∧ Below (wE w0).heap.size (wE w0) w4 ∧ Sep (wE w0).heap.size w4 [R.rest w0 (fps [R.own ty_54 B0_0 v0_0 x0]), R.own ty_54 B0_0 v0_0 l7] ∧ F_laws_markSpotS_L1 m l7 y8 y9 = some r) FU ?_ ?_
  ·
    exact fun a ha => ⟨x0, x1, 0, ha.sub ⟨rfl, rfl, rfl, trivial⟩, hB, (hS.sel [0, 1] rfl), hF⟩
  ·
    rintro m12 a w4 ⟨l7, y8, y9, ha, hB5, hS6, hF⟩ KL11 hKL11
    refine W.at ?_ ha
    cases m12 with
    | zero => exact noneE hF
    | succ m12 =>
      obtain ⟨nx10, hnx10⟩ : ∃ k, k = F_laws_markSpotS_L1 m12 := ⟨_, rfl⟩
      rw [F_laws_markSpotS_L1, ← hnx10] at hF
      refine W.seq fun K13 hK13 => ?_
      refine W.seq fun K14 hK14 => ?_
      refine W.region ?_
      refine wl_move rfl rfl ?_
      refine wl_move rfl rfl ?_
      refine wl_lenr (e := ty_54) (l := l7) Try.underlying70 rfl rfl (hS6.own_ro (i := 1) rfl) ?_
      refine wl_lss rfl rfl rfl ?_
      refine WL.nil ?_
      refine fun a ha => hK14 _ _ ?_ a ha
      refine W.cond rfl (fun h15 => ?_) (fun h15 => ?_)
      · replace hF := ifP h15 hF
        refine W.skip ?_
        refine fun a ha => hK13 _ _ ?_ a ha
        refine W.seq fun K16 hK16 => ?_
        refine W.block ?_
        refine W.seq fun K17 hK17 => ?_
        refine W.region ?_
        refine wl_move rfl rfl ?_
        refine wl_move rfl rfl ?_
        refine wl_move rfl rfl ?_
        obtain ⟨u18, hu18, hF⟩ := bindE hF
        refine wl_indexo (e := ty_54) (i := 1) Try.underlying70 rfl rfl rfl hS6 rfl hu18 ?_
        rintro p19 _ rfl hp20 ho21
        refine wl_fieldp (o := 0) ff_54_0 rfl rfl ?_
        refine wl_storeo (i := 1) (o := 0) (vs := [(.int .i64 y8)]) (u' := (y8, u18.2)) fl_54 tf_3 rfl rfl rfl rfl ho21 hu18 hB5 hS6 rfl rfl ⟨rfl, trivial⟩ rfl ?_
        intro w22 hk25 hB23 hS24
        refine WL.nil ?_
        refine fun a ha => hK17 _ _ ?_ a ha
        refine W.seq fun K26 hK26 => ?_
        refine W.region ?_
        refine wl_move rfl rfl ?_
        refine wl_add rfl rfl rfl ?_
        refine wl_assign rfl rfl ?_
        refine WL.nil ?_
        refine fun a ha => hK26 _ _ ?_ a ha
        refine W.seq fun K27 hK27 => ?_
        refine W.region ?_
        refine wl_move rfl rfl ?_
        refine wl_move rfl rfl ?_
        refine wl_move rfl rfl ?_
        obtain ⟨u28, hu28, hF⟩ := bindE hF
        refine wl_indexo (e := ty_54) (i := 1) Try.underlying70 rfl rfl rfl hS24 rfl hu28 ?_
        rintro p29 _ rfl hp30 ho31
        refine wl_fieldp (o := 1) ff_54_1 rfl rfl ?_
        refine wl_storeo (i := 1) (o := 1) (vs := [(.int .i64 (w64 (y8 + 1)))]) (u' := (u28.1, (w64 (y8 + 1)))) fl_54 tf_3 rfl rfl rfl rfl (ho31.add 1) hu28 hB23 hS24 rfl rfl ⟨rfl, trivial⟩ rfl ?_
        intro w32 hk35 hB33 hS34
        refine WL.nil ?_
        refine fun a ha => hK27 _ _ ?_ a ha
        refine W.region ?_
        refine wl_move rfl rfl ?_
        refine wl_add rfl rfl rfl ?_
        refine wl_assign rfl rfl ?_
        refine WL.nil ?_
        refine fun a ha => hK16 _ _ ?_ a ha
        refine W.region ?_
        refine wl_move rfl rfl ?_
        refine wl_add rfl rfl rfl ?_
        refine wl_assign rfl rfl ?_
        refine WL.nil ?_
        rw [hnx10] at hF
        exact fun a ha => hKL11 a _ m12 (Nat.lt_succ_self m12) ⟨(seti (seti l7 y9 (y8, u18.2)) y9 (u28.1, (w64 (y8 + 1)))), (w64 ((w64 (y8 + 1)) + 1)), (w64 (y9 + 1)), ha.sub ⟨rfl, rfl, rfl, trivial⟩, hB33, (hS34.sel [0, 1] rfl), hF⟩
      · replace hF := ifN h15 hF
        refine W.exit ?_
        refine fun a ha => hK2 _ _ ?_ a ha
        refine W.seq fun K36 hK36 => ?_
        refine W.region ?_
        refine wl_move rfl rfl ?_
        refine wl_assign rfl rfl ?_
        refine WL.nil ?_
        refine fun a ha => hK36 _ _ ?_ a ha
        refine W.ret ?_
        have hr := Option.some.inj hF
        subst hr
        exact rets (vs := [(.int .i64 y8)]) hQ rfl ⟨rv_tmp rfl, trivial⟩ ⟨rfl, hB5, hS6.sel [0, 1] rfl⟩
theorem C_laws_markSpotSS (w0 : World) (x0 : (List (List (Int × Int)))) (v0_0 : Value) (B0_0 : List Nat) (x1 : Int) (hS0 : Sep 0 w0 [R.own ty_70 B0_0 v0_0 x0]) (r : (Int × (List (List (Int × Int))))) (hF : F_laws_markSpotSS x0 x1 = some r) :
    Calls Try.prog 81 [v0_0, (.int .i64 x1)].toArray w0 fun e w' => e = .returned (.int .i64 r.1) ∧ Below 0 (wE w0) w' ∧ Sep 0 w' [R.rest w0 (fps [R.own ty_70 B0_0 v0_0 x0]), R.own ty_70 B0_0 v0_0 r.2] := by
  refine calls_mk' Try.func81 rfl Try.ntmps81 rfl rfl fun Q hQ hP => ?_
  have hB : Below (wE w0).heap.size (wE w0) w0 := wE_below w0
  have hS : Sep (wE w0).heap.size w0 [R.rest w0 (fps [R.own ty_70 B0_0 v0_0 x0]), R.own ty_70 B0_0 v0_0 x0] := hS0.rest
  unfold F_laws_markSpotSS at hF
  refine W.seq fun K1 hK1 => ?_
  refine W.region ?_
  refine wl_assign rfl rfl ?_
  refine WL.nil ?_
  refine fun a ha => hK1 _ _ ?_ a ha
  refine W.seq fun K2 hK2 => ?_
  refine W.seq fun K3 hK3 => ?_
  refine W.region ?_
  refine wl_assign rfl rfl ?_
  refine WL.nil ?_
  refine fun a ha => hK3 _ _ ?_ a ha
  refine W.block ?_
  refine W.loopk (fun m a w4 => ∃ (l7 : (List (List (Int × Int)))) (y8 : Int) (y9 : Int), St 19 [(0, v0_0), (1, (.int .i64 y8)), (5, (.int .i64 y9))] a ∧ Below (wE w0).heap.size (wE w0) w4 ∧ Sep (wE w0).heap.size w4 [R.rest w0 (fps [R.own ty_70 B0_0 v0_0 x0]), R.own ty_70 B0_0 v0_0 l7] ∧ F_laws_markSpotSS_L1 m l7 y8 y9 = some r) FU ?_ ?_
  ·
    exact fun a ha => ⟨x0, x1, 0, ha.sub ⟨rfl, rfl, rfl, trivial⟩, hB, (hS.sel [0, 1] rfl), hF⟩
  ·
    rintro m12 a w4 ⟨l7, y8, y9, ha, hB5, hS6, hF⟩ KL11 hKL11
    refine W.at ?_ ha
    cases m12 with
    | zero => exact noneE hF
    | succ m12 =>
      obtain ⟨nx10, hnx10⟩ : ∃ k, k = F_laws_markSpotSS_L1 m12 := ⟨_, rfl⟩
      rw [F_laws_markSpotSS_L1, ← hnx10] at hF
      refine W.seq fun K13 hK13 => ?_
      refine W.seq fun K14 hK14 => ?_
      refine W.region ?_
      refine wl_move rfl rfl ?_
      refine wl_move rfl rfl ?_
      refine wl_lenr (e := ty_70) (l := l7) Try.underlying29 rfl rfl (hS6.own_ro (i := 1) rfl) ?_
      refine wl_lss rfl rfl rfl ?_
      refine WL.nil ?_
      refine fun a ha => hK14 _ _ ?_ a ha
      refine W.cond rfl (fun h15 => ?_) (fun h15 => ?_)
      · replace hF := ifP h15 hF
        refine W.skip ?_
        refine fun a ha => hK13 _ _ ?_ a ha
        refine W.seq fun K16 hK16 => ?_
        refine W.block ?_
        refine W.region ?_
        refine wl_move rfl rfl ?_
        refine wl_move rfl rfl ?_
        obtain ⟨u17, hu17, hF⟩ := bindE hF
        refine wl_indexo (e := ty_70) (i := 1) Try.underlying29 rfl rfl rfl hS6 rfl hu17 ?_
        rintro p18 _ ⟨v20, rfl, hv21⟩ hp19 ho22
        refine wl_load_p (vs := [v20]) (v := v20) tf_70 rfl rfl hp19 rfl rfl ?_
        refine wl_move rfl rfl ?_
        obtain ⟨F23, hS24, hq25, hq26⟩ := (hS6.sel [1, 0] rfl).borrow (e := ty_70) (F := B0_0) (v := v0_0) (l := l7) hu17 ho22 hp19 rfl
        have hS27 : Sep (wE w0).heap.size w4 [R.own ty_54 F23 v20 u17, R.hole ty_70 B0_0 F23 v0_0 l7 y9.toNat [v20], R.rest w0 (fps [R.own ty_70 B0_0 v0_0 x0])] := hS24.head rfl fun _ h => by obtain ⟨_, h1, h2⟩ := h; cases h1; exact h2
        obtain ⟨u28, hu28, hF⟩ := bindE hF
        refine wl_call rfl Try.call52 (C_laws_markSpotS w4 u17 v20 F23 y8 (hS27.sel [0] rfl).base0 _ hu28) rfl ?_
        rintro _ w29 ⟨rfl, hE30, hM31⟩
        refine ⟨_, rfl, ?_⟩
        have hB32 := hS27.mutB [0] rfl (M := [R.own ty_54 F23 v20 u17]) rfl (M' := [R.own ty_54 F23 v20 u28.2]) rfl hB5 hB5.size hE30 hM31
        have hS33 : Sep (wE w0).heap.size w29 [R.own ty_54 F23 v20 u28.2, R.hole ty_70 B0_0 F23 v0_0 l7 y9.toNat [v20], R.rest w0 (fps [R.own ty_70 B0_0 v0_0 x0])] := hS27.mut [0] [1, 2] rfl (M := [R.own ty_54 F23 v20 u17]) rfl (M' := [R.own ty_54 F23 v20 u28.2]) rfl hM31
        have hS34 := hS33.head (r' := R.cel ty_70 F23 [v20] u28.2) rfl fun _ h => ⟨_, rfl, h⟩
        have hS35 : Sep (wE w0).heap.size w29 [R.own ty_70 B0_0 v0_0 (seti l7 y9 u28.2), R.rest w0 (fps [R.own ty_70 B0_0 v0_0 x0])] := hS34.unborrow hq25 hq26
        refine wl_assign rfl rfl ?_
        refine WL.nil ?_
        refine fun a ha => hK16 _ _ ?_ a ha
        refine W.region ?_
        refine wl_move rfl rfl ?_
        refine wl_add rfl rfl rfl ?_
        refine wl_assign rfl rfl ?_
        refine WL.nil ?_
        rw [hnx10] at hF
        exact fun a ha => hKL11 a _ m12 (Nat.lt_succ_self m12) ⟨(seti l7 y9 u28.2), u28.1, (w64 (y9 + 1)), ha.sub ⟨rfl, rfl, rfl, trivial⟩, hB32, (hS35.sel [1, 0] rfl), hF⟩
      · replace hF := ifN h15 hF
        refine W.exit ?_
        refine fun a ha => hK2 _ _ ?_ a ha
        refine W.seq fun K36 hK36 => ?_
        refine W.region ?_
        refine wl_move rfl rfl ?_
        refine wl_assign rfl rfl ?_
        refine WL.nil ?_
        refine fun a ha => hK36 _ _ ?_ a ha
        refine W.ret ?_
        have hr := Option.some.inj hF
        subst hr
        exact rets (vs := [(.int .i64 y8)]) hQ rfl ⟨rv_tmp rfl, trivial⟩ ⟨rfl, hB5, hS6.sel [0, 1] rfl⟩
theorem C_laws_markIntS (w0 : World) (x0 : (List Int)) (v0_0 : Value) (B0_0 : List Nat) (x1 : Int) (hS0 : Sep 0 w0 [R.own ty_3 B0_0 v0_0 x0]) (r : (Int × (List Int))) (hF : F_laws_markIntS x0 x1 = some r) :
    Calls Try.prog 33 [v0_0, (.int .i64 x1)].toArray w0 fun e w' => e = .returned (.int .i64 r.1) ∧ Below 0 (wE w0) w' ∧ Sep 0 w' [R.rest w0 (fps [R.own ty_3 B0_0 v0_0 x0]), R.own ty_3 B0_0 v0_0 r.2] := by
  refine calls_mk' Try.func33 rfl Try.ntmps33 rfl rfl fun Q hQ hP => ?_
  have hB : Below (wE w0).heap.size (wE w0) w0 := wE_below w0
  have hS : Sep (wE w0).heap.size w0 [R.rest w0 (fps [R.own ty_3 B0_0 v0_0 x0]), R.own ty_3 B0_0 v0_0 x0] := hS0.rest
  unfold F_laws_markIntS at hF
  refine W.seq fun K1 hK1 => ?_
  refine W.region ?_
  refine wl_assign rfl rfl ?_
  refine WL.nil ?_
  refine fun a ha => hK1 _ _ ?_ a ha
  refine W.seq fun K2 hK2 => ?_
  refine W.seq fun K3 hK3 => ?_
  refine W.region ?_
  refine wl_assign rfl rfl ?_
  refine WL.nil ?_
  refine fun a ha => hK3 _ _ ?_ a ha
  refine W.block ?_
  refine W.loopk (fun m a w4 => ∃ (l7 : (List Int)) (y8 : Int) (y9 : Int), St 19 [(0, v0_0), (1, (.int .i64 y8)), (5, (.int .i64 y9))] a ∧ Below (wE w0).heap.size (wE w0) w4 ∧ Sep (wE w0).heap.size w4 [R.rest w0 (fps [R.own ty_3 B0_0 v0_0 x0]), R.own ty_3 B0_0 v0_0 l7] ∧ F_laws_markIntS_L1 m l7 y8 y9 = some r) FU ?_ ?_
  ·
    exact fun a ha => ⟨x0, x1, 0, ha.sub ⟨rfl, rfl, rfl, trivial⟩, hB, (hS.sel [0, 1] rfl), hF⟩
  ·
    rintro m12 a w4 ⟨l7, y8, y9, ha, hB5, hS6, hF⟩ KL11 hKL11
    refine W.at ?_ ha
    cases m12 with
    | zero => exact noneE hF
    | succ m12 =>
      obtain ⟨nx10, hnx10⟩ : ∃ k, k = F_laws_markIntS_L1 m12 := ⟨_, rfl⟩
      rw [F_laws_markIntS_L1, ← hnx10] at hF
      refine W.seq fun K13 hK13 => ?_
      refine W.seq fun K14 hK14 => ?_
      refine W.region ?_
      refine wl_move rfl rfl ?_
      refine wl_move rfl rfl ?_
      refine wl_lenr (e := ty_3) (l := l7) Try.underlying23 rfl rfl (hS6.own_ro (i := 1) rfl) ?_
      refine wl_lss rfl rfl rfl ?_
      refine WL.nil ?_
      refine fun a ha => hK14 _ _ ?_ a ha
      refine W.cond rfl (fun h15 => ?_) (fun h15 => ?_)
      · replace hF := ifP h15 hF
        refine W.skip ?_
        refine fun a ha => hK13 _ _ ?_ a ha
        refine W.seq fun K16 hK16 => ?_
        refine W.block ?_
        refine W.seq fun K17 hK17 => ?_
        refine W.region ?_
        refine wl_move rfl rfl ?_
        refine wl_move rfl rfl ?_
        refine wl_move rfl rfl ?_
        obtain ⟨u18, hu18, hF⟩ := bindE hF
        refine wl_indexo (e := ty_3) (i := 1) Try.underlying23 rfl rfl rfl hS6 rfl hu18 ?_
        rintro p19 _ rfl hp20 ho21
        refine wl_storeo (i := 1) (o := 0) (vs := [(.int .i64 y8)]) (u' := y8) fl_3 tf_3 rfl rfl rfl rfl ho21 hu18 hB5 hS6 rfl rfl ⟨rfl, trivial⟩ rfl ?_
        intro w22 hk25 hB23 hS24
        refine WL.nil ?_
        refine fun a ha => hK17 _ _ ?_ a ha
        refine W.region ?_
        refine wl_move rfl rfl ?_
        refine wl_add rfl rfl rfl ?_
        refine wl_assign rfl rfl ?_
        refine WL.nil ?_
        refine fun a ha => hK16 _ _ ?_ a ha
        refine W.region ?_
        refine wl_move rfl rfl ?_
        refine wl_add rfl rfl rfl ?_
        refine wl_assign rfl rfl ?_
        refine WL.nil ?_
        rw [hnx10] at hF
        exact fun a ha => hKL11 a _ m12 (Nat.lt_succ_self m12) ⟨(seti l7 y9 y8), (w64 (y8 + 1)), (w64 (y9 + 1)), ha.sub ⟨rfl, rfl, rfl, trivial⟩, hB23, (hS24.sel [0, 1] rfl), hF⟩
      · replace hF := ifN h15 hF
        refine W.exit ?_
        refine fun a ha => hK2 _ _ ?_ a ha
        refine W.seq fun K26 hK26 => ?_
        refine W.region ?_
        refine wl_move rfl rfl ?_
        refine wl_assign rfl rfl ?_
        refine WL.nil ?_
        refine fun a ha => hK26 _ _ ?_ a ha
        refine W.ret ?_
        have hr := Option.some.inj hF
        subst hr
        exact rets (vs := [(.int .i64 y8)]) hQ rfl ⟨rv_tmp rfl, trivial⟩ ⟨rfl, hB5, hS6.sel [0, 1] rfl⟩
theorem C_laws_markShow (w0 : World) (x0 : ((List (List (Int × Int))) × (List Int) × Int × Int)) (v0_0 : Value) (B0_0 : List Nat) (v0_1 : Value) (B0_1 : List Nat) (x1 : Int) (hS0 : Sep 0 w0 [R.own ty_70 B0_0 v0_0 x0.1, R.own ty_3 B0_1 v0_1 x0.2.1]) (r : (Int × ((List (List (Int × Int))) × (List Int) × Int × Int))) (hF : F_laws_markShow x0 x1 = some r) :
    Calls Try.prog 27 [(.agg #[v0_0, v0_1, (.int .i64 x0.2.2.1), (.int .i64 x0.2.2.2)]), (.int .i64 x1)].toArray w0 fun e w' => e = .returned (.int .i64 r.1) ∧ Below 0 (wE w0) w' ∧ Sep 0 w' [R.rest w0 (fps [R.own ty_70 B0_0 v0_0 x0.1, R.own ty_3 B0_1 v0_1 x0.2.1]), R.own ty_70 B0_0 v0_0 r.2.1, R.own ty_3 B0_1 v0_1 r.2.2.1] := by
  refine calls_mk' Try.func27 rfl Try.ntmps27 rfl rfl fun Q hQ hP => ?_
  have hB : Below (wE w0).heap.size (wE w0) w0 := wE_below w0
  have hS : Sep (wE w0).heap.size w0 [R.rest w0 (fps [R.own ty_70 B0_0 v0_0 x0.1, R.own ty_3 B0_1 v0_1 x0.2.1]), R.own ty_70 B0_0 v0_0 x0.1, R.own ty_3 B0_1 v0_1 x0.2.1] := hS0.rest
  unfold F_laws_markShow at hF
  refine W.seq fun K1 hK1 => ?_
  refine W.region ?_
  refine wl_box (cs := [v0_0, v0_1, (.int .i64 x0.2.2.1), (.int .i64 x0.2.2.2)]) rfl rfl rfl hB hS ?_
  intro b2 w3 hb4 hB5 hS6
  refine wl_assign rfl rfl ?_
  refine WL.nil ?_
  refine fun a ha => hK1 _ _ ?_ a ha
  refine W.seq fun K7 hK7 => ?_
  refine W.region ?_
  refine wl_field (o := 0) (off' := 0) ff_31_0 rfl rfl rfl ?_
  refine wl_load_blk (i := 0) (vs := [v0_0]) (v := v0_0) tf_29 rfl rfl hS6 rfl rfl rfl ?_
  refine wl_move rfl rfl ?_
  obtain ⟨u8, hu8, hF⟩ := bindE hF
  refine wl_call rfl Try.call81 (C_laws_markSpotSS w3 x0.1 v0_0 B0_0 x1 (hS6.sel [2] rfl).base0 _ hu8) rfl ?_
  rintro _ w9 ⟨rfl, hE10, hM11⟩
  refine ⟨_, rfl, ?_⟩
  have hB12 := hS6.mutB [2] rfl (M := [R.own ty_70 B0_0 v0_0 x0.1]) rfl (M' := [R.own ty_70 B0_0 v0_0 u8.2]) rfl hB5 hB5.size hE10 hM11
  have hS13 : Sep (wE w0).heap.size w9 [R.own ty_70 B0_0 v0_0 u8.2, R.blk b2 31 [v0_0, v0_1, (.int .i64 x0.2.2.1), (.int .i64 x0.2.2.2)], R.rest w0 (fps [R.own ty_70 B0_0 v0_0 x0.1, R.own ty_3 B0_1 v0_1 x0.2.1]), R.own ty_3 B0_1 v0_1 x0.2.1] := hS6.mut [2] [0, 1, 3] rfl (M := [R.own ty_70 B0_0 v0_0 x0.1]) rfl (M' := [R.own ty_70 B0_0 v0_0 u8.2]) rfl hM11
  refine wl_assign rfl rfl ?_
  refine WL.nil ?_
  refine fun a ha => hK7 _ _ ?_ a ha
  refine W.seq fun K14 hK14 => ?_
  refine W.region ?_
  refine wl_field (o := 1) (off' := 1) ff_31_1 rfl rfl rfl ?_
  refine wl_load_blk (i := 1) (vs := [v0_1]) (v := v0_1) tf_23 rfl rfl hS13 rfl rfl rfl ?_
  refine wl_move rfl rfl ?_
  obtain ⟨u15, hu15, hF⟩ := bindE hF
  refine wl_call rfl Try.call33 (C_laws_markIntS w9 x0.2.1 v0_1 B0_1 u8.1 (hS13.sel [3] rfl).base0 _ hu15) rfl ?_
  rintro _ w16 ⟨rfl, hE17, hM18⟩
  refine ⟨_, rfl, ?_⟩
  have hB19 := hS13.mutB [3] rfl (M := [R.own ty_3 B0_1 v0_1 x0.2.1]) rfl (M' := [R.own ty_3 B0_1 v0_1 u15.2]) rfl hB12 hB12.size hE17 hM18
  have hS20 : Sep (wE w0).heap.size w16 [R.own ty_3 B0_1 v0_1 u15.2, R.own ty_70 B0_0 v0_0 u8.2, R.blk b2 31 [v0_0, v0_1, (.int .i64 x0.2.2.1), (.int .i64 x0.2.2.2)], R.rest w0 (fps [R.own ty_70 B0_0 v0_0 x0.1, R.own ty_3 B0_1 v0_1 x0.2.1])] := hS13.mut [3] [0, 1, 2] rfl (M := [R.own ty_3 B0_1 v0_1 x0.2.1]) rfl (M' := [R.own ty_3 B0_1 v0_1 u15.2]) rfl hM18
  refine wl_assign rfl rfl ?_
  refine WL.nil ?_
  refine fun a ha => hK14 _ _ ?_ a ha
  refine W.seq fun K21 hK21 => ?_
  refine W.region ?_
  refine wl_move rfl rfl ?_
  refine wl_assign rfl rfl ?_
  refine WL.nil ?_
  refine fun a ha => hK21 _ _ ?_ a ha
  refine W.ret ?_
  have hr := Option.some.inj hF
  subst hr
  exact rets (vs := [(.int .i64 u15.1)]) hQ rfl ⟨rv_tmp rfl, trivial⟩ ⟨rfl, hB19, hS20.sel [3, 1, 0] rfl⟩
theorem C_spec_shOf (w0 : World) (x0 : (List (List (Int × Int)))) (v0_0 : Value) (h0_0 : rdS ty_70 (· < w0.heap.size) w0 v0_0 x0) (x1 : (List Int)) (v1_0 : Value) (h1_0 : rdS ty_3 (· < w0.heap.size) w0 v1_0 x1) (x2 : Int) (r : (Int × (Int × Int) × (List (Int × (Int × Int))))) (hF : F_spec_shOf x0 x1 x2 = some r) :
    Calls Try.prog 100 [v0_0, v1_0, (.int .i64 x2)].toArray w0 fun e w' => ∃ (q0 : Value) (G0 : List Nat), e = .returned (.agg #[(.int .i64 r.1), (.int .i64 r.2.1.1), (.int .i64 r.2.1.2), q0]) ∧ Below w0.heap.size w0 w' ∧ Sep w0.heap.size w' [R.own ty_141 G0 q0 r.2.2] := by
  refine calls_mk' Try.func100 rfl Try.ntmps100 rfl rfl fun Q hQ hP => ?_
  have hB : Below w0.heap.size w0 w0 := Below.refl _ _
  have hS : Sep w0.heap.size w0 [] := Sep.nil _ _
  unfold F_spec_shOf at hF
  refine W.seq fun K1 hK1 => ?_
  refine W.region ?_
  refine wl_alloc (cs := [(.int .i64 0), (.int .i64 0), (.int .i64 0), (.slice none 0 0)]) tf_114 rfl rfl hB hS ?_
  intro b2 w3 hb4 hB5 hS6
  refine WL.nil ?_
  refine fun a ha => hK1 _ _ ?_ a ha
  refine W.seq fun K7 hK7 => ?_
  refine W.region ?_
  refine wl_move rfl rfl ?_
  refine wl_move rfl rfl ?_
  obtain ⟨u8, hu8, hF⟩ := bindE hF
  refine wl_index (e := ty_70) Try.underlying29 rfl rfl rfl h0_0 hu8 ?_
  rintro p9 _ ⟨v11, rfl, hv12⟩ hp10
  refine wl_load_p (vs := [v11]) (v := v11) tf_70 rfl rfl (hp10.ro hB5) rfl rfl ?_
  refine wl_move rfl rfl ?_
  obtain ⟨u13, hu13, hF⟩ := bindE hF
  refine wl_index (e := ty_54) Try.underlying70 rfl rfl rfl hv12 hu13 ?_
  rintro p14 _ rfl hp15
  refine wl_load_p (vs := [(.int .i64 u13.1), (.int .i64 u13.2)]) (v := (.agg #[(.int .i64 u13.1), (.int .i64 u13.2)])) tf_54 rfl rfl (hp15.ro hB5) rfl rfl ?_
  refine wl_build (zs := [(.int .i64 0), (.int .i64 0), (.int .i64 0), (.slice none 0 0)]) (out := [(.int .i64 x2), (.int .i64 u13.1), (.int .i64 u13.2), (.slice none 0 0)]) (vs := [(.int .i64 x2), (.agg #[(.int .i64 u13.1), (.int .i64 u13.2)])]) (css := [[(.int .i64 x2)], [(.int .i64 u13.1), (.int .i64 u13.2)]]) tf_114 pl_114 rfl rfl rfl rfl rfl ?_
  refine wl_alloc (cs := [(.int .i64 0), (.int .i64 0), (.int .i64 0), (.slice none 0 0)]) tf_114 rfl rfl hB5 hS6 ?_
  intro b16 w17 hb18 hB19 hS20
  refine wl_store_blk (i := 0) (vs := [(.int .i64 x2), (.int .i64 u13.1), (.int .i64 u13.2), (.slice none 0 0)]) (cs' := [(.int .i64 x2), (.int .i64 u13.1), (.int .i64 u13.2), (.slice none 0 0)]) tf_114 rfl rfl rfl rfl hB19 hS20 rfl rfl ⟨rfl, rfl, rfl, rfl, trivial⟩ rfl ?_
  intro w21 hk24 hB22 hS23
  refine WL.nil ?_
  refine fun a ha => hK7 _ _ ?_ a ha
  refine W.seq fun K25 hK25 => ?_
  refine W.seq fun K26 hK26 => ?_
  refine W.region ?_
  refine wl_move rfl rfl ?_
  refine wl_lenr (e := ty_3) (l := x1) Try.underlying23 rfl rfl h1_0 ?_
  refine wl_move rfl rfl ?_
  refine WL.nil ?_
  refine fun a ha => hK26 _ _ ?_ a ha
  refine W.block ?_
  refine W.loopk (fun m a w27 => ∃ (l30 : (List (Int × (Int × Int)))) (y33 : Int) (v31 : Value) (F32 : List Nat), St 42 [(0, v0_0), (2, (.int .i64 x2)), (6, (.pointer (some ⟨b2, 0, none⟩))), (7, (.pointer (some ⟨b16, 0, none⟩))), (18, v1_0), (19, (.int .i64 (List.length x1 : Int))), (20, (.int .i64 y33))] a ∧ Below w0.heap.size w0 w27 ∧ Sep w0.heap.size w27 [R.blk b2 114 [(.int .i64 0), (.int .i64 0), (.int .i64 0), (.slice none 0 0)], R.own ty_141 F32 v31 l30, R.blk b16 114 [(.int .i64 x2), (.int .i64 u13.1), (.int .i64 u13.2), v31]] ∧ F_spec_shOf_L1 x1 x0 x2 u13 m l30 y33 = some r) FU ?_ ?_
  ·
    have hS35 := hS23.push0 (r := R.own ty_141 [] (.slice none 0 0) []) rfl fun _ => .inl ⟨rfl, rfl, rfl⟩
    exact fun a ha => ⟨[], 0, (.slice none 0 0), [], ha.sub ⟨rfl, rfl, rfl, rfl, rfl, rfl, rfl, trivial⟩, hB22, (hS35.sel [2, 0, 1] rfl), hF⟩
  ·
    rintro m37 a w27 ⟨l30, y33, v31, F32, ha, hB28, hS29, hF⟩ KL36 hKL36
    refine W.at ?_ ha
    cases m37 with
    | zero => exact noneE hF
    | succ m37 =>
      obtain ⟨nx34, hnx34⟩ : ∃ k, k = F_spec_shOf_L1 x1 x0 x2 u13 m37 := ⟨_, rfl⟩
      rw [F_spec_shOf_L1, ← hnx34] at hF
      refine W.seq fun K38 hK38 => ?_
      refine W.region ?_
      refine wl_lss rfl rfl rfl ?_
      refine WL.nil ?_
      refine fun a ha => hK38 _ _ ?_ a ha
      refine W.seq fun K39 hK39 => ?_
      refine W.cond rfl (fun h40 => ?_) (fun h40 => ?_)
      · replace hF := ifP h40 hF
        refine W.skip ?_
        refine fun a ha => hK39 _ _ ?_ a ha
        refine W.seq fun K41 hK41 => ?_
        obtain ⟨k48, hk48, hF⟩ := jE1 hF
        have hJ49 : ∀ (l45 : (List (Int × (Int × Int)))) (v46 : Value) (F47 : List Nat) (w42 : World) (_ : k48 l45 = some r) (_ : Below w0.heap.size w0 w42) (_ : Sep w0.heap.size w42 [R.blk b2 114 [(.int .i64 0), (.int .i64 0), (.int .i64 0), (.slice none 0 0)], R.own ty_141 F47 v46 l45, R.blk b16 114 [(.int .i64 x2), (.int .i64 u13.1), (.int .i64 u13.2), v46]]), ∀ a, St 42 [(0, v0_0), (2, (.int .i64 x2)), (6, (.pointer (some ⟨b2, 0, none⟩))), (7, (.pointer (some ⟨b16, 0, none⟩))), (18, v1_0), (19, (.int .i64 (List.length x1 : Int))), (20, (.int .i64 y33))] a → K41 a w42 := by
          intro l45 v46 F47 w42 hF hB43 hS44
          subst hk48
          refine fun a ha => hK41 _ _ ?_ a ha
          refine W.region ?_
          refine wl_add rfl rfl rfl ?_
          refine wl_move rfl rfl ?_
          refine WL.nil ?_
          rw [hnx34] at hF
          exact fun a ha => hKL36 a _ m37 (Nat.lt_succ_self m37) ⟨l45, (w64 (y33 + 1)), v46, F47, ha.sub ⟨rfl, rfl, rfl, rfl, rfl, rfl, rfl, trivial⟩, hB43, (hS44.sel [0, 1, 2] rfl), hF⟩
        refine W.block ?_
        refine W.seq fun K50 hK50 => ?_
        refine W.region ?_
        refine wl_move rfl rfl ?_
        obtain ⟨u51, hu51, hF⟩ := bindE hF
        refine wl_index (e := ty_3) Try.underlying23 rfl rfl rfl h1_0 hu51 ?_
        rintro p52 _ rfl hp53
        refine wl_load_p (vs := [(.int .i64 u51)]) (v := (.int .i64 u51)) tf_3 rfl rfl (hp53.ro hB28) rfl rfl ?_
        refine wl_assign rfl rfl ?_
        refine wl_assign rfl rfl ?_
        refine WL.nil ?_
        refine fun a ha => hK50 _ _ ?_ a ha
        refine W.regionH mixed_ (F32 ++ [b16]) hB28 hS29 ?_
        intro w54 hb55 hB56 hS57
        have hSW58 := KeepX.refl w54 (F32 ++ [b16])
        refine WH.takex (i := 0) rfl (by kernel_rfl) (by kernel_rfl) (by kernel_rfl) hP hSW58 ?_
        refine pr_field (o := 3) (off' := 3) ff_114_2 rfl rfl rfl ?_
        refine WH.takex (i := 2) rfl (by kernel_rfl) (by kernel_rfl) (by kernel_rfl) hP hSW58 ?_
        refine pr_move rfl rfl ?_
        refine WH.takex (i := 3) rfl (by kernel_rfl) (by kernel_rfl) (by kernel_rfl) hP hSW58 ?_
        refine pr_move rfl rfl ?_
        refine WH.takex (i := 4) rfl (by kernel_rfl) (by kernel_rfl) (by kernel_rfl) hP hSW58 ?_
        refine pr_move rfl rfl ?_
        refine WH.takex (i := 5) rfl (by kernel_rfl) (by kernel_rfl) (by kernel_rfl) hP hSW58 ?_
        refine pr_add rfl rfl rfl ?_
        obtain ⟨u59, hu59, hF⟩ := bindE hF
        refine WH.takex (i := 6) rfl (by kernel_rfl) (by kernel_rfl) (by kernel_rfl) hP hSW58 ?_
        refine pr_index (e := ty_70) Try.underlying29 rfl rfl rfl h0_0 hu59 ?_
        rintro p60 _ ⟨v62, rfl, hv63⟩ hp61
        refine WH.takex (i := 7) rfl (by kernel_rfl) (by kernel_rfl) (by kernel_rfl) hP hSW58 ?_
        refine pr_load_p (vs := [v62]) (v := v62) tf_70 rfl rfl (hp61.kx hB56 (fun b hb => ((List.mem_append.1 hb).elim (fun hb => (((hS57.get (i := 1) rfl).2.1 b hb).1)) (fun hb => (((hS57.get (i := 2) rfl).2.1 b hb).1))))) rfl rfl ?_
        refine WH.takex (i := 8) rfl (by kernel_rfl) (by kernel_rfl) (by kernel_rfl) hP hSW58 ?_
        refine pr_move rfl rfl ?_
        obtain ⟨u64, hu64, hF⟩ := bindE hF
        refine WH.takex (i := 9) rfl (by kernel_rfl) (by kernel_rfl) (by kernel_rfl) hP hSW58 ?_
        refine pr_index (e := ty_54) Try.underlying70 rfl rfl rfl hv63 hu64 ?_
        rintro p65 _ rfl hp66
        refine WH.takex (i := 10) rfl (by kernel_rfl) (by kernel_rfl) (by kernel_rfl) hP hSW58 ?_
        refine pr_load_p (vs := [(.int .i64 u64.1), (.int .i64 u64.2)]) (v := (.agg #[(.int .i64 u64.1), (.int .i64 u64.2)])) tf_54 rfl rfl (hp66.kx hB56 (fun b hb => ((List.mem_append.1 hb).elim (fun hb => (((hS57.get (i := 1) rfl).2.1 b hb).1)) (fun hb => (((hS57.get (i := 2) rfl).2.1 b hb).1))))) rfl rfl ?_
        refine WH.takex (i := 11) rfl (by kernel_rfl) (by kernel_rfl) (by kernel_rfl) hP hSW58 ?_
        refine pr_build (zs := [(.int .i64 0), (.int .i64 0), (.int .i64 0)]) (out := [(.int .i64 u51), (.int .i64 u64.1), (.int .i64 u64.2)]) (vs := [(.int .i64 u51), (.agg #[(.int .i64 u64.1), (.int .i64 u64.2)])]) (css := [[(.int .i64 u51)], [(.int .i64 u64.1), (.int .i64 u64.2)]]) tf_141 pl_141 rfl rfl rfl rfl rfl ?_
        refine WH.many (is := [1, 12]) (by kernel_rfl) rfl ?_
        refine List.forall_mem_cons.2 ⟨⟨_, rfl, ?_⟩, List.forall_mem_cons.2 ⟨⟨_, rfl, ?_⟩, fun _ h => by cases h⟩⟩
        ·
          refine wl_load_blk (i := 2) (vs := [v31]) (v := v31) tf_112 rfl rfl hS57 rfl rfl rfl ?_
          refine WL.nil (WH.ret hSW58 ?_)
          refine WH.one (i := 12) (by kernel_rfl) rfl ?_
          refine wl_lit (vs := [(.agg #[(.int .i64 u51), (.int .i64 u64.1), (.int .i64 u64.2)])]) (l := [(u51, u64)]) fl_141 Try.underlying112 rfl rfl rfl rfl rfl rfl (Below.self w54) (Sep.nil _ _) ?_
          intro v67 F68 w69 hb70 hB73 hM74
          have hB71 := hB56.trans (hb70.mono hB56.size)
          have hS72 := hS57.join hb70 hM74 hB56.size
          have hn75 : ∀ b ∈ F68, w54.heap.size ≤ b := fun b hb => Nat.le_trans hSW58.size ((hM74.1 _ (List.mem_cons_self ..)).2.1 b hb).1
          have hSW76 := hSW58.ext hb70
          have hbS77 : Below w54.heap.size w54 w69 := hb70
          refine WL.nil (WH.ret hSW76 ?_)
          refine WH.one (i := 13) (by kernel_rfl) rfl ?_
          obtain ⟨u78, hu78, hF⟩ := bindE hF
          refine wl_append (i := 2) (S := (· < w69.heap.size)) fl_141 Try.underlying112 rfl rfl rfl hB71 hS72 rfl (hS72.own_ro (i := 0) rfl) hu78 ?_
          intro v79 F80 w81 hk82 hB83 hS84
          have hSW85 := hSW76.wr' hk82.1 hk82.2.1 (fun _ _ h => List.mem_append_left _ (h))
          refine WL.nil (WH.ret hSW85 ?_)
          refine WH.takex (i := 14) rfl (by kernel_rfl) (by kernel_rfl) (by kernel_rfl) hP hSW85 ?_
          refine pr_field (o := 3) (off' := 3) ff_114_2 rfl rfl rfl ?_
          refine WH.one (i := 15) (by kernel_rfl) rfl ?_
          refine wl_store_blk (i := 3) (vs := [v79]) (cs' := [(.int .i64 x2), (.int .i64 u13.1), (.int .i64 u13.2), v79]) tf_112 rfl rfl (cells_one (hS84.own_ro (i := 2) rfl).one) rfl hB83 hS84 rfl rfl ⟨(hS84.own_ro (i := 2) rfl).one, trivial⟩ rfl ?_
          intro w86 hk89 hB87 hS88
          have hSW90 := hSW85.wr' hk89.1 hk89.2.1 (fun _ _ h => List.mem_append_right _ h)
          refine WL.nil (WH.ret hSW90 ?_)
          refine WH.done (by kernel_rfl) ?_
          exact fun a ha => hJ49 (u78) (v79) (F80) _ hF hB87 (hS88.sel [1, 2, 3] rfl) a (ha.sub ⟨rfl, rfl, rfl, rfl, rfl, rfl, rfl, trivial⟩)
        ·
          refine wl_lit (vs := [(.agg #[(.int .i64 u51), (.int .i64 u64.1), (.int .i64 u64.2)])]) (l := [(u51, u64)]) fl_141 Try.underlying112 rfl rfl rfl rfl rfl rfl (Below.self w54) (Sep.nil _ _) ?_
          intro v91 F92 w93 hb94 hB97 hM98
          have hB95 := hB56.trans (hb94.mono hB56.size)
          have hS96 := hS57.join hb94 hM98 hB56.size
          have hn99 : ∀ b ∈ F92, w54.heap.size ≤ b := fun b hb => Nat.le_trans hSW58.size ((hM98.1 _ (List.mem_cons_self ..)).2.1 b hb).1
          have hSW100 := hSW58.ext hb94
          have hbS101 : Below w54.heap.size w54 w93 := hb94
          refine WL.nil (WH.ret hSW100 ?_)
          refine WH.one (i := 1) (by kernel_rfl) rfl ?_
          refine wl_load_blk (i := 3) (vs := [v31]) (v := v31) tf_112 rfl rfl hS96 rfl rfl rfl ?_
          refine WL.nil (WH.ret hSW100 ?_)
          refine WH.one (i := 13) (by kernel_rfl) rfl ?_
          obtain ⟨u102, hu102, hF⟩ := bindE hF
          refine wl_append (i := 2) (S := (· < w93.heap.size)) fl_141 Try.underlying112 rfl rfl rfl hB95 hS96 rfl (hS96.own_ro (i := 0) rfl) hu102 ?_
          intro v103 F104 w105 hk106 hB107 hS108
          have hSW109 := hSW100.wr' hk106.1 hk106.2.1 (fun _ _ h => List.mem_append_left _ (h))
          refine WL.nil (WH.ret hSW109 ?_)
          refine WH.takex (i := 14) rfl (by kernel_rfl) (by kernel_rfl) (by kernel_rfl) hP hSW109 ?_
          refine pr_field (o := 3) (off' := 3) ff_114_2 rfl rfl rfl ?_
          refine WH.one (i := 15) (by kernel_rfl) rfl ?_
          refine wl_store_blk (i := 3) (vs := [v103]) (cs' := [(.int .i64 x2), (.int .i64 u13.1), (.int .i64 u13.2), v103]) tf_112 rfl rfl (cells_one (hS108.own_ro (i := 2) rfl).one) rfl hB107 hS108 rfl rfl ⟨(hS108.own_ro (i := 2) rfl).one, trivial⟩ rfl ?_
          intro w110 hk113 hB111 hS112
          have hSW114 := hSW109.wr' hk113.1 hk113.2.1 (fun _ _ h => List.mem_append_right _ h)
          refine WL.nil (WH.ret hSW114 ?_)
          refine WH.done (by kernel_rfl) ?_
          exact fun a ha => hJ49 (u102) (v103) (F104) _ hF hB111 (hS112.sel [1, 2, 3] rfl) a (ha.sub ⟨rfl, rfl, rfl, rfl, rfl, rfl, rfl, trivial⟩)
      · replace hF := ifN h40 hF
        refine W.exit ?_
        refine fun a ha => hK25 _ _ ?_ a ha
        refine W.seq fun K115 hK115 => ?_
        refine W.region ?_
        refine wl_load_blk (i := 2) (vs := [(.int .i64 x2), (.int .i64 u13.1), (.int .i64 u13.2), v31]) (v := (.agg #[(.int .i64 x2), (.int .i64 u13.1), (.int .i64 u13.2), v31])) tf_114 rfl rfl hS29 rfl rfl rfl ?_
        refine wl_store_blk (i := 0) (vs := [(.int .i64 x2), (.int .i64 u13.1), (.int .i64 u13.2), v31]) (cs' := [(.int .i64 x2), (.int .i64 u13.1), (.int .i64 u13.2), v31]) tf_114 rfl rfl rfl rfl hB28 hS29 rfl rfl ⟨rfl, rfl, rfl, (hS29.own_ro (i := 1) rfl).one, trivial⟩ rfl ?_
        intro w116 hk119 hB117 hS118
        refine WL.nil ?_
        refine fun a ha => hK115 _ _ ?_ a ha
        refine W.ret ?_
        have hr := Option.some.inj hF
        subst hr
        exact rets (vs := [(.agg #[(.int .i64 x2), (.int .i64 u13.1), (.int .i64 u13.2), v31])]) hQ rfl ⟨rv_cell (i := 0) tf_114 rfl hS118 rfl rfl rfl, trivial⟩ ⟨v31, F32, rfl, hB117, hS118.sel [1] rfl⟩
theorem C_impl_sheetOf (w0 : World) (x0 : (List (List (Int × Int)))) (v0_0 : Value) (h0_0 : rdS ty_70 (· < w0.heap.size) w0 v0_0 x0) (x1 : (List Int)) (v1_0 : Value) (h1_0 : rdS ty_3 (· < w0.heap.size) w0 v1_0 x1) (x2 : Int) (r : (Int × (Int × Int) × (List (Int × (Int × Int))))) (hF : F_impl_sheetOf x0 x1 x2 = some r) :
    Calls Try.prog 101 [v0_0, v1_0, (.int .i64 x2)].toArray w0 fun e w' => ∃ (q0 : Value) (G0 : List Nat), e = .returned (.agg #[(.int .i64 r.1), (.int .i64 r.2.1.1), (.int .i64 r.2.1.2), q0]) ∧ Below w0.heap.size w0 w' ∧ Sep w0.heap.size w' [R.own ty_141 G0 q0 r.2.2] := by
  refine calls_mk' Try.func101 rfl Try.ntmps101 rfl rfl fun Q hQ hP => ?_
  have hB : Below w0.heap.size w0 w0 := Below.refl _ _
  have hS : Sep w0.heap.size w0 [] := Sep.nil _ _
  unfold F_impl_sheetOf at hF
  refine W.seq fun K1 hK1 => ?_
  refine W.region ?_
  refine wl_alloc (cs := [(.int .i64 0), (.int .i64 0), (.int .i64 0), (.slice none 0 0)]) tf_114 rfl rfl hB hS ?_
  intro b2 w3 hb4 hB5 hS6
  refine WL.nil ?_
  refine fun a ha => hK1 _ _ ?_ a ha
  refine W.seq fun K7 hK7 => ?_
  refine W.region ?_
  refine wl_move rfl rfl ?_
  refine wl_move rfl rfl ?_
  obtain ⟨u8, hu8, hF⟩ := bindE hF
  refine wl_index (e := ty_70) Try.underlying29 rfl rfl rfl h0_0 hu8 ?_
  rintro p9 _ ⟨v11, rfl, hv12⟩ hp10
  refine wl_load_p (vs := [v11]) (v := v11) tf_70 rfl rfl (hp10.ro hB5) rfl rfl ?_
  refine wl_move rfl rfl ?_
  obtain ⟨u13, hu13, hF⟩ := bindE hF
  refine wl_index (e := ty_54) Try.underlying70 rfl rfl rfl hv12 hu13 ?_
  rintro p14 _ rfl hp15
  refine wl_load_p (vs := [(.int .i64 u13.1), (.int .i64 u13.2)]) (v := (.agg #[(.int .i64 u13.1), (.int .i64 u13.2)])) tf_54 rfl rfl (hp15.ro hB5) rfl rfl ?_
  refine wl_lit (vs := []) (l := []) fl_141 Try.underlying112 rfl rfl rfl rfl rfl rfl hB5 hS6 ?_
  intro v16 F17 w18 hb19 hB20 hS21
  refine wl_build (zs := [(.int .i64 0), (.int .i64 0), (.int .i64 0), (.slice none 0 0)]) (out := [(.int .i64 x2), (.int .i64 u13.1), (.int .i64 u13.2), v16]) (vs := [(.int .i64 x2), (.agg #[(.int .i64 u13.1), (.int .i64 u13.2)]), v16]) (css := [[(.int .i64 x2)], [(.int .i64 u13.1), (.int .i64 u13.2)], [v16]]) tf_114 pl_114 rfl rfl (by simp only [List.map_cons, List.map_nil, cells_one ((hS21.own_ro (i := 0) rfl).one)]; rfl) rfl rfl ?_
  refine wl_alloc (cs := [(.int .i64 0), (.int .i64 0), (.int .i64 0), (.slice none 0 0)]) tf_114 rfl rfl hB20 hS21 ?_
  intro b22 w23 hb24 hB25 hS26
  refine wl_store_blk (i := 0) (vs := [(.int .i64 x2), (.int .i64 u13.1), (.int .i64 u13.2), v16]) (cs' := [(.int .i64 x2), (.int .i64 u13.1), (.int .i64 u13.2), v16]) tf_114 rfl rfl rfl rfl hB25 hS26 rfl rfl ⟨rfl, rfl, rfl, (hS26.own_ro (i := 1) rfl).one, trivial⟩ rfl ?_
  intro w27 hk30 hB28 hS29
  refine WL.nil ?_
  refine fun a ha => hK7 _ _ ?_ a ha
  refine W.seq fun K31 hK31 => ?_
  refine W.seq fun K32 hK32 => ?_
  refine W.region ?_
  refine wl_move rfl rfl ?_
  refine wl_lenr (e := ty_3) (l := x1) Try.underlying23 rfl rfl h1_0 ?_
  refine wl_move rfl rfl ?_
  refine WL.nil ?_
  refine fun a ha => hK32 _ _ ?_ a ha
  refine W.block ?_
  refine W.loopk (fun m a w33 => ∃ (l36 : (List (Int × (Int × Int)))) (y39 : Int) (v37 : Value) (F38 : List Nat), St 43 [(0, v0_0), (2, (.int .i64 x2)), (6, (.pointer (some ⟨b2, 0, none⟩))), (7, (.pointer (some ⟨b22, 0, none⟩))), (19, v1_0), (20, (.int .i64 (List.length x1 : Int))), (21, (.int .i64 y39))] a ∧ Below w0.heap.size w0 w33 ∧ Sep w0.heap.size w33 [R.blk b2 114 [(.int .i64 0), (.int .i64 0), (.int .i64 0), (.slice none 0 0)], R.own ty_141 F38 v37 l36, R.blk b22 114 [(.int .i64 x2), (.int .i64 u13.1), (.int .i64 u13.2), v37]] ∧ F_impl_sheetOf_L1 x1 x0 x2 u13 m l36 y39 = some r) FU ?_ ?_
  ·
    exact fun a ha => ⟨[], 0, v16, F17, ha.sub ⟨rfl, rfl, rfl, rfl, rfl, rfl, rfl, trivial⟩, hB28, (hS29.sel [2, 1, 0] rfl), hF⟩
  ·
    rintro m42 a w33 ⟨l36, y39, v37, F38, ha, hB34, hS35, hF⟩ KL41 hKL41
    refine W.at ?_ ha
    cases m42 with
    | zero => exact noneE hF
    | succ m42 =>
      obtain ⟨nx40, hnx40⟩ : ∃ k, k = F_impl_sheetOf_L1 x1 x0 x2 u13 m42 := ⟨_, rfl⟩
      rw [F_impl_sheetOf_L1, ← hnx40] at hF
      refine W.seq fun K43 hK43 => ?_
      refine W.region ?_
      refine wl_lss rfl rfl rfl ?_
      refine WL.nil ?_
      refine fun a ha => hK43 _ _ ?_ a ha
      refine W.seq fun K44 hK44 => ?_
      refine W.cond rfl (fun h45 => ?_) (fun h45 => ?_)
      · replace hF := ifP h45 hF
        refine W.skip ?_
        refine fun a ha => hK44 _ _ ?_ a ha
        refine W.seq fun K46 hK46 => ?_
        obtain ⟨k53, hk53, hF⟩ := jE1 hF
        have hJ54 : ∀ (l50 : (List (Int × (Int × Int)))) (v51 : Value) (F52 : List Nat) (w47 : World) (_ : k53 l50 = some r) (_ : Below w0.heap.size w0 w47) (_ : Sep w0.heap.size w47 [R.blk b2 114 [(.int .i64 0), (.int .i64 0), (.int .i64 0), (.slice none 0 0)], R.own ty_141 F52 v51 l50, R.blk b22 114 [(.int .i64 x2), (.int .i64 u13.1), (.int .i64 u13.2), v51]]), ∀ a, St 43 [(0, v0_0), (2, (.int .i64 x2)), (6, (.pointer (some ⟨b2, 0, none⟩))), (7, (.pointer (some ⟨b22, 0, none⟩))), (19, v1_0), (20, (.int .i64 (List.length x1 : Int))), (21, (.int .i64 y39))] a → K46 a w47 := by
          intro l50 v51 F52 w47 hF hB48 hS49
          subst hk53
          refine fun a ha => hK46 _ _ ?_ a ha
          refine W.region ?_
          refine wl_add rfl rfl rfl ?_
          refine wl_move rfl rfl ?_
          refine WL.nil ?_
          rw [hnx40] at hF
          exact fun a ha => hKL41 a _ m42 (Nat.lt_succ_self m42) ⟨l50, (w64 (y39 + 1)), v51, F52, ha.sub ⟨rfl, rfl, rfl, rfl, rfl, rfl, rfl, trivial⟩, hB48, (hS49.sel [0, 1, 2] rfl), hF⟩
        refine W.block ?_
        refine W.seq fun K55 hK55 => ?_
        refine W.region ?_
        refine wl_move rfl rfl ?_
        obtain ⟨u56, hu56, hF⟩ := bindE hF
        refine wl_index (e := ty_3) Try.underlying23 rfl rfl rfl h1_0 hu56 ?_
        rintro p57 _ rfl hp58
        refine wl_load_p (vs := [(.int .i64 u56)]) (v := (.int .i64 u56)) tf_3 rfl rfl (hp58.ro hB34) rfl rfl ?_
        refine wl_assign rfl rfl ?_
        refine wl_assign rfl rfl ?_
        refine WL.nil ?_
        refine fun a ha => hK55 _ _ ?_ a ha
        refine W.regionH mixed_ (F38 ++ [b22]) hB34 hS35 ?_
        intro w59 hb60 hB61 hS62
        have hSW63 := KeepX.refl w59 (F38 ++ [b22])
        refine WH.takex (i := 0) rfl (by kernel_rfl) (by kernel_rfl) (by kernel_rfl) hP hSW63 ?_
        refine pr_field (o := 3) (off' := 3) ff_114_2 rfl rfl rfl ?_
        refine WH.takex (i := 2) rfl (by kernel_rfl) (by kernel_rfl) (by kernel_rfl) hP hSW63 ?_
        refine pr_move rfl rfl ?_
        refine WH.takex (i := 3) rfl (by kernel_rfl) (by kernel_rfl) (by kernel_rfl) hP hSW63 ?_
        refine pr_move rfl rfl ?_
        refine WH.takex (i := 4) rfl (by kernel_rfl) (by kernel_rfl) (by kernel_rfl) hP hSW63 ?_
        refine pr_move rfl rfl ?_
        refine WH.takex (i := 5) rfl (by kernel_rfl) (by kernel_rfl) (by kernel_rfl) hP hSW63 ?_
        refine pr_add rfl rfl rfl ?_
        obtain ⟨u64, hu64, hF⟩ := bindE hF
        refine WH.takex (i := 6) rfl (by kernel_rfl) (by kernel_rfl) (by kernel_rfl) hP hSW63 ?_
        refine pr_index (e := ty_70) Try.underlying29 rfl rfl rfl h0_0 hu64 ?_
        rintro p65 _ ⟨v67, rfl, hv68⟩ hp66
        refine WH.takex (i := 7) rfl (by kernel_rfl) (by kernel_rfl) (by kernel_rfl) hP hSW63 ?_
        refine pr_load_p (vs := [v67]) (v := v67) tf_70 rfl rfl (hp66.kx hB61 (fun b hb => ((List.mem_append.1 hb).elim (fun hb => (((hS62.get (i := 1) rfl).2.1 b hb).1)) (fun hb => (((hS62.get (i := 2) rfl).2.1 b hb).1))))) rfl rfl ?_
        refine WH.takex (i := 8) rfl (by kernel_rfl) (by kernel_rfl) (by kernel_rfl) hP hSW63 ?_
        refine pr_move rfl rfl ?_
        obtain ⟨u69, hu69, hF⟩ := bindE hF
        refine WH.takex (i := 9) rfl (by kernel_rfl) (by kernel_rfl) (by kernel_rfl) hP hSW63 ?_
        refine pr_index (e := ty_54) Try.underlying70 rfl rfl rfl hv68 hu69 ?_
        rintro p70 _ rfl hp71
        refine WH.takex (i := 10) rfl (by kernel_rfl) (by kernel_rfl) (by kernel_rfl) hP hSW63 ?_
        refine pr_load_p (vs := [(.int .i64 u69.1), (.int .i64 u69.2)]) (v := (.agg #[(.int .i64 u69.1), (.int .i64 u69.2)])) tf_54 rfl rfl (hp71.kx hB61 (fun b hb => ((List.mem_append.1 hb).elim (fun hb => (((hS62.get (i := 1) rfl).2.1 b hb).1)) (fun hb => (((hS62.get (i := 2) rfl).2.1 b hb).1))))) rfl rfl ?_
        refine WH.takex (i := 11) rfl (by kernel_rfl) (by kernel_rfl) (by kernel_rfl) hP hSW63 ?_
        refine pr_build (zs := [(.int .i64 0), (.int .i64 0), (.int .i64 0)]) (out := [(.int .i64 u56), (.int .i64 u69.1), (.int .i64 u69.2)]) (vs := [(.int .i64 u56), (.agg #[(.int .i64 u69.1), (.int .i64 u69.2)])]) (css := [[(.int .i64 u56)], [(.int .i64 u69.1), (.int .i64 u69.2)]]) tf_141 pl_141 rfl rfl rfl rfl rfl ?_
        refine WH.many (is := [1, 12]) (by kernel_rfl) rfl ?_
        refine List.forall_mem_cons.2 ⟨⟨_, rfl, ?_⟩, List.forall_mem_cons.2 ⟨⟨_, rfl, ?_⟩, fun _ h => by cases h⟩⟩
        ·
          refine wl_load_blk (i := 2) (vs := [v37]) (v := v37) tf_112 rfl rfl hS62 rfl rfl rfl ?_
          refine WL.nil (WH.ret hSW63 ?_)
          refine WH.one (i := 12) (by kernel_rfl) rfl ?_
          refine wl_lit (vs := [(.agg #[(.int .i64 u56), (.int .i64 u69.1), (.int .i64 u69.2)])]) (l := [(u56, u69)]) fl_141 Try.underlying112 rfl rfl rfl rfl rfl rfl (Below.self w59) (Sep.nil _ _) ?_
          intro v72 F73 w74 hb75 hB78 hM79
          have hB76 := hB61.trans (hb75.mono hB61.size)
          have hS77 := hS62.join hb75 hM79 hB61.size
          have hn80 : ∀ b ∈ F73, w59.heap.size ≤ b := fun b hb => Nat.le_trans hSW63.size ((hM79.1 _ (List.mem_cons_self ..)).2.1 b hb).1
          have hSW81 := hSW63.ext hb75
          have hbS82 : Below w59.heap.size w59 w74 := hb75
          refine WL.nil (WH.ret hSW81 ?_)
          refine WH.one (i := 13) (by kernel_rfl) rfl ?_
          obtain ⟨u83, hu83, hF⟩ := bindE hF
          refine wl_append (i := 2) (S := (· < w74.heap.size)) fl_141 Try.underlying112 rfl rfl rfl hB76 hS77 rfl (hS77.own_ro (i := 0) rfl) hu83 ?_
          intro v84 F85 w86 hk87 hB88 hS89
          have hSW90 := hSW81.wr' hk87.1 hk87.2.1 (fun _ _ h => List.mem_append_left _ (h))
          refine WL.nil (WH.ret hSW90 ?_)
          refine WH.takex (i := 14) rfl (by kernel_rfl) (by kernel_rfl) (by kernel_rfl) hP hSW90 ?_
          refine pr_field (o := 3) (off' := 3) ff_114_2 rfl rfl rfl ?_
          refine WH.one (i := 15) (by kernel_rfl) rfl ?_
          refine wl_store_blk (i := 3) (vs := [v84]) (cs' := [(.int .i64 x2), (.int .i64 u13.1), (.int .i64 u13.2), v84]) tf_112 rfl rfl (cells_one (hS89.own_ro (i := 2) rfl).one) rfl hB88 hS89 rfl rfl ⟨(hS89.own_ro (i := 2) rfl).one, trivial⟩ rfl ?_
          intro w91 hk94 hB92 hS93
          have hSW95 := hSW90.wr' hk94.1 hk94.2.1 (fun _ _ h => List.mem_append_right _ h)
          refine WL.nil (WH.ret hSW95 ?_)
          refine WH.done (by kernel_rfl) ?_
          exact fun a ha => hJ54 (u83) (v84) (F85) _ hF hB92 (hS93.sel [1, 2, 3] rfl) a (ha.sub ⟨rfl, rfl, rfl, rfl, rfl, rfl, rfl, trivial⟩)
        ·
          refine wl_lit (vs := [(.agg #[(.int .i64 u56), (.int .i64 u69.1), (.int .i64 u69.2)])]) (l := [(u56, u69)]) fl_141 Try.underlying112 rfl rfl rfl rfl rfl rfl (Below.self w59) (Sep.nil _ _) ?_
          intro v96 F97 w98 hb99 hB102 hM103
          have hB100 := hB61.trans (hb99.mono hB61.size)
          have hS101 := hS62.join hb99 hM103 hB61.size
          have hn104 : ∀ b ∈ F97, w59.heap.size ≤ b := fun b hb => Nat.le_trans hSW63.size ((hM103.1 _ (List.mem_cons_self ..)).2.1 b hb).1
          have hSW105 := hSW63.ext hb99
          have hbS106 : Below w59.heap.size w59 w98 := hb99
          refine WL.nil (WH.ret hSW105 ?_)
          refine WH.one (i := 1) (by kernel_rfl) rfl ?_
          refine wl_load_blk (i := 3) (vs := [v37]) (v := v37) tf_112 rfl rfl hS101 rfl rfl rfl ?_
          refine WL.nil (WH.ret hSW105 ?_)
          refine WH.one (i := 13) (by kernel_rfl) rfl ?_
          obtain ⟨u107, hu107, hF⟩ := bindE hF
          refine wl_append (i := 2) (S := (· < w98.heap.size)) fl_141 Try.underlying112 rfl rfl rfl hB100 hS101 rfl (hS101.own_ro (i := 0) rfl) hu107 ?_
          intro v108 F109 w110 hk111 hB112 hS113
          have hSW114 := hSW105.wr' hk111.1 hk111.2.1 (fun _ _ h => List.mem_append_left _ (h))
          refine WL.nil (WH.ret hSW114 ?_)
          refine WH.takex (i := 14) rfl (by kernel_rfl) (by kernel_rfl) (by kernel_rfl) hP hSW114 ?_
          refine pr_field (o := 3) (off' := 3) ff_114_2 rfl rfl rfl ?_
          refine WH.one (i := 15) (by kernel_rfl) rfl ?_
          refine wl_store_blk (i := 3) (vs := [v108]) (cs' := [(.int .i64 x2), (.int .i64 u13.1), (.int .i64 u13.2), v108]) tf_112 rfl rfl (cells_one (hS113.own_ro (i := 2) rfl).one) rfl hB112 hS113 rfl rfl ⟨(hS113.own_ro (i := 2) rfl).one, trivial⟩ rfl ?_
          intro w115 hk118 hB116 hS117
          have hSW119 := hSW114.wr' hk118.1 hk118.2.1 (fun _ _ h => List.mem_append_right _ h)
          refine WL.nil (WH.ret hSW119 ?_)
          refine WH.done (by kernel_rfl) ?_
          exact fun a ha => hJ54 (u107) (v108) (F109) _ hF hB116 (hS117.sel [1, 2, 3] rfl) a (ha.sub ⟨rfl, rfl, rfl, rfl, rfl, rfl, rfl, trivial⟩)
      · replace hF := ifN h45 hF
        refine W.exit ?_
        refine fun a ha => hK31 _ _ ?_ a ha
        refine W.seq fun K120 hK120 => ?_
        refine W.region ?_
        refine wl_load_blk (i := 2) (vs := [(.int .i64 x2), (.int .i64 u13.1), (.int .i64 u13.2), v37]) (v := (.agg #[(.int .i64 x2), (.int .i64 u13.1), (.int .i64 u13.2), v37])) tf_114 rfl rfl hS35 rfl rfl rfl ?_
        refine wl_store_blk (i := 0) (vs := [(.int .i64 x2), (.int .i64 u13.1), (.int .i64 u13.2), v37]) (cs' := [(.int .i64 x2), (.int .i64 u13.1), (.int .i64 u13.2), v37]) tf_114 rfl rfl rfl rfl hB34 hS35 rfl rfl ⟨rfl, rfl, rfl, (hS35.own_ro (i := 1) rfl).one, trivial⟩ rfl ?_
        intro w121 hk124 hB122 hS123
        refine WL.nil ?_
        refine fun a ha => hK120 _ _ ?_ a ha
        refine W.ret ?_
        have hr := Option.some.inj hF
        subst hr
        exact rets (vs := [(.agg #[(.int .i64 x2), (.int .i64 u13.1), (.int .i64 u13.2), v37])]) hQ rfl ⟨rv_cell (i := 0) tf_114 rfl hS123 rfl rfl rfl, trivial⟩ ⟨v37, F38, rfl, hB122, hS123.sel [1] rfl⟩
theorem C_spec_PublishSheets (w0 : World) (x0 : ((List (List (Int × Int))) × (List Int) × Int × Int)) (v0_0 : Value) (h0_0 : rdS ty_70 (· < w0.heap.size) w0 v0_0 x0.1) (v0_1 : Value) (h0_1 : rdS ty_3 (· < w0.heap.size) w0 v0_1 x0.2.1) (r : ((List (Int × (Int × Int) × (List (Int × (Int × Int))))) × Bool)) (hF : F_spec_PublishSheets x0 = some r) :
    Calls Try.prog 56 [(.agg #[v0_0, v0_1, (.int .i64 x0.2.2.1), (.int .i64 x0.2.2.2)])].toArray w0 fun e w' => ∃ (q0 : Value) (G0 : List Nat), e = .returned (.tuple #[q0, (.bool r.2)]) ∧ Below w0.heap.size w0 w' ∧ Sep w0.heap.size w' [R.own ty_114 G0 q0 r.1] := by
  refine calls_mk' Try.func56 rfl Try.ntmps56 rfl rfl fun Q hQ hP => ?_
  have hB : Below w0.heap.size w0 w0 := Below.refl _ _
  have hS : Sep w0.heap.size w0 [] := Sep.nil _ _
  unfold F_spec_PublishSheets at hF
  refine W.seq fun K1 hK1 => ?_
  refine W.region ?_
  refine wl_box (cs := [v0_0, v0_1, (.int .i64 x0.2.2.1), (.int .i64 x0.2.2.2)]) rfl rfl rfl hB hS ?_
  intro b2 w3 hb4 hB5 hS6
  refine wl_assign rfl rfl ?_
  refine wl_assign rfl rfl ?_
  refine WL.nil ?_
  refine fun a ha => hK1 _ _ ?_ a ha
  refine W.seq fun K7 hK7 => ?_
  refine W.seq fun K8 hK8 => ?_
  obtain ⟨k13, hk13, hF⟩ := jE1 hF
  have hJ14 : ∀ (y12 : Bool) (w9 : World) (_ : k13 y12 = some r) (_ : Below w0.heap.size w0 w9) (_ : Sep w0.heap.size w9 [R.blk b2 31 [v0_0, v0_1, (.int .i64 x0.2.2.1), (.int .i64 x0.2.2.2)]]), ∀ a, St 34 [(1, (.pointer (some ⟨b2, 0, none⟩))), (14, (.bool y12))] a → K8 a w9 := by
    intro y12 w9 hF hB10 hS11
    subst hk13
    refine fun a ha => hK8 _ _ ?_ a ha
    refine W.cond rfl (fun h15 => ?_) (fun h15 => ?_)
    · replace hF := ifP h15 hF
      refine W.seq fun K16 hK16 => ?_
      refine W.region ?_
      refine wl_assign rfl rfl ?_
      refine wl_assign rfl rfl ?_
      refine WL.nil ?_
      refine fun a ha => hK16 _ _ ?_ a ha
      refine W.ret ?_
      have hS17 := hS11.push0 (r := R.own ty_114 [] (.slice none 0 0) []) rfl fun _ => .inl ⟨rfl, rfl, rfl⟩
      have hr := Option.some.inj hF
      subst hr
      exact rets (vs := [(.slice none 0 0), (.bool false)]) hQ rfl ⟨rv_tmp rfl, rv_tmp rfl, trivial⟩ ⟨(.slice none 0 0), [], rfl, hB10, hS17.sel [0] rfl⟩
    · replace hF := ifN h15 hF
      refine W.skip ?_
      refine fun a ha => hK7 _ _ ?_ a ha
      refine W.seq fun K18 hK18 => ?_
      refine W.region ?_
      refine wl_assign rfl rfl ?_
      refine WL.nil ?_
      refine fun a ha => hK18 _ _ ?_ a ha
      refine W.seq fun K19 hK19 => ?_
      refine W.seq fun K20 hK20 => ?_
      refine W.region ?_
      refine wl_field (o := 0) (off' := 0) ff_31_0 rfl rfl rfl ?_
      refine wl_load_blk (i := 0) (vs := [v0_0]) (v := v0_0) tf_29 rfl rfl hS11 rfl rfl rfl ?_
      obtain ⟨u21, hu21, hF⟩ := bindE hF
      refine wl_index (e := ty_70) Try.underlying29 rfl rfl rfl h0_0 hu21 ?_
      rintro p22 _ ⟨v24, rfl, hv25⟩ hp23
      refine wl_load_p (vs := [v24]) (v := v24) tf_70 rfl rfl (hp23.ro hB10) rfl rfl ?_
      refine wl_lenr (e := ty_54) (l := u21) Try.underlying70 rfl rfl hv25 ?_
      refine wl_move rfl rfl ?_
      refine WL.nil ?_
      refine fun a ha => hK20 _ _ ?_ a ha
      refine W.block ?_
      refine W.loopk (fun m a w26 => ∃ (l29 : (List (Int × (Int × Int) × (List (Int × (Int × Int)))))) (y32 : Int) (v30 : Value) (F31 : List Nat), St 34 [(1, (.pointer (some ⟨b2, 0, none⟩))), (4, v30), (19, (.int .i64 (List.length u21 : Int))), (20, (.int .i64 y32))] a ∧ Below w0.heap.size w0 w26 ∧ Sep w0.heap.size w26 [R.blk b2 31 [v0_0, v0_1, (.int .i64 x0.2.2.1), (.int .i64 x0.2.2.2)], R.own ty_114 F31 v30 l29] ∧ F_spec_PublishSheets_L1 u21 x0 m l29 y32 = some r) FU ?_ ?_
      ·
        have hS34 := hS11.push0 (r := R.own ty_114 [] (.slice none 0 0) []) rfl fun _ => .inl ⟨rfl, rfl, rfl⟩
        exact fun a ha => ⟨[], 0, (.slice none 0 0), [], ha.sub ⟨rfl, rfl, rfl, rfl, trivial⟩, hB10, (hS34.sel [1, 0] rfl), hF⟩
      ·
        rintro m36 a w26 ⟨l29, y32, v30, F31, ha, hB27, hS28, hF⟩ KL35 hKL35
        refine W.at ?_ ha
        cases m36 with
        | zero => exact noneE hF
        | succ m36 =>
          obtain ⟨nx33, hnx33⟩ : ∃ k, k = F_spec_PublishSheets_L1 u21 x0 m36 := ⟨_, rfl⟩
          rw [F_spec_PublishSheets_L1, ← hnx33] at hF
          refine W.seq fun K37 hK37 => ?_
          refine W.region ?_
          refine wl_lss rfl rfl rfl ?_
          refine WL.nil ?_
          refine fun a ha => hK37 _ _ ?_ a ha
          refine W.seq fun K38 hK38 => ?_
          refine W.cond rfl (fun h39 => ?_) (fun h39 => ?_)
          · replace hF := ifP h39 hF
            refine W.skip ?_
            refine fun a ha => hK38 _ _ ?_ a ha
            refine W.seq fun K40 hK40 => ?_
            refine W.block ?_
            refine W.seq fun K41 hK41 => ?_
            refine W.region ?_
            refine wl_move rfl rfl ?_
            refine wl_assign rfl rfl ?_
            refine WL.nil ?_
            refine fun a ha => hK41 _ _ ?_ a ha
            refine W.region ?_
            refine wl_move rfl rfl ?_
            refine wl_field (o := 0) (off' := 0) ff_31_0 rfl rfl rfl ?_
            refine wl_load_blk (i := 0) (vs := [v0_0]) (v := v0_0) tf_29 rfl rfl hS28 rfl rfl rfl ?_
            refine wl_field (o := 1) (off' := 1) ff_31_1 rfl rfl rfl ?_
            refine wl_load_blk (i := 0) (vs := [v0_1]) (v := v0_1) tf_23 rfl rfl hS28 rfl rfl rfl ?_
            refine wl_move rfl rfl ?_
            obtain ⟨u42, hu42, hF⟩ := bindE hF
            refine wl_call rfl Try.call100 (C_spec_shOf w26 x0.1 v0_0 (h0_0.ro hB27) x0.2.1 v0_1 (h0_1.ro hB27) y32 _ hu42) rfl ?_
            rintro _ w45 ⟨v43, F44, rfl, hb46, hM49⟩
            refine ⟨_, rfl, ?_⟩
            have hB47 := hB27.trans (hb46.mono hB27.size)
            have hS48 := hS28.join hb46 hM49 hB27.size
            have hq50 := hS48.sel [0, 1, 2] rfl
            have hq51 := hq50.head (r' := R.cel ty_114 F44 [(.int .i64 u42.1), (.int .i64 u42.2.1.1), (.int .i64 u42.2.1.2), v43] u42) (rfl) fun _ h0 => ⟨[(.int .i64 u42.1)], [(.int .i64 u42.2.1.1), (.int .i64 u42.2.1.2), v43], [], F44, rfl, rfl, ⟨rfl, rfl⟩, ⟨[(.int .i64 u42.2.1.1), (.int .i64 u42.2.1.2)], [v43], [], F44, rfl, rfl, ⟨rfl, rfl⟩, ⟨_, rfl, h0⟩⟩⟩
            refine wl_lit1 (e := ty_114) (vs := [(.int .i64 u42.1), (.int .i64 u42.2.1.1), (.int .i64 u42.2.1.2), v43]) Try.underlying76 rfl rfl rfl rfl hB47 hq51 ?_
            intro v52 F53 w54 hb55 hf56 hB57 hS58
            obtain ⟨u59, hu59, hF⟩ := bindE hF
            refine wl_appendn (e := ty_114) Try.underlying76 rfl rfl rfl hB57 (hS58.sel [2, 0, 1] rfl) hu59 ?_
            intro v60 F61 w62 hk63 hB64 hS65
            refine wl_assign rfl rfl ?_
            refine WL.nil ?_
            refine fun a ha => hK40 _ _ ?_ a ha
            refine W.region ?_
            refine wl_add rfl rfl rfl ?_
            refine wl_move rfl rfl ?_
            refine WL.nil ?_
            rw [hnx33] at hF
            exact fun a ha => hKL35 a _ m36 (Nat.lt_succ_self m36) ⟨u59, (w64 (y32 + 1)), v60, F61, ha.sub ⟨rfl, rfl, rfl, rfl, trivial⟩, hB64, (hS65.sel [1, 0] rfl), hF⟩
          · replace hF := ifN h39 hF
            refine W.exit ?_
            refine fun a ha => hK19 _ _ ?_ a ha
            refine W.seq fun K66 hK66 => ?_
            refine W.region ?_
            refine wl_move rfl rfl ?_
            refine wl_assign rfl rfl ?_
            refine wl_assign rfl rfl ?_
            refine WL.nil ?_
            refine fun a ha => hK66 _ _ ?_ a ha
            refine W.ret ?_
            have hr := Option.some.inj hF
            subst hr
            exact rets (vs := [v30, (.bool true)]) hQ rfl ⟨rv_tmp rfl, rv_tmp rfl, trivial⟩ ⟨v30, F31, rfl, hB27, hS28.sel [1] rfl⟩
  refine W.region ?_
  refine wl_load_blk (i := 0) (vs := [v0_0, v0_1, (.int .i64 x0.2.2.1), (.int .i64 x0.2.2.2)]) (v := (.agg #[v0_0, v0_1, (.int .i64 x0.2.2.1), (.int .i64 x0.2.2.2)])) tf_31 rfl rfl hS6 rfl rfl rfl ?_
  obtain ⟨u67, hu67, hF⟩ := bindE hF
  refine wl_call rfl Try.call63 (C_spec_swGood w3 x0 v0_0 (h0_0.ro hB5) v0_1 (h0_1.ro hB5) _ hu67) rfl ?_
  rintro _ w68 ⟨rfl, hb69⟩
  refine ⟨_, rfl, ?_⟩
  have hB70 := hB5.trans (hb69.mono hB5.size)
  have hS71 := hS6.below hb69
  refine wl_not rfl rfl ?_
  refine wl_move rfl rfl ?_
  rcases bE (!u67) with h73 | h73
  · replace hF := ifP h73 hF
    refine wl_off rfl rfl rfl h73 ?_
    refine wl_off rfl rfl rfl h73 ?_
    refine wl_off rfl rfl rfl h73 ?_
    refine wl_off rfl rfl rfl h73 ?_
    refine wl_pick_t rfl rfl h73 rfl ?_
    refine WL.nil ?_
    exact fun a ha => hJ14 (true) _ hF hB70 (hS71.sel [0] rfl) a (ha.sub ⟨rfl, rfl, trivial⟩)
  · replace hF := ifN h73 hF
    refine wl_on rfl rfl h73 ?_
    refine wl_load_blk (i := 0) (vs := [v0_0, v0_1, (.int .i64 x0.2.2.1), (.int .i64 x0.2.2.2)]) (v := (.agg #[v0_0, v0_1, (.int .i64 x0.2.2.1), (.int .i64 x0.2.2.2)])) tf_31 rfl rfl hS71 rfl rfl rfl ?_
    refine wl_on rfl rfl h73 ?_
    obtain ⟨u74, hu74, hF⟩ := bindE hF
    refine wl_call rfl Try.call64 (C_spec_swUnsafe w68 x0 v0_0 (h0_0.ro hB70) v0_1 (h0_1.ro hB70) _ hu74) rfl ?_
    rintro _ w77 ⟨v75, F76, rfl, hb78, hM81⟩
    refine ⟨_, rfl, ?_⟩
    have hB79 := hB70.trans (hb78.mono hB70.size)
    have hS80 := hS71.join hb78 hM81 hB70.size
    refine wl_on rfl rfl h73 ?_
    refine wl_lenr (e := ty_3) (l := u74) Try.underlying23 rfl rfl (hS80.own_ro (i := 0) rfl) ?_
    refine wl_on rfl rfl h73 ?_
    refine wl_gtr rfl rfl rfl ?_
    refine wl_pick_f rfl rfl h73 rfl ?_
    refine WL.nil ?_
    exact fun a ha => hJ14 ((decide (0 < (List.length u74 : Int)))) _ hF hB79 (hS80.sel [1] rfl) a (ha.sub ⟨rfl, rfl, trivial⟩)
theorem C_impl_PublishSheets (w0 : World) (x0 : ((List (List (Int × Int))) × (List Int) × Int × Int)) (v0_0 : Value) (h0_0 : rdS ty_70 (· < w0.heap.size) w0 v0_0 x0.1) (v0_1 : Value) (h0_1 : rdS ty_3 (· < w0.heap.size) w0 v0_1 x0.2.1) (r : ((List (Int × (Int × Int) × (List (Int × (Int × Int))))) × Bool)) (hF : F_impl_PublishSheets x0 = some r) :
    Calls Try.prog 57 [(.agg #[v0_0, v0_1, (.int .i64 x0.2.2.1), (.int .i64 x0.2.2.2)])].toArray w0 fun e w' => ∃ (q0 : Value) (G0 : List Nat), e = .returned (.tuple #[q0, (.bool r.2)]) ∧ Below w0.heap.size w0 w' ∧ Sep w0.heap.size w' [R.own ty_114 G0 q0 r.1] := by
  refine calls_mk' Try.func57 rfl Try.ntmps57 rfl rfl fun Q hQ hP => ?_
  have hB : Below w0.heap.size w0 w0 := Below.refl _ _
  have hS : Sep w0.heap.size w0 [] := Sep.nil _ _
  unfold F_impl_PublishSheets at hF
  refine W.seq fun K1 hK1 => ?_
  refine W.region ?_
  refine wl_box (cs := [v0_0, v0_1, (.int .i64 x0.2.2.1), (.int .i64 x0.2.2.2)]) rfl rfl rfl hB hS ?_
  intro b2 w3 hb4 hB5 hS6
  refine wl_assign rfl rfl ?_
  refine wl_assign rfl rfl ?_
  refine WL.nil ?_
  refine fun a ha => hK1 _ _ ?_ a ha
  refine W.seq fun K7 hK7 => ?_
  refine W.seq fun K8 hK8 => ?_
  obtain ⟨k13, hk13, hF⟩ := jE1 hF
  have hJ14 : ∀ (y12 : Bool) (w9 : World) (_ : k13 y12 = some r) (_ : Below w0.heap.size w0 w9) (_ : Sep w0.heap.size w9 [R.blk b2 31 [v0_0, v0_1, (.int .i64 x0.2.2.1), (.int .i64 x0.2.2.2)]]), ∀ a, St 35 [(1, (.pointer (some ⟨b2, 0, none⟩))), (14, (.bool y12))] a → K8 a w9 := by
    intro y12 w9 hF hB10 hS11
    subst hk13
    refine fun a ha => hK8 _ _ ?_ a ha
    refine W.cond rfl (fun h15 => ?_) (fun h15 => ?_)
    · replace hF := ifP h15 hF
      refine W.seq fun K16 hK16 => ?_
      refine W.region ?_
      refine wl_assign rfl rfl ?_
      refine wl_assign rfl rfl ?_
      refine WL.nil ?_
      refine fun a ha => hK16 _ _ ?_ a ha
      refine W.ret ?_
      have hS17 := hS11.push0 (r := R.own ty_114 [] (.slice none 0 0) []) rfl fun _ => .inl ⟨rfl, rfl, rfl⟩
      have hr := Option.some.inj hF
      subst hr
      exact rets (vs := [(.slice none 0 0), (.bool false)]) hQ rfl ⟨rv_tmp rfl, rv_tmp rfl, trivial⟩ ⟨(.slice none 0 0), [], rfl, hB10, hS17.sel [0] rfl⟩
    · replace hF := ifN h15 hF
      refine W.skip ?_
      refine fun a ha => hK7 _ _ ?_ a ha
      refine W.seq fun K18 hK18 => ?_
      refine W.region ?_
      refine wl_lit0 (e := ty_114) Try.underlying76 rfl hB10 hS11 ?_
      intro v19 F20 w21 hb22 hB23 hS24
      refine wl_assign rfl rfl ?_
      refine WL.nil ?_
      refine fun a ha => hK18 _ _ ?_ a ha
      refine W.seq fun K25 hK25 => ?_
      refine W.seq fun K26 hK26 => ?_
      refine W.region ?_
      refine wl_field (o := 0) (off' := 0) ff_31_0 rfl rfl rfl ?_
      refine wl_load_blk (i := 1) (vs := [v0_0]) (v := v0_0) tf_29 rfl rfl hS24 rfl rfl rfl ?_
      obtain ⟨u27, hu27, hF⟩ := bindE hF
      refine wl_index (e := ty_70) Try.underlying29 rfl rfl rfl h0_0 hu27 ?_
      rintro p28 _ ⟨v30, rfl, hv31⟩ hp29
      refine wl_load_p (vs := [v30]) (v := v30) tf_70 rfl rfl (hp29.ro hB23) rfl rfl ?_
      refine wl_lenr (e := ty_54) (l := u27) Try.underlying70 rfl rfl hv31 ?_
      refine wl_move rfl rfl ?_
      refine WL.nil ?_
      refine fun a ha => hK26 _ _ ?_ a ha
      refine W.block ?_
      refine W.loopk (fun m a w32 => ∃ (l35 : (List (Int × (Int × Int) × (List (Int × (Int × Int)))))) (y38 : Int) (v36 : Value) (F37 : List Nat), St 35 [(1, (.pointer (some ⟨b2, 0, none⟩))), (4, v36), (20, (.int .i64 (List.length u27 : Int))), (21, (.int .i64 y38))] a ∧ Below w0.heap.size w0 w32 ∧ Sep w0.heap.size w32 [R.blk b2 31 [v0_0, v0_1, (.int .i64 x0.2.2.1), (.int .i64 x0.2.2.2)], R.own ty_114 F37 v36 l35] ∧ F_impl_PublishSheets_L1 u27 x0 m l35 y38 = some r) FU ?_ ?_
      ·
        exact fun a ha => ⟨[], 0, v19, F20, ha.sub ⟨rfl, rfl, rfl, rfl, trivial⟩, hB23, (hS24.sel [1, 0] rfl), hF⟩
      ·
        rintro m41 a w32 ⟨l35, y38, v36, F37, ha, hB33, hS34, hF⟩ KL40 hKL40
        refine W.at ?_ ha
        cases m41 with
        | zero => exact noneE hF
        | succ m41 =>
          obtain ⟨nx39, hnx39⟩ : ∃ k, k = F_impl_PublishSheets_L1 u27 x0 m41 := ⟨_, rfl⟩
          rw [F_impl_PublishSheets_L1, ← hnx39] at hF
          refine W.seq fun K42 hK42 => ?_
          refine W.region ?_
          refine wl_lss rfl rfl rfl ?_
          refine WL.nil ?_
          refine fun a ha => hK42 _ _ ?_ a ha
          refine W.seq fun K43 hK43 => ?_
          refine W.cond rfl (fun h44 => ?_) (fun h44 => ?_)
          · replace hF := ifP h44 hF
            refine W.skip ?_
            refine fun a ha => hK43 _ _ ?_ a ha
            refine W.seq fun K45 hK45 => ?_
            refine W.block ?_
            refine W.seq fun K46 hK46 => ?_
            refine W.region ?_
            refine wl_move rfl rfl ?_
            refine wl_assign rfl rfl ?_
            refine WL.nil ?_
            refine fun a ha => hK46 _ _ ?_ a ha
            refine W.region ?_
            refine wl_move rfl rfl ?_
            refine wl_field (o := 0) (off' := 0) ff_31_0 rfl rfl rfl ?_
            refine wl_load_blk (i := 0) (vs := [v0_0]) (v := v0_0) tf_29 rfl rfl hS34 rfl rfl rfl ?_
            refine wl_field (o := 1) (off' := 1) ff_31_1 rfl rfl rfl ?_
            refine wl_load_blk (i := 0) (vs := [v0_1]) (v := v0_1) tf_23 rfl rfl hS34 rfl rfl rfl ?_
            refine wl_move rfl rfl ?_
            obtain ⟨u47, hu47, hF⟩ := bindE hF
            refine wl_call rfl Try.call101 (C_impl_sheetOf w32 x0.1 v0_0 (h0_0.ro hB33) x0.2.1 v0_1 (h0_1.ro hB33) y38 _ hu47) rfl ?_
            rintro _ w50 ⟨v48, F49, rfl, hb51, hM54⟩
            refine ⟨_, rfl, ?_⟩
            have hB52 := hB33.trans (hb51.mono hB33.size)
            have hS53 := hS34.join hb51 hM54 hB33.size
            have hq55 := hS53.sel [0, 1, 2] rfl
            have hq56 := hq55.head (r' := R.cel ty_114 F49 [(.int .i64 u47.1), (.int .i64 u47.2.1.1), (.int .i64 u47.2.1.2), v48] u47) (rfl) fun _ h0 => ⟨[(.int .i64 u47.1)], [(.int .i64 u47.2.1.1), (.int .i64 u47.2.1.2), v48], [], F49, rfl, rfl, ⟨rfl, rfl⟩, ⟨[(.int .i64 u47.2.1.1), (.int .i64 u47.2.1.2)], [v48], [], F49, rfl, rfl, ⟨rfl, rfl⟩, ⟨_, rfl, h0⟩⟩⟩
            refine wl_lit1 (e := ty_114) (vs := [(.int .i64 u47.1), (.int .i64 u47.2.1.1), (.int .i64 u47.2.1.2), v48]) Try.underlying76 rfl rfl rfl rfl hB52 hq56 ?_
            intro v57 F58 w59 hb60 hf61 hB62 hS63
            obtain ⟨u64, hu64, hF⟩ := bindE hF
            refine wl_appendn (e := ty_114) Try.underlying76 rfl rfl rfl hB62 (hS63.sel [2, 0, 1] rfl) hu64 ?_
            intro v65 F66 w67 hk68 hB69 hS70
            refine wl_assign rfl rfl ?_
            refine WL.nil ?_
            refine fun a ha => hK45 _ _ ?_ a ha
            refine W.region ?_
            refine wl_add rfl rfl rfl ?_
            refine wl_move rfl rfl ?_
            refine WL.nil ?_
            rw [hnx39] at hF
            exact fun a ha => hKL40 a _ m41 (Nat.lt_succ_self m41) ⟨u64, (w64 (y38 + 1)), v65, F66, ha.sub ⟨rfl, rfl, rfl, rfl, trivial⟩, hB69, (hS70.sel [1, 0] rfl), hF⟩
          · replace hF := ifN h44 hF
            refine W.exit ?_
            refine fun a ha => hK25 _ _ ?_ a ha
            refine W.seq fun K71 hK71 => ?_
            refine W.region ?_
            refine wl_move rfl rfl ?_
            refine wl_assign rfl rfl ?_
            refine wl_assign rfl rfl ?_
            refine WL.nil ?_
            refine fun a ha => hK71 _ _ ?_ a ha
            refine W.ret ?_
            have hr := Option.some.inj hF
            subst hr
            exact rets (vs := [v36, (.bool true)]) hQ rfl ⟨rv_tmp rfl, rv_tmp rfl, trivial⟩ ⟨v36, F37, rfl, hB33, hS34.sel [1] rfl⟩
  refine W.region ?_
  refine wl_load_blk (i := 0) (vs := [v0_0, v0_1, (.int .i64 x0.2.2.1), (.int .i64 x0.2.2.2)]) (v := (.agg #[v0_0, v0_1, (.int .i64 x0.2.2.1), (.int .i64 x0.2.2.2)])) tf_31 rfl rfl hS6 rfl rfl rfl ?_
  obtain ⟨u72, hu72, hF⟩ := bindE hF
  refine wl_call rfl Try.call67 (C_impl_IsShow w3 x0 v0_0 (h0_0.ro hB5) v0_1 (h0_1.ro hB5) _ hu72) rfl ?_
  rintro _ w73 ⟨rfl, hb74⟩
  refine ⟨_, rfl, ?_⟩
  have hB75 := hB5.trans (hb74.mono hB5.size)
  have hS76 := hS6.below hb74
  refine wl_not rfl rfl ?_
  refine wl_move rfl rfl ?_
  rcases bE (!u72) with h78 | h78
  · replace hF := ifP h78 hF
    refine wl_off rfl rfl rfl h78 ?_
    refine wl_off rfl rfl rfl h78 ?_
    refine wl_off rfl rfl rfl h78 ?_
    refine wl_off rfl rfl rfl h78 ?_
    refine wl_pick_t rfl rfl h78 rfl ?_
    refine WL.nil ?_
    exact fun a ha => hJ14 (true) _ hF hB75 (hS76.sel [0] rfl) a (ha.sub ⟨rfl, rfl, trivial⟩)
  · replace hF := ifN h78 hF
    refine wl_on rfl rfl h78 ?_
    refine wl_load_blk (i := 0) (vs := [v0_0, v0_1, (.int .i64 x0.2.2.1), (.int .i64 x0.2.2.2)]) (v := (.agg #[v0_0, v0_1, (.int .i64 x0.2.2.1), (.int .i64 x0.2.2.2)])) tf_31 rfl rfl hS76 rfl rfl rfl ?_
    refine wl_on rfl rfl h78 ?_
    obtain ⟨u79, hu79, hF⟩ := bindE hF
    refine wl_call rfl Try.call68 (C_impl_unsafParts w73 x0 v0_0 (h0_0.ro hB75) v0_1 (h0_1.ro hB75) _ hu79) rfl ?_
    rintro _ w82 ⟨v80, F81, rfl, hb83, hM86⟩
    refine ⟨_, rfl, ?_⟩
    have hB84 := hB75.trans (hb83.mono hB75.size)
    have hS85 := hS76.join hb83 hM86 hB75.size
    refine wl_on rfl rfl h78 ?_
    refine wl_lenr (e := ty_3) (l := u79) Try.underlying23 rfl rfl (hS85.own_ro (i := 0) rfl) ?_
    refine wl_on rfl rfl h78 ?_
    refine wl_gtr rfl rfl rfl ?_
    refine wl_pick_f rfl rfl h78 rfl ?_
    refine WL.nil ?_
    exact fun a ha => hJ14 ((decide (0 < (List.length u79 : Int)))) _ hF hB84 (hS85.sel [1] rfl) a (ha.sub ⟨rfl, rfl, trivial⟩)
theorem C_laws_eqRow (w0 : World) (x0 : (Int × (Int × Int))) (x1 : (Int × (Int × Int))) (r : Bool) (hF : F_laws_eqRow x0 x1 = some r) :
    Calls Try.prog 164 [(.agg #[(.int .i64 x0.1), (.int .i64 x0.2.1), (.int .i64 x0.2.2)]), (.agg #[(.int .i64 x1.1), (.int .i64 x1.2.1), (.int .i64 x1.2.2)])].toArray w0 fun e w' => e = .returned (.bool r) ∧ Below w0.heap.size w0 w' := by
  refine calls_mk' Try.func164 rfl Try.ntmps164 rfl rfl fun Q hQ hP => ?_
  have hB : Below w0.heap.size w0 w0 := Below.refl _ _
  have hS : Sep w0.heap.size w0 [] := Sep.nil _ _
  unfold F_laws_eqRow at hF
  refine W.seq fun K1 hK1 => ?_
  refine W.region ?_
  refine wl_box (cs := [(.int .i64 x0.1), (.int .i64 x0.2.1), (.int .i64 x0.2.2)]) rfl rfl rfl hB hS ?_
  intro b2 w3 hb4 hB5 hS6
  refine wl_box (cs := [(.int .i64 x1.1), (.int .i64 x1.2.1), (.int .i64 x1.2.2)]) rfl rfl rfl hB5 hS6 ?_
  intro b7 w8 hb9 hB10 hS11
  refine wl_assign rfl rfl ?_
  refine WL.nil ?_
  refine fun a ha => hK1 _ _ ?_ a ha
  refine W.seq fun K12 hK12 => ?_
  refine W.seq fun K13 hK13 => ?_
  refine W.region ?_
  refine wl_field (o := 0) (off' := 0) ff_141_0 rfl rfl rfl ?_
  refine wl_load_blk (i := 1) (vs := [(.int .i64 x0.1)]) (v := (.int .i64 x0.1)) tf_3 rfl rfl hS11 rfl rfl rfl ?_
  refine wl_field (o := 0) (off' := 0) ff_141_0 rfl rfl rfl ?_
  refine wl_load_blk (i := 0) (vs := [(.int .i64 x1.1)]) (v := (.int .i64 x1.1)) tf_3 rfl rfl hS11 rfl rfl rfl ?_
  refine wl_neq rfl rfl rfl ?_
  refine WL.nil ?_
  refine fun a ha => hK13 _ _ ?_ a ha
  refine W.cond rfl (fun h14 => ?_) (fun h14 => ?_)
  · replace hF := ifP h14 hF
    refine W.seq fun K15 hK15 => ?_
    refine W.region ?_
    refine wl_assign rfl rfl ?_
    refine WL.nil ?_
    refine fun a ha => hK15 _ _ ?_ a ha
    refine W.ret ?_
    have hr := Option.some.inj hF
    subst hr
    exact rets (vs := [(.bool false)]) hQ rfl ⟨rv_tmp rfl, trivial⟩ ⟨rfl, hB10⟩
  · replace hF := ifN h14 hF
    refine W.skip ?_
    refine fun a ha => hK12 _ _ ?_ a ha
    refine W.seq fun K16 hK16 => ?_
    refine W.seq fun K17 hK17 => ?_
    refine W.region ?_
    refine wl_field (o := 1) (off' := 1) ff_141_1 rfl rfl rfl ?_
    refine wl_load_blk (i := 1) (vs := [(.int .i64 x0.2.1), (.int .i64 x0.2.2)]) (v := (.agg #[(.int .i64 x0.2.1), (.int .i64 x0.2.2)])) tf_54 rfl rfl hS11 rfl rfl rfl ?_
    refine wl_field (o := 1) (off' := 1) ff_141_1 rfl rfl rfl ?_
    refine wl_load_blk (i := 0) (vs := [(.int .i64 x1.2.1), (.int .i64 x1.2.2)]) (v := (.agg #[(.int .i64 x1.2.1), (.int .i64 x1.2.2)])) tf_54 rfl rfl hS11 rfl rfl rfl ?_
    obtain ⟨u18, hu18, hF⟩ := bindE hF
    refine wl_call rfl Try.call39 (C_laws_eqSpot w8 x0.2 x1.2 _ hu18) rfl ?_
    rintro _ w19 ⟨rfl, hb20⟩
    refine ⟨_, rfl, ?_⟩
    have hB21 := hB10.trans (hb20.mono hB10.size)
    have hS22 := hS11.below hb20
    refine wl_not rfl rfl ?_
    refine WL.nil ?_
    refine fun a ha => hK17 _ _ ?_ a ha
    refine W.cond rfl (fun h24 => ?_) (fun h24 => ?_)
    · replace hF := ifP h24 hF
      refine W.seq fun K25 hK25 => ?_
      refine W.region ?_
      refine wl_assign rfl rfl ?_
      refine WL.nil ?_
      refine fun a ha => hK25 _ _ ?_ a ha
      refine W.ret ?_
      have hr := Option.some.inj hF
      subst hr
      exact rets (vs := [(.bool false)]) hQ rfl ⟨rv_tmp rfl, trivial⟩ ⟨rfl, hB21⟩
    · replace hF := ifN h24 hF
      refine W.skip ?_
      refine fun a ha => hK16 _ _ ?_ a ha
      refine W.seq fun K26 hK26 => ?_
      refine W.region ?_
      refine wl_assign rfl rfl ?_
      refine WL.nil ?_
      refine fun a ha => hK26 _ _ ?_ a ha
      refine W.ret ?_
      have hr := Option.some.inj hF
      subst hr
      exact rets (vs := [(.bool true)]) hQ rfl ⟨rv_tmp rfl, trivial⟩ ⟨rfl, hB21⟩
theorem C_laws_eqRowS (w0 : World) (x0 : (List (Int × (Int × Int)))) (v0_0 : Value) (h0_0 : rdS ty_141 (· < w0.heap.size) w0 v0_0 x0) (x1 : (List (Int × (Int × Int)))) (v1_0 : Value) (h1_0 : rdS ty_141 (· < w0.heap.size) w0 v1_0 x1) (r : Bool) (hF : F_laws_eqRowS x0 x1 = some r) :
    Calls Try.prog 142 [v0_0, v1_0].toArray w0 fun e w' => e = .returned (.bool r) ∧ Below w0.heap.size w0 w' := by
  refine calls_mk' Try.func142 rfl Try.ntmps142 rfl rfl fun Q hQ hP => ?_
  have hB : Below w0.heap.size w0 w0 := Below.refl _ _
  have hS : Sep w0.heap.size w0 [] := Sep.nil _ _
  unfold F_laws_eqRowS at hF
  refine W.seq fun K1 hK1 => ?_
  refine W.region ?_
  refine wl_assign rfl rfl ?_
  refine WL.nil ?_
  refine fun a ha => hK1 _ _ ?_ a ha
  refine W.seq fun K2 hK2 => ?_
  refine W.seq fun K3 hK3 => ?_
  refine W.region ?_
  refine wl_move rfl rfl ?_
  refine wl_lenr (e := ty_141) (l := x0) Try.underlying112 rfl rfl h0_0 ?_
  refine wl_move rfl rfl ?_
  refine wl_lenr (e := ty_141) (l := x1) Try.underlying112 rfl rfl h1_0 ?_
  refine wl_neq rfl rfl rfl ?_
  refine WL.nil ?_
  refine fun a ha => hK3 _ _ ?_ a ha
  refine W.cond rfl (fun h4 => ?_) (fun h4 => ?_)
  · replace hF := ifP h4 hF
    refine W.seq fun K5 hK5 => ?_
    refine W.region ?_
    refine wl_assign rfl rfl ?_
    refine WL.nil ?_
    refine fun a ha => hK5 _ _ ?_ a ha
    refine W.ret ?_
    have hr := Option.some.inj hF
    subst hr
    exact rets (vs := [(.bool false)]) hQ rfl ⟨rv_tmp rfl, trivial⟩ ⟨rfl, hB⟩
  · replace hF := ifN h4 hF
    refine W.skip ?_
    refine fun a ha => hK2 _ _ ?_ a ha
    refine W.seq fun K6 hK6 => ?_
    refine W.seq fun K7 hK7 => ?_
    refine W.region ?_
    refine wl_assign rfl rfl ?_
    refine WL.nil ?_
    refine fun a ha => hK7 _ _ ?_ a ha
    refine W.block ?_
    refine W.loopk (fun m a w8 => ∃ (y11 : Int), St 27 [(0, v0_0), (1, v1_0), (5, (.int .i64 y11))] a ∧ Below w0.heap.size w0 w8 ∧ Sep w0.heap.size w8 [] ∧ F_laws_eqRowS_L1 x0 x1 m y11 = some r) FU ?_ ?_
    ·
      exact fun a ha => ⟨0, ha.sub ⟨rfl, rfl, rfl, trivial⟩, hB, (hS.sel [] rfl), hF⟩
    ·
      rintro m14 a w8 ⟨y11, ha, hB9, hS10, hF⟩ KL13 hKL13
      refine W.at ?_ ha
      cases m14 with
      | zero => exact noneE hF
      | succ m14 =>
        obtain ⟨nx12, hnx12⟩ : ∃ k, k = F_laws_eqRowS_L1 x0 x1 m14 := ⟨_, rfl⟩
        rw [F_laws_eqRowS_L1, ← hnx12] at hF
        refine W.seq fun K15 hK15 => ?_
        refine W.seq fun K16 hK16 => ?_
        refine W.region ?_
        refine wl_move rfl rfl ?_
        refine wl_move rfl rfl ?_
        refine wl_lenr (e := ty_141) (l := x0) Try.underlying112 rfl rfl h0_0 ?_
        refine wl_lss rfl rfl rfl ?_
        refine WL.nil ?_
        refine fun a ha => hK16 _ _ ?_ a ha
        refine W.cond rfl (fun h17 => ?_) (fun h17 => ?_)
        · replace hF := ifP h17 hF
          refine W.skip ?_
          refine fun a ha => hK15 _ _ ?_ a ha
          refine W.seq fun K18 hK18 => ?_
          refine W.block ?_
          refine W.seq fun K19 hK19 => ?_
          refine W.regionH mixed_ [] hB9 hS10 ?_
          intro w20 hb21 hB22 hS23
          have hSW24 := KeepX.refl w20 []
          refine WH.takex (i := 0) rfl (by kernel_rfl) (by kernel_rfl) (by kernel_rfl) hP hSW24 ?_
          refine pr_move rfl rfl ?_
          refine WH.takex (i := 1) rfl (by kernel_rfl) (by kernel_rfl) (by kernel_rfl) hP hSW24 ?_
          refine pr_move rfl rfl ?_
          obtain ⟨u25, hu25, hF⟩ := bindE hF
          refine WH.takex (i := 2) rfl (by kernel_rfl) (by kernel_rfl) (by kernel_rfl) hP hSW24 ?_
          refine pr_index (e := ty_141) Try.underlying112 rfl rfl rfl h0_0 hu25 ?_
          rintro p26 _ rfl hp27
          refine WH.takex (i := 3) rfl (by kernel_rfl) (by kernel_rfl) (by kernel_rfl) hP hSW24 ?_
          refine pr_load_p (vs := [(.int .i64 u25.1), (.int .i64 u25.2.1), (.int .i64 u25.2.2)]) (v := (.agg #[(.int .i64 u25.1), (.int .i64 u25.2.1), (.int .i64 u25.2.2)])) tf_141 rfl rfl (hp27.kx hB22 (by simp)) rfl rfl ?_
          refine WH.takex (i := 4) rfl (by kernel_rfl) (by kernel_rfl) (by kernel_rfl) hP hSW24 ?_
          refine pr_move rfl rfl ?_
          refine WH.takex (i := 5) rfl (by kernel_rfl) (by kernel_rfl) (by kernel_rfl) hP hSW24 ?_
          refine pr_move rfl rfl ?_
          obtain ⟨u28, hu28, hF⟩ := bindE hF
          refine WH.takex (i := 6) rfl (by kernel_rfl) (by kernel_rfl) (by kernel_rfl) hP hSW24 ?_
          refine pr_index (e := ty_141) Try.underlying112 rfl rfl rfl h1_0 hu28 ?_
          rintro p29 _ rfl hp30
          refine WH.takex (i := 7) rfl (by kernel_rfl) (by kernel_rfl) (by kernel_rfl) hP hSW24 ?_
          refine pr_load_p (vs := [(.int .i64 u28.1), (.int .i64 u28.2.1), (.int .i64 u28.2.2)]) (v := (.agg #[(.int .i64 u28.1), (.int .i64 u28.2.1), (.int .i64 u28.2.2)])) tf_141 rfl rfl (hp30.kx hB22 (by simp)) rfl rfl ?_
          refine WH.one (i := 8) (by kernel_rfl) rfl ?_
          obtain ⟨u31, hu31, hF⟩ := bindE hF
          refine wl_call rfl Try.call164 (C_laws_eqRow w20 u25 u28 _ hu31) rfl ?_
          rintro _ w32 ⟨rfl, hb33⟩
          refine ⟨_, rfl, ?_⟩
          have hB34 := hB22.trans (hb33.mono hB22.size)
          have hS35 := hS23.below hb33
          have hSW37 := hSW24.ext hb33
          refine WL.nil (WH.ret hSW37 ?_)
          refine WH.takex (i := 9) rfl (by kernel_rfl) (by kernel_rfl) (by kernel_rfl) hP hSW37 ?_
          refine pr_not rfl rfl ?_
          refine WH.done (by kernel_rfl) ?_
          refine fun a ha => hK19 _ _ ?_ a ha
          refine W.cond rfl (fun h38 => ?_) (fun h38 => ?_)
          · replace hF := ifP h38 hF
            refine W.seq fun K39 hK39 => ?_
            refine W.region ?_
            refine wl_assign rfl rfl ?_
            refine WL.nil ?_
            refine fun a ha => hK39 _ _ ?_ a ha
            refine W.ret ?_
            have hr := Option.some.inj hF
            subst hr
            exact rets (vs := [(.bool false)]) hQ rfl ⟨rv_tmp rfl, trivial⟩ ⟨rfl, hB34⟩
          · replace hF := ifN h38 hF
            refine W.skip ?_
            refine fun a ha => hK18 _ _ ?_ a ha
            refine W.region ?_
            refine wl_move rfl rfl ?_
            refine wl_add rfl rfl rfl ?_
            refine wl_assign rfl rfl ?_
            refine WL.nil ?_
            rw [hnx12] at hF
            exact fun a ha => hKL13 a _ m14 (Nat.lt_succ_self m14) ⟨(w64 (y11 + 1)), ha.sub ⟨rfl, rfl, rfl, trivial⟩, hB34, (hS35.sel [] rfl), hF⟩
        · replace hF := ifN h17 hF
          refine W.exit ?_
          refine fun a ha => hK6 _ _ ?_ a ha
          refine W.seq fun K40 hK40 => ?_
          refine W.region ?_
          refine wl_assign rfl rfl ?_
          refine WL.nil ?_
          refine fun a ha => hK40 _ _ ?_ a ha
          refine W.ret ?_
          have hr := Option.some.inj hF
          subst hr
          exact rets (vs := [(.bool true)]) hQ rfl ⟨rv_tmp rfl, trivial⟩ ⟨rfl, hB9⟩
theorem C_laws_eqSheet (w0 : World) (x0 : (Int × (Int × Int) × (List (Int × (Int × Int))))) (v0_0 : Value) (h0_0 : rdS ty_141 (· < w0.heap.size) w0 v0_0 x0.2.2) (x1 : (Int × (Int × Int) × (List (Int × (Int × Int))))) (v1_0 : Value) (h1_0 : rdS ty_141 (· < w0.heap.size) w0 v1_0 x1.2.2) (r : Bool) (hF : F_laws_eqSheet x0 x1 = some r) :
    Calls Try.prog 102 [(.agg #[(.int .i64 x0.1), (.int .i64 x0.2.1.1), (.int .i64 x0.2.1.2), v0_0]), (.agg #[(.int .i64 x1.1), (.int .i64 x1.2.1.1), (.int .i64 x1.2.1.2), v1_0])].toArray w0 fun e w' => e = .returned (.bool r) ∧ Below w0.heap.size w0 w' := by
  refine calls_mk' Try.func102 rfl Try.ntmps102 rfl rfl fun Q hQ hP => ?_
  have hB : Below w0.heap.size w0 w0 := Below.refl _ _
  have hS : Sep w0.heap.size w0 [] := Sep.nil _ _
  unfold F_laws_eqSheet at hF
  refine W.seq fun K1 hK1 => ?_
  refine W.region ?_
  refine wl_box (cs := [(.int .i64 x0.1), (.int .i64 x0.2.1.1), (.int .i64 x0.2.1.2), v0_0]) rfl rfl rfl hB hS ?_
  intro b2 w3 hb4 hB5 hS6
  refine wl_box (cs := [(.int .i64 x1.1), (.int .i64 x1.2.1.1), (.int .i64 x1.2.1.2), v1_0]) rfl rfl rfl hB5 hS6 ?_
  intro b7 w8 hb9 hB10 hS11
  refine wl_assign rfl rfl ?_
  refine WL.nil ?_
  refine fun a ha => hK1 _ _ ?_ a ha
  refine W.seq fun K12 hK12 => ?_
  refine W.seq fun K13 hK13 => ?_
  refine W.region ?_
  refine wl_field (o := 0) (off' := 0) ff_114_0 rfl rfl rfl ?_
  refine wl_load_blk (i := 1) (vs := [(.int .i64 x0.1)]) (v := (.int .i64 x0.1)) tf_3 rfl rfl hS11 rfl rfl rfl ?_
  refine wl_field (o := 0) (off' := 0) ff_114_0 rfl rfl rfl ?_
  refine wl_load_blk (i := 0) (vs := [(.int .i64 x1.1)]) (v := (.int .i64 x1.1)) tf_3 rfl rfl hS11 rfl rfl rfl ?_
  refine wl_neq rfl rfl rfl ?_
  refine WL.nil ?_
  refine fun a ha => hK13 _ _ ?_ a ha
  refine W.cond rfl (fun h14 => ?_) (fun h14 => ?_)
  · replace hF := ifP h14 hF
    refine W.seq fun K15 hK15 => ?_
    refine W.region ?_
    refine wl_assign rfl rfl ?_
    refine WL.nil ?_
    refine fun a ha => hK15 _ _ ?_ a ha
    refine W.ret ?_
    have hr := Option.some.inj hF
    subst hr
    exact rets (vs := [(.bool false)]) hQ rfl ⟨rv_tmp rfl, trivial⟩ ⟨rfl, hB10⟩
  · replace hF := ifN h14 hF
    refine W.skip ?_
    refine fun a ha => hK12 _ _ ?_ a ha
    refine W.seq fun K16 hK16 => ?_
    refine W.seq fun K17 hK17 => ?_
    refine W.region ?_
    refine wl_field (o := 1) (off' := 1) ff_114_1 rfl rfl rfl ?_
    refine wl_load_blk (i := 1) (vs := [(.int .i64 x0.2.1.1), (.int .i64 x0.2.1.2)]) (v := (.agg #[(.int .i64 x0.2.1.1), (.int .i64 x0.2.1.2)])) tf_54 rfl rfl hS11 rfl rfl rfl ?_
    refine wl_field (o := 1) (off' := 1) ff_114_1 rfl rfl rfl ?_
    refine wl_load_blk (i := 0) (vs := [(.int .i64 x1.2.1.1), (.int .i64 x1.2.1.2)]) (v := (.agg #[(.int .i64 x1.2.1.1), (.int .i64 x1.2.1.2)])) tf_54 rfl rfl hS11 rfl rfl rfl ?_
    obtain ⟨u18, hu18, hF⟩ := bindE hF
    refine wl_call rfl Try.call39 (C_laws_eqSpot w8 x0.2.1 x1.2.1 _ hu18) rfl ?_
    rintro _ w19 ⟨rfl, hb20⟩
    refine ⟨_, rfl, ?_⟩
    have hB21 := hB10.trans (hb20.mono hB10.size)
    have hS22 := hS11.below hb20
    refine wl_not rfl rfl ?_
    refine WL.nil ?_
    refine fun a ha => hK17 _ _ ?_ a ha
    refine W.cond rfl (fun h24 => ?_) (fun h24 => ?_)
    · replace hF := ifP h24 hF
      refine W.seq fun K25 hK25 => ?_
      refine W.region ?_
      refine wl_assign rfl rfl ?_
      refine WL.nil ?_
      refine fun a ha => hK25 _ _ ?_ a ha
      refine W.ret ?_
      have hr := Option.some.inj hF
      subst hr
      exact rets (vs := [(.bool false)]) hQ rfl ⟨rv_tmp rfl, trivial⟩ ⟨rfl, hB21⟩
    · replace hF := ifN h24 hF
      refine W.skip ?_
      refine fun a ha => hK16 _ _ ?_ a ha
      refine W.seq fun K26 hK26 => ?_
      refine W.seq fun K27 hK27 => ?_
      refine W.region ?_
      refine wl_field (o := 3) (off' := 3) ff_114_2 rfl rfl rfl ?_
      refine wl_load_blk (i := 1) (vs := [v0_0]) (v := v0_0) tf_112 rfl rfl hS22 rfl rfl rfl ?_
      refine wl_field (o := 3) (off' := 3) ff_114_2 rfl rfl rfl ?_
      refine wl_load_blk (i := 0) (vs := [v1_0]) (v := v1_0) tf_112 rfl rfl hS22 rfl rfl rfl ?_
      obtain ⟨u28, hu28, hF⟩ := bindE hF
      refine wl_call rfl Try.call142 (C_laws_eqRowS w19 x0.2.2 v0_0 (h0_0.ro hB21) x1.2.2 v1_0 (h1_0.ro hB21) _ hu28) rfl ?_
      rintro _ w29 ⟨rfl, hb30⟩
      refine ⟨_, rfl, ?_⟩
      have hB31 := hB21.trans (hb30.mono hB21.size)
      have hS32 := hS22.below hb30
      refine wl_not rfl rfl ?_
      refine WL.nil ?_
      refine fun a ha => hK27 _ _ ?_ a ha
      refine W.cond rfl (fun h34 => ?_) (fun h34 => ?_)
      · replace hF := ifP h34 hF
        refine W.seq fun K35 hK35 => ?_
        refine W.region ?_
        refine wl_assign rfl rfl ?_
        refine WL.nil ?_
        refine fun a ha => hK35 _ _ ?_ a ha
        refine W.ret ?_
        have hr := Option.some.inj hF
        subst hr
        exact rets (vs := [(.bool false)]) hQ rfl ⟨rv_tmp rfl, trivial⟩ ⟨rfl, hB31⟩
      · replace hF := ifN h34 hF
        refine W.skip ?_
        refine fun a ha => hK26 _ _ ?_ a ha
        refine W.seq fun K36 hK36 => ?_
        refine W.region ?_
        refine wl_assign rfl rfl ?_
        refine WL.nil ?_
        refine fun a ha => hK36 _ _ ?_ a ha
        refine W.ret ?_
        have hr := Option.some.inj hF
        subst hr
        exact rets (vs := [(.bool true)]) hQ rfl ⟨rv_tmp rfl, trivial⟩ ⟨rfl, hB31⟩
theorem C_laws_eqSheetS (w0 : World) (x0 : (List (Int × (Int × Int) × (List (Int × (Int × Int)))))) (v0_0 : Value) (h0_0 : rdS ty_114 (· < w0.heap.size) w0 v0_0 x0) (x1 : (List (Int × (Int × Int) × (List (Int × (Int × Int)))))) (v1_0 : Value) (h1_0 : rdS ty_114 (· < w0.heap.size) w0 v1_0 x1) (r : Bool) (hF : F_laws_eqSheetS x0 x1 = some r) :
    Calls Try.prog 58 [v0_0, v1_0].toArray w0 fun e w' => e = .returned (.bool r) ∧ Below w0.heap.size w0 w' := by
  refine calls_mk' Try.func58 rfl Try.ntmps58 rfl rfl fun Q hQ hP => ?_
  have hB : Below w0.heap.size w0 w0 := Below.refl _ _
  have hS : Sep w0.heap.size w0 [] := Sep.nil _ _
  unfold F_laws_eqSheetS at hF
  refine W.seq fun K1 hK1 => ?_
  refine W.region ?_
  refine wl_assign rfl rfl ?_
  refine WL.nil ?_
  refine fun a ha => hK1 _ _ ?_ a ha
  refine W.seq fun K2 hK2 => ?_
  refine W.seq fun K3 hK3 => ?_
  refine W.region ?_
  refine wl_move rfl rfl ?_
  refine wl_lenr (e := ty_114) (l := x0) Try.underlying76 rfl rfl h0_0 ?_
  refine wl_move rfl rfl ?_
  refine wl_lenr (e := ty_114) (l := x1) Try.underlying76 rfl rfl h1_0 ?_
  refine wl_neq rfl rfl rfl ?_
  refine WL.nil ?_
  refine fun a ha => hK3 _ _ ?_ a ha
  refine W.cond rfl (fun h4 => ?_) (fun h4 => ?_)
  · replace hF := ifP h4 hF
    refine W.seq fun K5 hK5 => ?_
    refine W.region ?_
    refine wl_assign rfl rfl ?_
    refine WL.nil ?_
    refine fun a ha => hK5 _ _ ?_ a ha
    refine W.ret ?_
    have hr := Option.some.inj hF
    subst hr
    exact rets (vs := [(.bool false)]) hQ rfl ⟨rv_tmp rfl, trivial⟩ ⟨rfl, hB⟩
  · replace hF := ifN h4 hF
    refine W.skip ?_
    refine fun a ha => hK2 _ _ ?_ a ha
    refine W.seq fun K6 hK6 => ?_
    refine W.seq fun K7 hK7 => ?_
    refine W.region ?_
    refine wl_assign rfl rfl ?_
    refine WL.nil ?_
    refine fun a ha => hK7 _ _ ?_ a ha
    refine W.block ?_
    refine W.loopk (fun m a w8 => ∃ (y11 : Int), St 27 [(0, v0_0), (1, v1_0), (5, (.int .i64 y11))] a ∧ Below w0.heap.size w0 w8 ∧ Sep w0.heap.size w8 [] ∧ F_laws_eqSheetS_L1 x0 x1 m y11 = some r) FU ?_ ?_
    ·
      exact fun a ha => ⟨0, ha.sub ⟨rfl, rfl, rfl, trivial⟩, hB, (hS.sel [] rfl), hF⟩
    ·
      rintro m14 a w8 ⟨y11, ha, hB9, hS10, hF⟩ KL13 hKL13
      refine W.at ?_ ha
      cases m14 with
      | zero => exact noneE hF
      | succ m14 =>
        obtain ⟨nx12, hnx12⟩ : ∃ k, k = F_laws_eqSheetS_L1 x0 x1 m14 := ⟨_, rfl⟩
        rw [F_laws_eqSheetS_L1, ← hnx12] at hF
        refine W.seq fun K15 hK15 => ?_
        refine W.seq fun K16 hK16 => ?_
        refine W.region ?_
        refine wl_move rfl rfl ?_
        refine wl_move rfl rfl ?_
        refine wl_lenr (e := ty_114) (l := x0) Try.underlying76 rfl rfl h0_0 ?_
        refine wl_lss rfl rfl rfl ?_
        refine WL.nil ?_
        refine fun a ha => hK16 _ _ ?_ a ha
        refine W.cond rfl (fun h17 => ?_) (fun h17 => ?_)
        · replace hF := ifP h17 hF
          refine W.skip ?_
          refine fun a ha => hK15 _ _ ?_ a ha
          refine W.seq fun K18 hK18 => ?_
          refine W.block ?_
          refine W.seq fun K19 hK19 => ?_
          refine W.regionH mixed_ [] hB9 hS10 ?_
          intro w20 hb21 hB22 hS23
          have hSW24 := KeepX.refl w20 []
          refine WH.takex (i := 0) rfl (by kernel_rfl) (by kernel_rfl) (by kernel_rfl) hP hSW24 ?_
          refine pr_move rfl rfl ?_
          refine WH.takex (i := 1) rfl (by kernel_rfl) (by kernel_rfl) (by kernel_rfl) hP hSW24 ?_
          refine pr_move rfl rfl ?_
          obtain ⟨u25, hu25, hF⟩ := bindE hF
          refine WH.takex (i := 2) rfl (by kernel_rfl) (by kernel_rfl) (by kernel_rfl) hP hSW24 ?_
          refine pr_index (e := ty_114) Try.underlying76 rfl rfl rfl h0_0 hu25 ?_
          rintro p26 _ ⟨_, _, rfl, rfl, ⟨_, _, rfl, rfl, ⟨v28, rfl, hv29⟩⟩⟩ hp27
          refine WH.takex (i := 3) rfl (by kernel_rfl) (by kernel_rfl) (by kernel_rfl) hP hSW24 ?_
          refine pr_load_p (vs := [(.int .i64 u25.1), (.int .i64 u25.2.1.1), (.int .i64 u25.2.1.2), v28]) (v := (.agg #[(.int .i64 u25.1), (.int .i64 u25.2.1.1), (.int .i64 u25.2.1.2), v28])) tf_114 rfl rfl (hp27.kx hB22 (by simp)) rfl rfl ?_
          refine WH.takex (i := 4) rfl (by kernel_rfl) (by kernel_rfl) (by kernel_rfl) hP hSW24 ?_
          refine pr_move rfl rfl ?_
          refine WH.takex (i := 5) rfl (by kernel_rfl) (by kernel_rfl) (by kernel_rfl) hP hSW24 ?_
          refine pr_move rfl rfl ?_
          obtain ⟨u30, hu30, hF⟩ := bindE hF
          refine WH.takex (i := 6) rfl (by kernel_rfl) (by kernel_rfl) (by kernel_rfl) hP hSW24 ?_
          refine pr_index (e := ty_114) Try.underlying76 rfl rfl rfl h1_0 hu30 ?_
          rintro p31 _ ⟨_, _, rfl, rfl, ⟨_, _, rfl, rfl, ⟨v33, rfl, hv34⟩⟩⟩ hp32
          refine WH.takex (i := 7) rfl (by kernel_rfl) (by kernel_rfl) (by kernel_rfl) hP hSW24 ?_
          refine pr_load_p (vs := [(.int .i64 u30.1), (.int .i64 u30.2.1.1), (.int .i64 u30.2.1.2), v33]) (v := (.agg #[(.int .i64 u30.1), (.int .i64 u30.2.1.1), (.int .i64 u30.2.1.2), v33])) tf_114 rfl rfl (hp32.kx hB22 (by simp)) rfl rfl ?_
          refine WH.one (i := 8) (by kernel_rfl) rfl ?_
          obtain ⟨u35, hu35, hF⟩ := bindE hF
          refine wl_call rfl Try.call102 (C_laws_eqSheet w20 u25 v28 (hv29.ro hB22) u30 v33 (hv34.ro hB22) _ hu35) rfl ?_
          rintro _ w36 ⟨rfl, hb37⟩
          refine ⟨_, rfl, ?_⟩
          have hB38 := hB22.trans (hb37.mono hB22.size)
          have hS39 := hS23.below hb37
          have hSW41 := hSW24.ext hb37
          refine WL.nil (WH.ret hSW41 ?_)
          refine WH.takex (i := 9) rfl (by kernel_rfl) (by kernel_rfl) (by kernel_rfl) hP hSW41 ?_
          refine pr_not rfl rfl ?_
          refine WH.done (by kernel_rfl) ?_
          refine fun a ha => hK19 _ _ ?_ a ha
          refine W.cond rfl (fun h42 => ?_) (fun h42 => ?_)
          · replace hF := ifP h42 hF
            refine W.seq fun K43 hK43 => ?_
            refine W.region ?_
            refine wl_assign rfl rfl ?_
            refine WL.nil ?_
            refine fun a ha => hK43 _ _ ?_ a ha
            refine W.ret ?_
            have hr := Option.some.inj hF
            subst hr
            exact rets (vs := [(.bool false)]) hQ rfl ⟨rv_tmp rfl, trivial⟩ ⟨rfl, hB38⟩
          · replace hF := ifN h42 hF
            refine W.skip ?_
            refine fun a ha => hK18 _ _ ?_ a ha
            refine W.region ?_
            refine wl_move rfl rfl ?_
            refine wl_add rfl rfl rfl ?_
            refine wl_assign rfl rfl ?_
            refine WL.nil ?_
            rw [hnx12] at hF
            exact fun a ha => hKL13 a _ m14 (Nat.lt_succ_self m14) ⟨(w64 (y11 + 1)), ha.sub ⟨rfl, rfl, rfl, trivial⟩, hB38, (hS39.sel [] rfl), hF⟩
        · replace hF := ifN h17 hF
          refine W.exit ?_
          refine fun a ha => hK6 _ _ ?_ a ha
          refine W.seq fun K44 hK44 => ?_
          refine W.region ?_
          refine wl_assign rfl rfl ?_
          refine WL.nil ?_
          refine fun a ha => hK44 _ _ ?_ a ha
          refine W.ret ?_
          have hr := Option.some.inj hF
          subst hr
          exact rets (vs := [(.bool true)]) hQ rfl ⟨rv_tmp rfl, trivial⟩ ⟨rfl, hB9⟩
end Go.Proofs.Ythlfhcefeaehmaa
