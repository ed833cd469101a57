/-
  THE WALKS of functions of this seat, by program (gen.py).
-/
import Derived.Test.YtmbhdelegdhieaaH
import Derived.Test.YtmbhdelegdhieaaWFnExactIsShow
import Derived.Test.YtmbhdelegdhieaaWFnExactWidestPart
set_option linter.unusedSimpArgs false
set_option linter.unusedVariables false
set_option maxRecDepth 100000
namespace Go.Proofs.Ytmbhdelegdhieaa
open Go Go.RowKit
theorem C_spec_mvWithin (w0 : World) (x0 : ((Int × Int) × (Int × Int) × Int)) (x1 : Int) (r : Bool) (hF : F_spec_mvWithin x0 x1 = some r) :
    Calls Try.prog 93 [(.agg #[(.int .i64 x0.1.1), (.int .i64 x0.1.2), (.int .i64 x0.2.1.1), (.int .i64 x0.2.1.2), (.int .i64 x0.2.2)]), (.int .i64 x1)].toArray w0 fun e w' => e = .returned (.bool r) ∧ Below w0.heap.size w0 w' := by
  refine calls_mk' Try.func93 rfl Try.ntmps93 rfl rfl fun Q hQ hP => ?_
  have hB : Below w0.heap.size w0 w0 := Below.refl _ _
  have hS : Sep w0.heap.size w0 [] := Sep.nil _ _
  unfold F_spec_mvWithin at hF
  refine W.seq fun K1 hK1 => ?_
  refine W.region ?_
  refine wl_box (cs := [(.int .i64 x0.1.1), (.int .i64 x0.1.2), (.int .i64 x0.2.1.1), (.int .i64 x0.2.1.2), (.int .i64 x0.2.2)]) rfl rfl rfl hB hS ?_
  intro b2 w3 hb4 hB5 hS6
  refine wl_assign rfl rfl ?_
  refine WL.nil ?_
  refine fun a ha => hK1 _ _ ?_ a ha
  refine W.seq fun K7 hK7 => ?_
  refine W.regionH mixed_ [] hB5 hS6 ?_
  intro w8 hb9 hB10 hS11
  have hSW12 := KeepX.refl w8 []
  refine WH.takex (i := 0) rfl (by kernel_rfl) (by kernel_rfl) (by kernel_rfl) hP hSW12 ?_
  refine pr_field (o := 0) (off' := 0) ff_107_0 rfl rfl rfl ?_
  refine WH.takex (i := 1) rfl (by kernel_rfl) (by kernel_rfl) (by kernel_rfl) hP hSW12 ?_
  refine pr_load_blk (i := 0) (vs := [(.int .i64 x0.1.1), (.int .i64 x0.1.2)]) (v := (.agg #[(.int .i64 x0.1.1), (.int .i64 x0.1.2)])) tf_105 rfl rfl hS11 rfl rfl rfl (by simp) ?_
  refine WH.takex (i := 2) rfl (by kernel_rfl) (by kernel_rfl) (by kernel_rfl) hP hSW12 ?_
  refine pr_field (o := 2) (off' := 2) ff_107_1 rfl rfl rfl ?_
  refine WH.takex (i := 3) rfl (by kernel_rfl) (by kernel_rfl) (by kernel_rfl) hP hSW12 ?_
  refine pr_load_blk (i := 0) (vs := [(.int .i64 x0.2.1.1), (.int .i64 x0.2.1.2)]) (v := (.agg #[(.int .i64 x0.2.1.1), (.int .i64 x0.2.1.2)])) tf_105 rfl rfl hS11 rfl rfl rfl (by simp) ?_
  refine WH.takex (i := 5) rfl (by kernel_rfl) (by kernel_rfl) (by kernel_rfl) hP hSW12 ?_
  refine pr_move rfl rfl ?_
  refine WH.takex (i := 6) rfl (by kernel_rfl) (by kernel_rfl) (by kernel_rfl) hP hSW12 ?_
  refine pr_move rfl rfl ?_
  refine WH.takex (i := 7) rfl (by kernel_rfl) (by kernel_rfl) (by kernel_rfl) hP hSW12 ?_
  refine pr_mul rfl rfl rfl ?_
  refine WH.takex (i := 8) rfl (by kernel_rfl) (by kernel_rfl) (by kernel_rfl) hP hSW12 ?_
  refine pr_field (o := 4) (off' := 4) ff_107_2 rfl rfl rfl ?_
  refine WH.takex (i := 9) rfl (by kernel_rfl) (by kernel_rfl) (by kernel_rfl) hP hSW12 ?_
  refine pr_load_blk (i := 0) (vs := [(.int .i64 x0.2.2)]) (v := (.int .i64 x0.2.2)) tf_3 rfl rfl hS11 rfl rfl rfl (by simp) ?_
  refine WH.takex (i := 10) rfl (by kernel_rfl) (by kernel_rfl) (by kernel_rfl) hP hSW12 ?_
  refine pr_mul rfl rfl rfl ?_
  refine WH.takex (i := 11) rfl (by kernel_rfl) (by kernel_rfl) (by kernel_rfl) hP hSW12 ?_
  refine pr_field (o := 4) (off' := 4) ff_107_2 rfl rfl rfl ?_
  refine WH.takex (i := 12) rfl (by kernel_rfl) (by kernel_rfl) (by kernel_rfl) hP hSW12 ?_
  refine pr_load_blk (i := 0) (vs := [(.int .i64 x0.2.2)]) (v := (.int .i64 x0.2.2)) tf_3 rfl rfl hS11 rfl rfl rfl (by simp) ?_
  refine WH.takex (i := 13) rfl (by kernel_rfl) (by kernel_rfl) (by kernel_rfl) hP hSW12 ?_
  refine pr_mul rfl rfl rfl ?_
  refine WH.one (i := 4) (by kernel_rfl) rfl ?_
  obtain ⟨u13, hu13, hF⟩ := bindE hF
  refine wl_call rfl Try.call118 (C_spec_stSquare w8 x0.1 x0.2.1 _ hu13) rfl ?_
  rintro _ w14 ⟨rfl, hb15⟩
  refine ⟨_, rfl, ?_⟩
  have hB16 := hB10.trans (hb15.mono hB10.size)
  have hS17 := hS11.below hb15
  have hSW19 := hSW12.ext hb15
  have hbS20 : Below w8.heap.size w8 w14 := hb15
  refine WL.nil (WH.ret hSW19 ?_)
  refine WH.takex (i := 14) rfl (by kernel_rfl) (by kernel_rfl) (by kernel_rfl) hP hSW19 ?_
  refine pr_leq rfl rfl rfl ?_
  refine WH.takex (i := 15) rfl (by kernel_rfl) (by kernel_rfl) (by kernel_rfl) hP hSW19 ?_
  refine pr_assign rfl rfl ?_
  refine WH.done (by kernel_rfl) ?_
  refine fun a ha => hK7 _ _ ?_ a ha
  refine W.ret ?_
  have hr := Option.some.inj hF
  subst hr
  exact rets (vs := [(.bool (decide (u13 ≤ (w64 ((w64 ((w64 (x1 * x1)) * x0.2.2)) * x0.2.2)))))]) hQ rfl ⟨rv_tmp rfl, trivial⟩ ⟨rfl, hB16⟩
theorem C_spec_LeastStepOf (w0 : World) (x0 : ((List (List (Int × Int))) × (List Int) × Int × Int)) (v0_0 : Value) (h0_0 : rdS ty_109 (· < w0.heap.size) w0 v0_0 x0.1) (v0_1 : Value) (h0_1 : rdS ty_3 (· < w0.heap.size) w0 v0_1 x0.2.1) (r : (Int × Bool)) (hF : F_spec_LeastStepOf x0 = some r) :
    Calls Try.prog 43 [(.agg #[v0_0, v0_1, (.int .i64 x0.2.2.1), (.int .i64 x0.2.2.2)])].toArray w0 fun e w' => e = .returned (.tuple #[(.int .i64 r.1), (.bool r.2)]) ∧ Below w0.heap.size w0 w' := by
  refine calls_mk' Try.func43 rfl Try.ntmps43 rfl rfl fun Q hQ hP => ?_
  have hB : Below w0.heap.size w0 w0 := Below.refl _ _
  have hS : Sep w0.heap.size w0 [] := Sep.nil _ _
  unfold F_spec_LeastStepOf at hF
  refine W.seq fun K1 hK1 => ?_
  refine W.region ?_
  refine wl_box (cs := [v0_0, v0_1, (.int .i64 x0.2.2.1), (.int .i64 x0.2.2.2)]) rfl rfl rfl hB hS ?_
  intro b2 w3 hb4 hB5 hS6
  refine wl_assign rfl rfl ?_
  refine wl_assign rfl rfl ?_
  refine WL.nil ?_
  refine fun a ha => hK1 _ _ ?_ a ha
  refine W.seq fun K7 hK7 => ?_
  refine W.seq fun K8 hK8 => ?_
  refine W.region ?_
  refine wl_load_blk (i := 0) (vs := [v0_0, v0_1, (.int .i64 x0.2.2.1), (.int .i64 x0.2.2.2)]) (v := (.agg #[v0_0, v0_1, (.int .i64 x0.2.2.1), (.int .i64 x0.2.2.2)])) tf_30 rfl rfl hS6 rfl rfl rfl ?_
  obtain ⟨u9, hu9, hF⟩ := bindE hF
  refine wl_call rfl Try.call62 (C_spec_swGood w3 x0 v0_0 (h0_0.ro hB5) v0_1 (h0_1.ro hB5) _ hu9) rfl ?_
  rintro _ w10 ⟨rfl, hb11⟩
  refine ⟨_, rfl, ?_⟩
  have hB12 := hB5.trans (hb11.mono hB5.size)
  have hS13 := hS6.below hb11
  refine wl_not rfl rfl ?_
  refine WL.nil ?_
  refine fun a ha => hK8 _ _ ?_ a ha
  refine W.cond rfl (fun h15 => ?_) (fun h15 => ?_)
  · replace hF := ifP h15 hF
    refine W.seq fun K16 hK16 => ?_
    refine W.region ?_
    refine wl_assign rfl rfl ?_
    refine wl_assign rfl rfl ?_
    refine WL.nil ?_
    refine fun a ha => hK16 _ _ ?_ a ha
    refine W.ret ?_
    have hr := Option.some.inj hF
    subst hr
    exact rets (vs := [(.int .i64 0), (.bool false)]) hQ rfl ⟨rv_tmp rfl, rv_tmp rfl, trivial⟩ ⟨rfl, hB12⟩
  · replace hF := ifN h15 hF
    refine W.skip ?_
    refine fun a ha => hK7 _ _ ?_ a ha
    refine W.seq fun K17 hK17 => ?_
    refine W.region ?_
    refine wl_assign rfl rfl ?_
    refine WL.nil ?_
    refine fun a ha => hK17 _ _ ?_ a ha
    refine W.seq fun K18 hK18 => ?_
    refine W.seq fun K19 hK19 => ?_
    refine W.region ?_
    refine wl_field (o := 1) (off' := 1) ff_30_1 rfl rfl rfl ?_
    refine wl_load_blk (i := 0) (vs := [v0_1]) (v := v0_1) tf_23 rfl rfl hS13 rfl rfl rfl ?_
    refine wl_lenr (e := ty_3) (l := x0.2.1) Try.underlying23 rfl rfl h0_1 ?_
    refine wl_move rfl rfl ?_
    refine WL.nil ?_
    refine fun a ha => hK19 _ _ ?_ a ha
    refine W.block ?_
    refine W.loopk (fun m a w20 => ∃ (y23 : Int) (y24 : Int), St 40 [(1, (.pointer (some ⟨b2, 0, none⟩))), (4, (.int .i64 y23)), (13, (.int .i64 (List.length x0.2.1 : Int))), (14, (.int .i64 y24))] a ∧ Below w0.heap.size w0 w20 ∧ Sep w0.heap.size w20 [R.blk b2 30 [v0_0, v0_1, (.int .i64 x0.2.2.1), (.int .i64 x0.2.2.2)]] ∧ F_spec_LeastStepOf_L1 x0 m y23 y24 = some r) FU ?_ ?_
    ·
      exact fun a ha => ⟨1, 0, ha.sub ⟨rfl, rfl, rfl, rfl, trivial⟩, hB12, (hS13.sel [0] rfl), hF⟩
    ·
      rintro m27 a w20 ⟨y23, y24, ha, hB21, hS22, hF⟩ KL26 hKL26
      refine W.at ?_ ha
      cases m27 with
      | zero => exact noneE hF
      | succ m27 =>
        obtain ⟨nx25, hnx25⟩ : ∃ k, k = F_spec_LeastStepOf_L1 x0 m27 := ⟨_, rfl⟩
        rw [F_spec_LeastStepOf_L1, ← hnx25] at hF
        refine W.seq fun K28 hK28 => ?_
        refine W.region ?_
        refine wl_lss rfl rfl rfl ?_
        refine WL.nil ?_
        refine fun a ha => hK28 _ _ ?_ a ha
        refine W.seq fun K29 hK29 => ?_
        refine W.cond rfl (fun h30 => ?_) (fun h30 => ?_)
        · replace hF := ifP h30 hF
          refine W.skip ?_
          refine fun a ha => hK29 _ _ ?_ a ha
          refine W.seq fun K31 hK31 => ?_
          refine W.block ?_
          refine W.seq fun K32 hK32 => ?_
          refine W.region ?_
          refine wl_move rfl rfl ?_
          refine wl_assign rfl rfl ?_
          refine WL.nil ?_
          refine fun a ha => hK32 _ _ ?_ a ha
          refine W.seq fun K33 hK33 => ?_
          refine W.region ?_
          refine wl_load_blk (i := 0) (vs := [v0_0, v0_1, (.int .i64 x0.2.2.1), (.int .i64 x0.2.2.2)]) (v := (.agg #[v0_0, v0_1, (.int .i64 x0.2.2.1), (.int .i64 x0.2.2.2)])) tf_30 rfl rfl hS22 rfl rfl rfl ?_
          refine wl_move rfl rfl ?_
          obtain ⟨u34, hu34, hF⟩ := bindE hF
          refine wl_call rfl Try.call92 (C_spec_swMoves w20 x0 v0_0 (h0_0.ro hB21) v0_1 (h0_1.ro hB21) y24 _ hu34) rfl ?_
          rintro _ w37 ⟨v35, F36, rfl, hb38, hM41⟩
          refine ⟨_, rfl, ?_⟩
          have hB39 := hB21.trans (hb38.mono hB21.size)
          have hS40 := hS22.join hb38 hM41 hB21.size
          refine wl_lenr (e := ty_107) (l := u34) Try.underlying102 rfl rfl (hS40.own_ro (i := 0) rfl) ?_
          refine wl_move rfl rfl ?_
          refine WL.nil ?_
          refine fun a ha => hK33 _ _ ?_ a ha
          refine W.block ?_
          refine W.loopk (fun m a w42 => ∃ (y45 : Int) (y46 : Int), St 40 [(1, (.pointer (some ⟨b2, 0, none⟩))), (4, (.int .i64 y45)), (13, (.int .i64 (List.length x0.2.1 : Int))), (14, (.int .i64 y24)), (19, v35), (20, (.int .i64 (List.length u34 : Int))), (21, (.int .i64 y46))] a ∧ Below w0.heap.size w0 w42 ∧ Sep w0.heap.size w42 [R.blk b2 30 [v0_0, v0_1, (.int .i64 x0.2.2.1), (.int .i64 x0.2.2.2)], R.own ty_107 F36 v35 u34] ∧ F_spec_LeastStepOf_L2 u34 nx25 y24 m y45 y46 = some r) FU ?_ ?_
          ·
            exact fun a ha => ⟨y23, 0, ha.sub ⟨rfl, rfl, rfl, rfl, rfl, rfl, rfl, trivial⟩, hB39, (hS40.sel [1, 0] rfl), hF⟩
          ·
            rintro m49 a w42 ⟨y45, y46, ha, hB43, hS44, hF⟩ KL48 hKL48
            refine W.at ?_ ha
            cases m49 with
            | zero => exact noneE hF
            | succ m49 =>
              obtain ⟨nx47, hnx47⟩ : ∃ k, k = F_spec_LeastStepOf_L2 u34 nx25 y24 m49 := ⟨_, rfl⟩
              rw [F_spec_LeastStepOf_L2, ← hnx47] at hF
              refine W.seq fun K50 hK50 => ?_
              refine W.region ?_
              refine wl_lss rfl rfl rfl ?_
              refine WL.nil ?_
              refine fun a ha => hK50 _ _ ?_ a ha
              refine W.seq fun K51 hK51 => ?_
              refine W.cond rfl (fun h52 => ?_) (fun h52 => ?_)
              · replace hF := ifP h52 hF
                refine W.skip ?_
                refine fun a ha => hK51 _ _ ?_ a ha
                refine W.seq fun K53 hK53 => ?_
                refine W.block ?_
                refine W.seq fun K54 hK54 => ?_
                refine W.region ?_
                obtain ⟨u55, hu55, hF⟩ := bindE hF
                refine wl_indexo (e := ty_107) (i := 1) Try.underlying102 rfl rfl rfl hS44 rfl hu55 ?_
                rintro p56 _ rfl hp57 ho58
                refine wl_load_p (vs := [(.int .i64 u55.1.1), (.int .i64 u55.1.2), (.int .i64 u55.2.1.1), (.int .i64 u55.2.1.2), (.int .i64 u55.2.2)]) (v := (.agg #[(.int .i64 u55.1.1), (.int .i64 u55.1.2), (.int .i64 u55.2.1.1), (.int .i64 u55.2.1.2), (.int .i64 u55.2.2)])) tf_107 rfl rfl hp57 rfl rfl ?_
                refine wl_alloc (cs := [(.int .i64 0), (.int .i64 0), (.int .i64 0), (.int .i64 0), (.int .i64 0)]) tf_107 rfl rfl hB43 hS44 ?_
                intro b59 w60 hb61 hB62 hS63
                refine wl_store_blk (i := 0) (vs := [(.int .i64 u55.1.1), (.int .i64 u55.1.2), (.int .i64 u55.2.1.1), (.int .i64 u55.2.1.2), (.int .i64 u55.2.2)]) (cs' := [(.int .i64 u55.1.1), (.int .i64 u55.1.2), (.int .i64 u55.2.1.1), (.int .i64 u55.2.1.2), (.int .i64 u55.2.2)]) tf_107 rfl rfl rfl rfl hB62 hS63 rfl rfl ⟨rfl, rfl, rfl, rfl, rfl, trivial⟩ rfl ?_
                intro w65 hk68 hB66 hS67
                refine WL.nil ?_
                refine fun a ha => hK54 _ _ ?_ a ha
                refine W.block ?_
                refine W.loopk (fun m a w69 => ∃ (y72 : Int), St 40 [(1, (.pointer (some ⟨b2, 0, none⟩))), (4, (.int .i64 y72)), (7, (.pointer (some ⟨b59, 0, none⟩))), (13, (.int .i64 (List.length x0.2.1 : Int))), (14, (.int .i64 y24)), (19, v35), (20, (.int .i64 (List.length u34 : Int))), (21, (.int .i64 y46))] a ∧ Below w0.heap.size w0 w69 ∧ Sep w0.heap.size w69 [R.blk b2 30 [v0_0, v0_1, (.int .i64 x0.2.2.1), (.int .i64 x0.2.2.2)], R.blk b59 107 [(.int .i64 u55.1.1), (.int .i64 u55.1.2), (.int .i64 u55.2.1.1), (.int .i64 u55.2.1.2), (.int .i64 u55.2.2)], R.own ty_107 F36 v35 u34] ∧ F_spec_LeastStepOf_L3 nx47 y46 u55 m y72 = some r) FU ?_ ?_
                ·
                  exact fun a ha => ⟨y45, ha.sub ⟨rfl, rfl, rfl, rfl, rfl, rfl, rfl, rfl, trivial⟩, hB66, (hS67.sel [1, 0, 2] rfl), hF⟩
                ·
                  rintro m75 a w69 ⟨y72, ha, hB70, hS71, hF⟩ KL74 hKL74
                  refine W.at ?_ ha
                  cases m75 with
                  | zero => exact noneE hF
                  | succ m75 =>
                    obtain ⟨nx73, hnx73⟩ : ∃ k, k = F_spec_LeastStepOf_L3 nx47 y46 u55 m75 := ⟨_, rfl⟩
                    rw [F_spec_LeastStepOf_L3, ← hnx73] at hF
                    refine W.seq fun K76 hK76 => ?_
                    refine W.seq fun K77 hK77 => ?_
                    obtain ⟨k82, hk82, hF⟩ := jE1 hF
                    have hJ83 : ∀ (y81 : Bool) (w78 : World) (_ : k82 y81 = some r) (_ : Below w0.heap.size w0 w78) (_ : Sep w0.heap.size w78 [R.blk b2 30 [v0_0, v0_1, (.int .i64 x0.2.2.1), (.int .i64 x0.2.2.2)], R.blk b59 107 [(.int .i64 u55.1.1), (.int .i64 u55.1.2), (.int .i64 u55.2.1.1), (.int .i64 u55.2.1.2), (.int .i64 u55.2.2)], R.own ty_107 F36 v35 u34]), ∀ a, St 40 [(1, (.pointer (some ⟨b2, 0, none⟩))), (4, (.int .i64 y72)), (7, (.pointer (some ⟨b59, 0, none⟩))), (13, (.int .i64 (List.length x0.2.1 : Int))), (14, (.int .i64 y24)), (19, v35), (20, (.int .i64 (List.length u34 : Int))), (21, (.int .i64 y46)), (32, (.bool y81))] a → K77 a w78 := by
                      intro y81 w78 hF hB79 hS80
                      subst hk82
                      refine fun a ha => hK77 _ _ ?_ a ha
                      refine W.cond rfl (fun h84 => ?_) (fun h84 => ?_)
                      · replace hF := ifP h84 hF
                        refine W.skip ?_
                        refine fun a ha => hK76 _ _ ?_ a ha
                        refine W.block ?_
                        refine W.region ?_
                        refine wl_move rfl rfl ?_
                        refine wl_add rfl rfl rfl ?_
                        refine wl_assign rfl rfl ?_
                        refine WL.nil ?_
                        rw [hnx73] at hF
                        exact fun a ha => hKL74 a _ m75 (Nat.lt_succ_self m75) ⟨(w64 (y72 + 1)), ha.sub ⟨rfl, rfl, rfl, rfl, rfl, rfl, rfl, rfl, trivial⟩, hB79, (hS80.sel [0, 1, 2] rfl), hF⟩
                      · replace hF := ifN h84 hF
                        refine W.exit ?_
                        refine fun a ha => hK53 _ _ ?_ a ha
                        refine W.region ?_
                        refine wl_add rfl rfl rfl ?_
                        refine wl_move rfl rfl ?_
                        refine WL.nil ?_
                        rw [hnx47] at hF
                        exact fun a ha => hKL48 a _ m49 (Nat.lt_succ_self m49) ⟨y72, (w64 (y46 + 1)), ha.sub ⟨rfl, rfl, rfl, rfl, rfl, rfl, rfl, trivial⟩, hB79, (hS80.sel [0, 2] rfl), hF⟩
                    refine W.region ?_
                    refine wl_move rfl rfl ?_
                    refine wl_leq rfl rfl rfl ?_
                    refine wl_move rfl rfl ?_
                    rcases bE (decide (y72 ≤ 24)) with h85 | h85
                    · replace hF := ifP h85 hF
                      refine wl_on rfl rfl h85 ?_
                      refine wl_load_blk (i := 1) (vs := [(.int .i64 u55.1.1), (.int .i64 u55.1.2), (.int .i64 u55.2.1.1), (.int .i64 u55.2.1.2), (.int .i64 u55.2.2)]) (v := (.agg #[(.int .i64 u55.1.1), (.int .i64 u55.1.2), (.int .i64 u55.2.1.1), (.int .i64 u55.2.1.2), (.int .i64 u55.2.2)])) tf_107 rfl rfl hS71 rfl rfl rfl ?_
                      refine wl_on rfl rfl h85 ?_
                      refine wl_move rfl rfl ?_
                      refine wl_on rfl rfl h85 ?_
                      obtain ⟨u86, hu86, hF⟩ := bindE hF
                      refine wl_call rfl Try.call93 (C_spec_mvWithin w69 u55 y72 _ hu86) rfl ?_
                      rintro _ w87 ⟨rfl, hb88⟩
                      refine ⟨_, rfl, ?_⟩
                      have hB89 := hB70.trans (hb88.mono hB70.size)
                      have hS90 := hS71.below hb88
                      refine wl_on rfl rfl h85 ?_
                      refine wl_not rfl rfl ?_
                      refine wl_pick_t rfl rfl h85 rfl ?_
                      refine WL.nil ?_
                      exact fun a ha => hJ83 ((!u86)) _ hF hB89 (hS90.sel [0, 1, 2] rfl) a (ha.sub ⟨rfl, rfl, rfl, rfl, rfl, rfl, rfl, rfl, rfl, trivial⟩)
                    · replace hF := ifN h85 hF
                      refine wl_off rfl rfl rfl h85 ?_
                      refine wl_off rfl rfl rfl h85 ?_
                      refine wl_off rfl rfl rfl h85 ?_
                      refine wl_off rfl rfl rfl h85 ?_
                      refine wl_pick_f rfl rfl h85 rfl ?_
                      refine WL.nil ?_
                      exact fun a ha => hJ83 (false) _ hF hB70 (hS71.sel [0, 1, 2] rfl) a (ha.sub ⟨rfl, rfl, rfl, rfl, rfl, rfl, rfl, rfl, rfl, trivial⟩)
              · replace hF := ifN h52 hF
                refine W.exit ?_
                refine fun a ha => hK31 _ _ ?_ a ha
                refine W.region ?_
                refine wl_add rfl rfl rfl ?_
                refine wl_move rfl rfl ?_
                refine WL.nil ?_
                rw [hnx25] at hF
                exact fun a ha => hKL26 a _ m27 (Nat.lt_succ_self m27) ⟨y45, (w64 (y24 + 1)), ha.sub ⟨rfl, rfl, rfl, rfl, trivial⟩, hB43, (hS44.sel [0] rfl), hF⟩
        · replace hF := ifN h30 hF
          refine W.exit ?_
          refine fun a ha => hK18 _ _ ?_ a ha
          refine W.seq fun K92 hK92 => ?_
          refine W.seq fun K93 hK93 => ?_
          refine W.region ?_
          refine wl_move rfl rfl ?_
          refine wl_gtr rfl rfl rfl ?_
          refine WL.nil ?_
          refine fun a ha => hK93 _ _ ?_ a ha
          refine W.cond rfl (fun h94 => ?_) (fun h94 => ?_)
          · replace hF := ifP h94 hF
            refine W.seq fun K95 hK95 => ?_
            refine W.region ?_
            refine wl_assign rfl rfl ?_
            refine wl_assign rfl rfl ?_
            refine WL.nil ?_
            refine fun a ha => hK95 _ _ ?_ a ha
            refine W.ret ?_
            have hr := Option.some.inj hF
            subst hr
            exact rets (vs := [(.int .i64 0), (.bool false)]) hQ rfl ⟨rv_tmp rfl, rv_tmp rfl, trivial⟩ ⟨rfl, hB21⟩
          · replace hF := ifN h94 hF
            refine W.skip ?_
            refine fun a ha => hK92 _ _ ?_ a ha
            refine W.seq fun K96 hK96 => ?_
            refine W.region ?_
            refine wl_move rfl rfl ?_
            refine wl_assign rfl rfl ?_
            refine wl_assign rfl rfl ?_
            refine WL.nil ?_
            refine fun a ha => hK96 _ _ ?_ a ha
            refine W.ret ?_
            have hr := Option.some.inj hF
            subst hr
            exact rets (vs := [(.int .i64 y23), (.bool true)]) hQ rfl ⟨rv_tmp rfl, rv_tmp rfl, trivial⟩ ⟨rfl, hB21⟩
theorem C_impl_withinStep (w0 : World) (x0 : ((Int × Int) × (Int × Int) × Int)) (x1 : Int) (r : Bool) (hF : F_impl_withinStep x0 x1 = some r) :
    Calls Try.prog 120 [(.agg #[(.int .i64 x0.1.1), (.int .i64 x0.1.2), (.int .i64 x0.2.1.1), (.int .i64 x0.2.1.2), (.int .i64 x0.2.2)]), (.int .i64 x1)].toArray w0 fun e w' => e = .returned (.bool r) ∧ Below w0.heap.size w0 w' := by
  refine calls_mk' Try.func120 rfl Try.ntmps120 rfl rfl fun Q hQ hP => ?_
  have hB : Below w0.heap.size w0 w0 := Below.refl _ _
  have hS : Sep w0.heap.size w0 [] := Sep.nil _ _
  unfold F_impl_withinStep at hF
  refine W.seq fun K1 hK1 => ?_
  refine W.region ?_
  refine wl_box (cs := [(.int .i64 x0.1.1), (.int .i64 x0.1.2), (.int .i64 x0.2.1.1), (.int .i64 x0.2.1.2), (.int .i64 x0.2.2)]) rfl rfl rfl hB hS ?_
  intro b2 w3 hb4 hB5 hS6
  refine wl_assign rfl rfl ?_
  refine WL.nil ?_
  refine fun a ha => hK1 _ _ ?_ a ha
  refine W.seq fun K7 hK7 => ?_
  refine W.regionH mixed_ [] hB5 hS6 ?_
  intro w8 hb9 hB10 hS11
  have hSW12 := KeepX.refl w8 []
  refine WH.takex (i := 0) rfl (by kernel_rfl) (by kernel_rfl) (by kernel_rfl) hP hSW12 ?_
  refine pr_field (o := 0) (off' := 0) ff_107_0 rfl rfl rfl ?_
  refine WH.takex (i := 1) rfl (by kernel_rfl) (by kernel_rfl) (by kernel_rfl) hP hSW12 ?_
  refine pr_load_blk (i := 0) (vs := [(.int .i64 x0.1.1), (.int .i64 x0.1.2)]) (v := (.agg #[(.int .i64 x0.1.1), (.int .i64 x0.1.2)])) tf_105 rfl rfl hS11 rfl rfl rfl (by simp) ?_
  refine WH.takex (i := 2) rfl (by kernel_rfl) (by kernel_rfl) (by kernel_rfl) hP hSW12 ?_
  refine pr_field (o := 2) (off' := 2) ff_107_1 rfl rfl rfl ?_
  refine WH.takex (i := 3) rfl (by kernel_rfl) (by kernel_rfl) (by kernel_rfl) hP hSW12 ?_
  refine pr_load_blk (i := 0) (vs := [(.int .i64 x0.2.1.1), (.int .i64 x0.2.1.2)]) (v := (.agg #[(.int .i64 x0.2.1.1), (.int .i64 x0.2.1.2)])) tf_105 rfl rfl hS11 rfl rfl rfl (by simp) ?_
  refine WH.takex (i := 5) rfl (by kernel_rfl) (by kernel_rfl) (by kernel_rfl) hP hSW12 ?_
  refine pr_move rfl rfl ?_
  refine WH.takex (i := 6) rfl (by kernel_rfl) (by kernel_rfl) (by kernel_rfl) hP hSW12 ?_
  refine pr_move rfl rfl ?_
  refine WH.takex (i := 7) rfl (by kernel_rfl) (by kernel_rfl) (by kernel_rfl) hP hSW12 ?_
  refine pr_mul rfl rfl rfl ?_
  refine WH.takex (i := 8) rfl (by kernel_rfl) (by kernel_rfl) (by kernel_rfl) hP hSW12 ?_
  refine pr_field (o := 4) (off' := 4) ff_107_2 rfl rfl rfl ?_
  refine WH.takex (i := 9) rfl (by kernel_rfl) (by kernel_rfl) (by kernel_rfl) hP hSW12 ?_
  refine pr_load_blk (i := 0) (vs := [(.int .i64 x0.2.2)]) (v := (.int .i64 x0.2.2)) tf_3 rfl rfl hS11 rfl rfl rfl (by simp) ?_
  refine WH.takex (i := 10) rfl (by kernel_rfl) (by kernel_rfl) (by kernel_rfl) hP hSW12 ?_
  refine pr_mul rfl rfl rfl ?_
  refine WH.takex (i := 11) rfl (by kernel_rfl) (by kernel_rfl) (by kernel_rfl) hP hSW12 ?_
  refine pr_field (o := 4) (off' := 4) ff_107_2 rfl rfl rfl ?_
  refine WH.takex (i := 12) rfl (by kernel_rfl) (by kernel_rfl) (by kernel_rfl) hP hSW12 ?_
  refine pr_load_blk (i := 0) (vs := [(.int .i64 x0.2.2)]) (v := (.int .i64 x0.2.2)) tf_3 rfl rfl hS11 rfl rfl rfl (by simp) ?_
  refine WH.takex (i := 13) rfl (by kernel_rfl) (by kernel_rfl) (by kernel_rfl) hP hSW12 ?_
  refine pr_mul rfl rfl rfl ?_
  refine WH.one (i := 4) (by kernel_rfl) rfl ?_
  obtain ⟨u13, hu13, hF⟩ := bindE hF
  refine wl_call rfl Try.call87 (C_impl_squareOf w8 x0.1 x0.2.1 _ hu13) rfl ?_
  rintro _ w14 ⟨rfl, hb15⟩
  refine ⟨_, rfl, ?_⟩
  have hB16 := hB10.trans (hb15.mono hB10.size)
  have hS17 := hS11.below hb15
  have hSW19 := hSW12.ext hb15
  have hbS20 : Below w8.heap.size w8 w14 := hb15
  refine WL.nil (WH.ret hSW19 ?_)
  refine WH.takex (i := 14) rfl (by kernel_rfl) (by kernel_rfl) (by kernel_rfl) hP hSW19 ?_
  refine pr_leq rfl rfl rfl ?_
  refine WH.takex (i := 15) rfl (by kernel_rfl) (by kernel_rfl) (by kernel_rfl) hP hSW19 ?_
  refine pr_assign rfl rfl ?_
  refine WH.done (by kernel_rfl) ?_
  refine fun a ha => hK7 _ _ ?_ a ha
  refine W.ret ?_
  have hr := Option.some.inj hF
  subst hr
  exact rets (vs := [(.bool (decide (u13 ≤ (w64 ((w64 ((w64 (x1 * x1)) * x0.2.2)) * x0.2.2)))))]) hQ rfl ⟨rv_tmp rfl, trivial⟩ ⟨rfl, hB16⟩
theorem C_impl_wideSteps (w0 : World) (x0 : ((List (List (Int × Int))) × (List Int) × Int × Int)) (v0_0 : Value) (h0_0 : rdS ty_109 (· < w0.heap.size) w0 v0_0 x0.1) (v0_1 : Value) (h0_1 : rdS ty_3 (· < w0.heap.size) w0 v0_1 x0.2.1) (x1 : Int) (r : (List Int)) (hF : F_impl_wideSteps x0 x1 = some r) :
    Calls Try.prog 94 [(.agg #[v0_0, v0_1, (.int .i64 x0.2.2.1), (.int .i64 x0.2.2.2)]), (.int .i64 x1)].toArray w0 fun e w' => ∃ (q0 : Value) (G0 : List Nat), e = .returned q0 ∧ Below w0.heap.size w0 w' ∧ Sep w0.heap.size w' [R.own ty_3 G0 q0 r] := by
  refine calls_mk' Try.func94 rfl Try.ntmps94 rfl rfl fun Q hQ hP => ?_
  have hB : Below w0.heap.size w0 w0 := Below.refl _ _
  have hS : Sep w0.heap.size w0 [] := Sep.nil _ _
  unfold F_impl_wideSteps at hF
  refine W.seq fun K1 hK1 => ?_
  refine W.region ?_
  refine wl_box (cs := [v0_0, v0_1, (.int .i64 x0.2.2.1), (.int .i64 x0.2.2.2)]) rfl rfl rfl hB hS ?_
  intro b2 w3 hb4 hB5 hS6
  refine wl_assign rfl rfl ?_
  refine WL.nil ?_
  refine fun a ha => hK1 _ _ ?_ a ha
  refine W.seq fun K7 hK7 => ?_
  refine W.region ?_
  refine wl_lit (vs := []) (l := []) fl_3 Try.underlying23 rfl rfl rfl rfl rfl rfl hB5 hS6 ?_
  intro v8 F9 w10 hb11 hB12 hS13
  refine wl_assign rfl rfl ?_
  refine WL.nil ?_
  refine fun a ha => hK7 _ _ ?_ a ha
  refine W.seq fun K14 hK14 => ?_
  refine W.seq fun K15 hK15 => ?_
  refine W.region ?_
  refine wl_load_blk (i := 1) (vs := [v0_0, v0_1, (.int .i64 x0.2.2.1), (.int .i64 x0.2.2.2)]) (v := (.agg #[v0_0, v0_1, (.int .i64 x0.2.2.1), (.int .i64 x0.2.2.2)])) tf_30 rfl rfl hS13 rfl rfl rfl ?_
  refine wl_move rfl rfl ?_
  obtain ⟨u16, hu16, hF⟩ := bindE hF
  refine wl_call rfl Try.call86 (C_impl_showMoves w10 x0 v0_0 (h0_0.ro hB12) v0_1 (h0_1.ro hB12) x1 _ hu16) rfl ?_
  rintro _ w19 ⟨v17, F18, rfl, hb20, hM23⟩
  refine ⟨_, rfl, ?_⟩
  have hB21 := hB12.trans (hb20.mono hB12.size)
  have hS22 := hS13.join hb20 hM23 hB12.size
  refine wl_lenr (e := ty_107) (l := u16) Try.underlying102 rfl rfl (hS22.own_ro (i := 0) rfl) ?_
  refine wl_move rfl rfl ?_
  refine WL.nil ?_
  refine fun a ha => hK15 _ _ ?_ a ha
  refine W.block ?_
  refine W.loopk (fun m a w24 => ∃ (l27 : (List Int)) (y30 : Int) (v28 : Value) (F29 : List Nat), St 29 [(2, (.pointer (some ⟨b2, 0, none⟩))), (5, v28), (11, v17), (12, (.int .i64 (List.length u16 : Int))), (13, (.int .i64 y30))] a ∧ Below w0.heap.size w0 w24 ∧ Sep w0.heap.size w24 [R.blk b2 30 [v0_0, v0_1, (.int .i64 x0.2.2.1), (.int .i64 x0.2.2.2)], R.own ty_3 F29 v28 l27, R.own ty_107 F18 v17 u16] ∧ F_impl_wideSteps_L1 u16 x0 m l27 y30 = some r) FU ?_ ?_
  ·
    exact fun a ha => ⟨[], 0, v8, F9, ha.sub ⟨rfl, rfl, rfl, rfl, rfl, trivial⟩, hB21, (hS22.sel [2, 1, 0] rfl), hF⟩
  ·
    rintro m33 a w24 ⟨l27, y30, v28, F29, ha, hB25, hS26, hF⟩ KL32 hKL32
    refine W.at ?_ ha
    cases m33 with
    | zero => exact noneE hF
    | succ m33 =>
      obtain ⟨nx31, hnx31⟩ : ∃ k, k = F_impl_wideSteps_L1 u16 x0 m33 := ⟨_, rfl⟩
      rw [F_impl_wideSteps_L1, ← hnx31] at hF
      refine W.seq fun K34 hK34 => ?_
      refine W.region ?_
      refine wl_lss rfl rfl rfl ?_
      refine WL.nil ?_
      refine fun a ha => hK34 _ _ ?_ a ha
      refine W.seq fun K35 hK35 => ?_
      refine W.cond rfl (fun h36 => ?_) (fun h36 => ?_)
      · replace hF := ifP h36 hF
        refine W.skip ?_
        refine fun a ha => hK35 _ _ ?_ a ha
        refine W.seq fun K37 hK37 => ?_
        obtain ⟨k44, hk44, hF⟩ := jE1 hF
        have hJ45 : ∀ (l41 : (List Int)) (v42 : Value) (F43 : List Nat) (w38 : World) (_ : k44 l41 = some r) (_ : Below w0.heap.size w0 w38) (_ : Sep w0.heap.size w38 [R.blk b2 30 [v0_0, v0_1, (.int .i64 x0.2.2.1), (.int .i64 x0.2.2.2)], R.own ty_3 F43 v42 l41, R.own ty_107 F18 v17 u16]), ∀ a, St 29 [(2, (.pointer (some ⟨b2, 0, none⟩))), (5, v42), (11, v17), (12, (.int .i64 (List.length u16 : Int))), (13, (.int .i64 y30))] a → K37 a w38 := by
          intro l41 v42 F43 w38 hF hB39 hS40
          subst hk44
          refine fun a ha => hK37 _ _ ?_ a ha
          refine W.region ?_
          refine wl_add rfl rfl rfl ?_
          refine wl_move rfl rfl ?_
          refine WL.nil ?_
          rw [hnx31] at hF
          exact fun a ha => hKL32 a _ m33 (Nat.lt_succ_self m33) ⟨l41, (w64 (y30 + 1)), v42, F43, ha.sub ⟨rfl, rfl, rfl, rfl, rfl, trivial⟩, hB39, (hS40.sel [0, 1, 2] rfl), hF⟩
        refine W.block ?_
        refine W.seq fun K46 hK46 => ?_
        refine W.region ?_
        refine wl_move rfl rfl ?_
        obtain ⟨u47, hu47, hF⟩ := bindE hF
        refine wl_indexo (e := ty_107) (i := 2) Try.underlying102 rfl rfl rfl hS26 rfl hu47 ?_
        rintro p48 _ rfl hp49 ho50
        refine wl_load_p (vs := [(.int .i64 u47.1.1), (.int .i64 u47.1.2), (.int .i64 u47.2.1.1), (.int .i64 u47.2.1.2), (.int .i64 u47.2.2)]) (v := (.agg #[(.int .i64 u47.1.1), (.int .i64 u47.1.2), (.int .i64 u47.2.1.1), (.int .i64 u47.2.1.2), (.int .i64 u47.2.2)])) tf_107 rfl rfl hp49 rfl rfl ?_
        refine wl_alloc (cs := [(.int .i64 0), (.int .i64 0), (.int .i64 0), (.int .i64 0), (.int .i64 0)]) tf_107 rfl rfl hB25 hS26 ?_
        intro b51 w52 hb53 hB54 hS55
        refine wl_assign rfl rfl ?_
        refine wl_store_blk (i := 0) (vs := [(.int .i64 u47.1.1), (.int .i64 u47.1.2), (.int .i64 u47.2.1.1), (.int .i64 u47.2.1.2), (.int .i64 u47.2.2)]) (cs' := [(.int .i64 u47.1.1), (.int .i64 u47.1.2), (.int .i64 u47.2.1.1), (.int .i64 u47.2.1.2), (.int .i64 u47.2.2)]) tf_107 rfl rfl rfl rfl hB54 hS55 rfl rfl ⟨rfl, rfl, rfl, rfl, rfl, trivial⟩ rfl ?_
        intro w56 hk59 hB57 hS58
        refine WL.nil ?_
        refine fun a ha => hK46 _ _ ?_ a ha
        refine W.seq fun K60 hK60 => ?_
        refine W.region ?_
        refine wl_load_blk (i := 0) (vs := [(.int .i64 u47.1.1), (.int .i64 u47.1.2), (.int .i64 u47.2.1.1), (.int .i64 u47.2.1.2), (.int .i64 u47.2.2)]) (v := (.agg #[(.int .i64 u47.1.1), (.int .i64 u47.1.2), (.int .i64 u47.2.1.1), (.int .i64 u47.2.1.2), (.int .i64 u47.2.2)])) tf_107 rfl rfl hS58 rfl rfl rfl ?_
        refine wl_field (o := 3) (off' := 3) ff_30_3 rfl rfl rfl ?_
        refine wl_load_blk (i := 1) (vs := [(.int .i64 x0.2.2.2)]) (v := (.int .i64 x0.2.2.2)) tf_3 rfl rfl hS58 rfl rfl rfl ?_
        obtain ⟨u61, hu61, hF⟩ := bindE hF
        refine wl_call rfl Try.call120 (C_impl_withinStep w56 u47 x0.2.2.2 _ hu61) rfl ?_
        rintro _ w62 ⟨rfl, hb63⟩
        refine ⟨_, rfl, ?_⟩
        have hB64 := hB57.trans (hb63.mono hB57.size)
        have hS65 := hS58.below hb63
        refine wl_not rfl rfl ?_
        refine WL.nil ?_
        refine fun a ha => hK60 _ _ ?_ a ha
        refine W.cond rfl (fun h67 => ?_) (fun h67 => ?_)
        · replace hF := ifP h67 hF
          refine W.region ?_
          refine wl_move rfl rfl ?_
          refine wl_move rfl rfl ?_
          refine wl_lit (vs := [(.int .i64 y30)]) (l := [y30]) fl_3 Try.underlying23 rfl rfl rfl rfl rfl rfl hB64 hS65 ?_
          intro v68 F69 w70 hb71 hB72 hS73
          obtain ⟨u74, hu74, hF⟩ := bindE hF
          refine wl_append (i := 3) (S := (· < w70.heap.size)) fl_3 Try.underlying23 rfl rfl rfl hB72 hS73 rfl (hS73.own_ro (i := 0) rfl) hu74 ?_
          intro v75 F76 w77 hk78 hB79 hS80
          refine wl_assign rfl rfl ?_
          refine WL.nil ?_
          exact fun a ha => hJ45 (u74) (v75) (F76) _ hF hB79 (hS80.sel [2, 3, 4] rfl) a (ha.sub ⟨rfl, rfl, rfl, rfl, rfl, trivial⟩)
        · replace hF := ifN h67 hF
          refine W.skip ?_
          exact fun a ha => hJ45 (l27) (v28) (F29) _ hF hB64 (hS65.sel [1, 2, 3] rfl) a (ha.sub ⟨rfl, rfl, rfl, rfl, rfl, trivial⟩)
      · replace hF := ifN h36 hF
        refine W.exit ?_
        refine fun a ha => hK14 _ _ ?_ a ha
        refine W.seq fun K81 hK81 => ?_
        refine W.region ?_
        refine wl_move rfl rfl ?_
        refine wl_assign rfl rfl ?_
        refine WL.nil ?_
        refine fun a ha => hK81 _ _ ?_ a ha
        refine W.ret ?_
        have hr := Option.some.inj hF
        subst hr
        exact rets (vs := [v28]) hQ rfl ⟨rv_tmp rfl, trivial⟩ ⟨v28, F29, rfl, hB25, hS26.sel [1] rfl⟩
theorem C_impl_LeastStepOf (w0 : World) (x0 : ((List (List (Int × Int))) × (List Int) × Int × Int)) (v0_0 : Value) (h0_0 : rdS ty_109 (· < w0.heap.size) w0 v0_0 x0.1) (v0_1 : Value) (h0_1 : rdS ty_3 (· < w0.heap.size) w0 v0_1 x0.2.1) (r : (Int × Bool)) (hF : F_impl_LeastStepOf x0 = some r) :
    Calls Try.prog 44 [(.agg #[v0_0, v0_1, (.int .i64 x0.2.2.1), (.int .i64 x0.2.2.2)])].toArray w0 fun e w' => e = .returned (.tuple #[(.int .i64 r.1), (.bool r.2)]) ∧ Below w0.heap.size w0 w' := by
  refine calls_mk' Try.func44 rfl Try.ntmps44 rfl rfl fun Q hQ hP => ?_
  have hB : Below w0.heap.size w0 w0 := Below.refl _ _
  have hS : Sep w0.heap.size w0 [] := Sep.nil _ _
  unfold F_impl_LeastStepOf at hF
  refine W.seq fun K1 hK1 => ?_
  refine W.region ?_
  refine wl_box (cs := [v0_0, v0_1, (.int .i64 x0.2.2.1), (.int .i64 x0.2.2.2)]) rfl rfl rfl hB hS ?_
  intro b2 w3 hb4 hB5 hS6
  refine wl_assign rfl rfl ?_
  refine wl_assign rfl rfl ?_
  refine WL.nil ?_
  refine fun a ha => hK1 _ _ ?_ a ha
  refine W.seq fun K7 hK7 => ?_
  refine W.seq fun K8 hK8 => ?_
  refine W.region ?_
  refine wl_load_blk (i := 0) (vs := [v0_0, v0_1, (.int .i64 x0.2.2.1), (.int .i64 x0.2.2.2)]) (v := (.agg #[v0_0, v0_1, (.int .i64 x0.2.2.1), (.int .i64 x0.2.2.2)])) tf_30 rfl rfl hS6 rfl rfl rfl ?_
  obtain ⟨u9, hu9, hF⟩ := bindE hF
  refine wl_call rfl Try.call18 (C_impl_IsShow w3 x0 v0_0 (h0_0.ro hB5) v0_1 (h0_1.ro hB5) _ hu9) rfl ?_
  rintro _ w10 ⟨rfl, hb11⟩
  refine ⟨_, rfl, ?_⟩
  have hB12 := hB5.trans (hb11.mono hB5.size)
  have hS13 := hS6.below hb11
  refine wl_not rfl rfl ?_
  refine WL.nil ?_
  refine fun a ha => hK8 _ _ ?_ a ha
  refine W.cond rfl (fun h15 => ?_) (fun h15 => ?_)
  · replace hF := ifP h15 hF
    refine W.seq fun K16 hK16 => ?_
    refine W.region ?_
    refine wl_assign rfl rfl ?_
    refine wl_assign rfl rfl ?_
    refine WL.nil ?_
    refine fun a ha => hK16 _ _ ?_ a ha
    refine W.ret ?_
    have hr := Option.some.inj hF
    subst hr
    exact rets (vs := [(.int .i64 0), (.bool false)]) hQ rfl ⟨rv_tmp rfl, rv_tmp rfl, trivial⟩ ⟨rfl, hB12⟩
  · replace hF := ifN h15 hF
    refine W.skip ?_
    refine fun a ha => hK7 _ _ ?_ a ha
    refine W.seq fun K17 hK17 => ?_
    refine W.seq fun K18 hK18 => ?_
    refine W.region ?_
    refine wl_assign rfl rfl ?_
    refine WL.nil ?_
    refine fun a ha => hK18 _ _ ?_ a ha
    refine W.block ?_
    refine W.loopk (fun m a w19 => ∃ (y22 : Int), St 36 [(1, (.pointer (some ⟨b2, 0, none⟩))), (4, (.int .i64 y22))] a ∧ Below w0.heap.size w0 w19 ∧ Sep w0.heap.size w19 [R.blk b2 30 [v0_0, v0_1, (.int .i64 x0.2.2.1), (.int .i64 x0.2.2.2)]] ∧ F_impl_LeastStepOf_L1 x0 m y22 = some r) FU ?_ ?_
    ·
      exact fun a ha => ⟨1, ha.sub ⟨rfl, rfl, trivial⟩, hB12, (hS13.sel [0] rfl), hF⟩
    ·
      rintro m25 a w19 ⟨y22, ha, hB20, hS21, hF⟩ KL24 hKL24
      refine W.at ?_ ha
      cases m25 with
      | zero => exact noneE hF
      | succ m25 =>
        obtain ⟨nx23, hnx23⟩ : ∃ k, k = F_impl_LeastStepOf_L1 x0 m25 := ⟨_, rfl⟩
        rw [F_impl_LeastStepOf_L1, ← hnx23] at hF
        refine W.seq fun K26 hK26 => ?_
        refine W.seq fun K27 hK27 => ?_
        refine W.region ?_
        refine wl_move rfl rfl ?_
        refine wl_leq rfl rfl rfl ?_
        refine WL.nil ?_
        refine fun a ha => hK27 _ _ ?_ a ha
        refine W.cond rfl (fun h28 => ?_) (fun h28 => ?_)
        · replace hF := ifP h28 hF
          refine W.skip ?_
          refine fun a ha => hK26 _ _ ?_ a ha
          refine W.seq fun K29 hK29 => ?_
          refine W.block ?_
          refine W.seq fun K30 hK30 => ?_
          refine W.region ?_
          refine wl_load_blk (i := 0) (vs := [v0_0, v0_1, (.int .i64 x0.2.2.1), (.int .i64 x0.2.2.2)]) (v := (.agg #[v0_0, v0_1, (.int .i64 x0.2.2.1), (.int .i64 x0.2.2.2)])) tf_30 rfl rfl hS21 rfl rfl rfl ?_
          refine wl_alloc (cs := [(.slice none 0 0), (.slice none 0 0), (.int .i64 0), (.int .i64 0)]) tf_30 rfl rfl hB20 hS21 ?_
          intro b31 w32 hb33 hB34 hS35
          refine wl_store_blk (i := 0) (vs := [v0_0, v0_1, (.int .i64 x0.2.2.1), (.int .i64 x0.2.2.2)]) (cs' := [v0_0, v0_1, (.int .i64 x0.2.2.1), (.int .i64 x0.2.2.2)]) tf_30 rfl rfl rfl rfl hB34 hS35 rfl rfl ⟨(h0_0.ro hB34).one, (h0_1.ro hB34).one, rfl, rfl, trivial⟩ rfl ?_
          intro w36 hk39 hB37 hS38
          refine WL.nil ?_
          refine fun a ha => hK30 _ _ ?_ a ha
          refine W.seq fun K40 hK40 => ?_
          refine W.region ?_
          refine wl_move rfl rfl ?_
          refine wl_field (o := 3) (off' := 3) ff_30_3 rfl rfl rfl ?_
          refine wl_store_blk (i := 0) (vs := [(.int .i64 y22)]) (cs' := [v0_0, v0_1, (.int .i64 x0.2.2.1), (.int .i64 y22)]) tf_3 rfl rfl rfl rfl hB37 hS38 rfl rfl ⟨rfl, trivial⟩ rfl ?_
          intro w41 hk44 hB42 hS43
          refine WL.nil ?_
          refine fun a ha => hK40 _ _ ?_ a ha
          refine W.seq fun K45 hK45 => ?_
          refine W.region ?_
          refine wl_assign rfl rfl ?_
          refine WL.nil ?_
          refine fun a ha => hK45 _ _ ?_ a ha
          refine W.seq fun K46 hK46 => ?_
          refine W.seq fun K47 hK47 => ?_
          refine W.region ?_
          refine wl_field (o := 1) (off' := 1) ff_30_1 rfl rfl rfl ?_
          refine wl_load_blk (i := 0) (vs := [v0_1]) (v := v0_1) tf_23 rfl rfl hS43 rfl rfl rfl ?_
          refine wl_lenr (e := ty_3) (l := x0.2.1) Try.underlying23 rfl rfl h0_1 ?_
          refine wl_move rfl rfl ?_
          refine WL.nil ?_
          refine fun a ha => hK47 _ _ ?_ a ha
          refine W.block ?_
          refine W.loopk (fun m a w48 => ∃ (y51 : Bool) (y52 : Int), St 36 [(1, (.pointer (some ⟨b2, 0, none⟩))), (4, (.int .i64 y22)), (5, (.pointer (some ⟨b31, 0, none⟩))), (6, (.bool y51)), (20, (.int .i64 (List.length x0.2.1 : Int))), (21, (.int .i64 y52))] a ∧ Below w0.heap.size w0 w48 ∧ Sep w0.heap.size w48 [R.blk b2 30 [v0_0, v0_1, (.int .i64 x0.2.2.1), (.int .i64 x0.2.2.2)], R.blk b31 30 [v0_0, v0_1, (.int .i64 x0.2.2.1), (.int .i64 y22)]] ∧ F_impl_LeastStepOf_L2 x0 y22 nx23 m y51 y52 = some r) FU ?_ ?_
          ·
            exact fun a ha => ⟨false, 0, ha.sub ⟨rfl, rfl, rfl, rfl, rfl, rfl, trivial⟩, hB42, (hS43.sel [1, 0] rfl), hF⟩
          ·
            rintro m55 a w48 ⟨y51, y52, ha, hB49, hS50, hF⟩ KL54 hKL54
            refine W.at ?_ ha
            cases m55 with
            | zero => exact noneE hF
            | succ m55 =>
              obtain ⟨nx53, hnx53⟩ : ∃ k, k = F_impl_LeastStepOf_L2 x0 y22 nx23 m55 := ⟨_, rfl⟩
              rw [F_impl_LeastStepOf_L2, ← hnx53] at hF
              refine W.seq fun K56 hK56 => ?_
              refine W.region ?_
              refine wl_lss rfl rfl rfl ?_
              refine WL.nil ?_
              refine fun a ha => hK56 _ _ ?_ a ha
              refine W.seq fun K57 hK57 => ?_
              refine W.cond rfl (fun h58 => ?_) (fun h58 => ?_)
              · replace hF := ifP h58 hF
                refine W.skip ?_
                refine fun a ha => hK57 _ _ ?_ a ha
                refine W.seq fun K59 hK59 => ?_
                obtain ⟨k64, hk64, hF⟩ := jE1 hF
                have hJ65 : ∀ (y63 : Bool) (w60 : World) (_ : k64 y63 = some r) (_ : Below w0.heap.size w0 w60) (_ : Sep w0.heap.size w60 [R.blk b2 30 [v0_0, v0_1, (.int .i64 x0.2.2.1), (.int .i64 x0.2.2.2)], R.blk b31 30 [v0_0, v0_1, (.int .i64 x0.2.2.1), (.int .i64 y22)]]), ∀ a, St 36 [(1, (.pointer (some ⟨b2, 0, none⟩))), (4, (.int .i64 y22)), (5, (.pointer (some ⟨b31, 0, none⟩))), (6, (.bool y63)), (20, (.int .i64 (List.length x0.2.1 : Int))), (21, (.int .i64 y52))] a → K59 a w60 := by
                  intro y63 w60 hF hB61 hS62
                  subst hk64
                  refine fun a ha => hK59 _ _ ?_ a ha
                  refine W.region ?_
                  refine wl_add rfl rfl rfl ?_
                  refine wl_move rfl rfl ?_
                  refine WL.nil ?_
                  rw [hnx53] at hF
                  exact fun a ha => hKL54 a _ m55 (Nat.lt_succ_self m55) ⟨y63, (w64 (y52 + 1)), ha.sub ⟨rfl, rfl, rfl, rfl, rfl, rfl, trivial⟩, hB61, (hS62.sel [0, 1] rfl), hF⟩
                refine W.block ?_
                refine W.seq fun K66 hK66 => ?_
                refine W.region ?_
                refine wl_move rfl rfl ?_
                refine wl_assign rfl rfl ?_
                refine WL.nil ?_
                refine fun a ha => hK66 _ _ ?_ a ha
                refine W.region ?_
                refine wl_move rfl rfl ?_
                refine wl_move rfl rfl ?_
                rcases bE y51 with h67 | h67
                · replace hF := ifP h67 hF
                  refine wl_off rfl rfl rfl h67 ?_
                  refine wl_off rfl rfl rfl h67 ?_
                  refine wl_off rfl rfl rfl h67 ?_
                  refine wl_off rfl rfl rfl h67 ?_
                  refine wl_off rfl rfl rfl h67 ?_
                  refine wl_pick_t rfl rfl h67 rfl ?_
                  refine wl_assign rfl rfl ?_
                  refine WL.nil ?_
                  exact fun a ha => hJ65 (true) _ hF hB49 (hS50.sel [0, 1] rfl) a (ha.sub ⟨rfl, rfl, rfl, rfl, rfl, rfl, trivial⟩)
                · replace hF := ifN h67 hF
                  refine wl_on rfl rfl h67 ?_
                  refine wl_load_blk (i := 1) (vs := [v0_0, v0_1, (.int .i64 x0.2.2.1), (.int .i64 y22)]) (v := (.agg #[v0_0, v0_1, (.int .i64 x0.2.2.1), (.int .i64 y22)])) tf_30 rfl rfl hS50 rfl rfl rfl ?_
                  refine wl_on rfl rfl h67 ?_
                  refine wl_move rfl rfl ?_
                  refine wl_on rfl rfl h67 ?_
                  obtain ⟨u68, hu68, hF⟩ := bindE hF
                  refine wl_call rfl Try.call94 (C_impl_wideSteps w48 (x0.1, x0.2.1, x0.2.2.1, y22) v0_0 (h0_0.ro hB49) v0_1 (h0_1.ro hB49) y52 _ hu68) rfl ?_
                  rintro _ w71 ⟨v69, F70, rfl, hb72, hM75⟩
                  refine ⟨_, rfl, ?_⟩
                  have hB73 := hB49.trans (hb72.mono hB49.size)
                  have hS74 := hS50.join hb72 hM75 hB49.size
                  refine wl_on rfl rfl h67 ?_
                  refine wl_lenr (e := ty_3) (l := u68) Try.underlying23 rfl rfl (hS74.own_ro (i := 0) rfl) ?_
                  refine wl_on rfl rfl h67 ?_
                  refine wl_gtr rfl rfl rfl ?_
                  refine wl_pick_f rfl rfl h67 rfl ?_
                  refine wl_assign rfl rfl ?_
                  refine WL.nil ?_
                  exact fun a ha => hJ65 ((decide (0 < (List.length u68 : Int)))) _ hF hB73 (hS74.sel [1, 2] rfl) a (ha.sub ⟨rfl, rfl, rfl, rfl, rfl, rfl, trivial⟩)
              · replace hF := ifN h58 hF
                refine W.exit ?_
                refine fun a ha => hK46 _ _ ?_ a ha
                refine W.seq fun K76 hK76 => ?_
                refine W.region ?_
                refine wl_move rfl rfl ?_
                refine wl_not rfl rfl ?_
                refine WL.nil ?_
                refine fun a ha => hK76 _ _ ?_ a ha
                refine W.cond rfl (fun h77 => ?_) (fun h77 => ?_)
                · replace hF := ifP h77 hF
                  refine W.seq fun K78 hK78 => ?_
                  refine W.region ?_
                  refine wl_move rfl rfl ?_
                  refine wl_assign rfl rfl ?_
                  refine wl_assign rfl rfl ?_
                  refine WL.nil ?_
                  refine fun a ha => hK78 _ _ ?_ a ha
                  refine W.ret ?_
                  have hr := Option.some.inj hF
                  subst hr
                  exact rets (vs := [(.int .i64 y22), (.bool true)]) hQ rfl ⟨rv_tmp rfl, rv_tmp rfl, trivial⟩ ⟨rfl, hB49⟩
                · replace hF := ifN h77 hF
                  refine W.skip ?_
                  refine fun a ha => hK29 _ _ ?_ a ha
                  refine W.region ?_
                  refine wl_move rfl rfl ?_
                  refine wl_add rfl rfl rfl ?_
                  refine wl_assign rfl rfl ?_
                  refine WL.nil ?_
                  rw [hnx23] at hF
                  exact fun a ha => hKL24 a _ m25 (Nat.lt_succ_self m25) ⟨(w64 (y22 + 1)), ha.sub ⟨rfl, rfl, trivial⟩, hB49, (hS50.sel [0] rfl), hF⟩
        · replace hF := ifN h28 hF
          refine W.exit ?_
          refine fun a ha => hK17 _ _ ?_ a ha
          refine W.seq fun K79 hK79 => ?_
          refine W.region ?_
          refine wl_assign rfl rfl ?_
          refine wl_assign rfl rfl ?_
          refine WL.nil ?_
          refine fun a ha => hK79 _ _ ?_ a ha
          refine W.ret ?_
          have hr := Option.some.inj hF
          subst hr
          exact rets (vs := [(.int .i64 0), (.bool false)]) hQ rfl ⟨rv_tmp rfl, rv_tmp rfl, trivial⟩ ⟨rfl, hB20⟩
theorem C_laws_FnExactLeastStepOf (w0 : World) (x0 : ((List (List (Int × Int))) × (List Int) × Int × Int)) (v0_0 : Value) (h0_0 : rdS ty_119 (· < w0.heap.size) w0 v0_0 x0.1) (v0_1 : Value) (h0_1 : rdS ty_3 (· < w0.heap.size) w0 v0_1 x0.2.1) (r : Bool) (hF : F_laws_FnExactLeastStepOf x0 = some r) :
    Calls Try.prog 10 [(.agg #[v0_0, v0_1, (.int .i64 x0.2.2.1), (.int .i64 x0.2.2.2)])].toArray w0 fun e w' => e = .returned (.bool r) ∧ Below w0.heap.size w0 w' := by
  refine calls_mk' Try.func10 rfl Try.ntmps10 rfl rfl fun Q hQ hP => ?_
  have hB : Below w0.heap.size w0 w0 := Below.refl _ _
  have hS : Sep w0.heap.size w0 [] := Sep.nil _ _
  unfold F_laws_FnExactLeastStepOf at hF
  refine W.seq fun K1 hK1 => ?_
  refine W.region ?_
  refine wl_box (cs := [v0_0, v0_1, (.int .i64 x0.2.2.1), (.int .i64 x0.2.2.2)]) rfl rfl rfl hB hS ?_
  intro b2 w3 hb4 hB5 hS6
  refine wl_assign rfl rfl ?_
  refine WL.nil ?_
  refine fun a ha => hK1 _ _ ?_ a ha
  refine W.seq fun K7 hK7 => ?_
  refine W.region ?_
  refine wl_assign rfl rfl ?_
  refine WL.nil ?_
  refine fun a ha => hK7 _ _ ?_ a ha
  refine W.seq fun K8 hK8 => ?_
  refine W.region ?_
  refine wl_load_blk (i := 0) (vs := [v0_0, v0_1, (.int .i64 x0.2.2.1), (.int .i64 x0.2.2.2)]) (v := (.agg #[v0_0, v0_1, (.int .i64 x0.2.2.1), (.int .i64 x0.2.2.2)])) tf_25 rfl rfl hS6 rfl rfl rfl ?_
  refine wl_move rfl rfl ?_
  obtain ⟨u9, hu9, hF⟩ := bindE hF
  refine wl_call rfl Try.call15 (C_laws_szShow w3 x0 v0_0 (h0_0.ro hB5) v0_1 (h0_1.ro hB5) 1048576 _ hu9) rfl ?_
  rintro _ w10 ⟨rfl, hb11⟩
  refine ⟨_, rfl, ?_⟩
  have hB12 := hB5.trans (hb11.mono hB5.size)
  have hS13 := hS6.below hb11
  refine wl_assign rfl rfl ?_
  refine WL.nil ?_
  refine fun a ha => hK8 _ _ ?_ a ha
  refine W.seq fun K15 hK15 => ?_
  refine W.seq fun K16 hK16 => ?_
  refine W.region ?_
  refine wl_move rfl rfl ?_
  refine wl_lss rfl rfl rfl ?_
  refine WL.nil ?_
  refine fun a ha => hK16 _ _ ?_ a ha
  refine W.cond rfl (fun h17 => ?_) (fun h17 => ?_)
  · replace hF := ifP h17 hF
    refine W.seq fun K18 hK18 => ?_
    refine W.region ?_
    refine wl_assign rfl rfl ?_
    refine WL.nil ?_
    refine fun a ha => hK18 _ _ ?_ a ha
    refine W.ret ?_
    have hr := Option.some.inj hF
    subst hr
    exact rets (vs := [(.bool true)]) hQ rfl ⟨rv_tmp rfl, trivial⟩ ⟨rfl, hB12⟩
  · replace hF := ifN h17 hF
    refine W.skip ?_
    refine fun a ha => hK15 _ _ ?_ a ha
    refine W.seq fun K19 hK19 => ?_
    refine W.region ?_
    refine wl_load_blk (i := 0) (vs := [v0_0, v0_1, (.int .i64 x0.2.2.1), (.int .i64 x0.2.2.2)]) (v := (.agg #[v0_0, v0_1, (.int .i64 x0.2.2.1), (.int .i64 x0.2.2.2)])) tf_25 rfl rfl hS13 rfl rfl rfl ?_
    obtain ⟨u20, hu20, hF⟩ := bindE hF
    refine wl_call rfl Try.call17 (C_laws_toShow w10 x0 v0_0 (h0_0.ro hB12) v0_1 (h0_1.ro hB12) _ hu20) rfl ?_
    rintro _ w25 ⟨v21, F22, v23, F24, rfl, hb26, hM29⟩
    refine ⟨_, rfl, ?_⟩
    have hB27 := hB12.trans (hb26.mono hB12.size)
    have hS28 := hS13.join hb26 hM29 hB12.size
    obtain ⟨u30, hu30, hF⟩ := bindE hF
    refine wl_call rfl Try.call43 (C_spec_LeastStepOf w25 u20 v21 (hS28.own_ro (i := 0) rfl) v23 (hS28.own_ro (i := 1) rfl) _ hu30) rfl ?_
    rintro _ w31 ⟨rfl, hb32⟩
    refine ⟨_, rfl, ?_⟩
    have hB33 := hB27.trans (hb32.mono hB27.size)
    have hS34 := hS28.below hb32
    refine wl_move rfl rfl ?_
    refine wl_extract rfl rfl rfl ?_
    refine wl_extract rfl rfl rfl ?_
    refine wl_assign rfl rfl ?_
    refine wl_assign rfl rfl ?_
    refine WL.nil ?_
    refine fun a ha => hK19 _ _ ?_ a ha
    refine W.seq fun K36 hK36 => ?_
    refine W.region ?_
    refine wl_load_blk (i := 2) (vs := [v0_0, v0_1, (.int .i64 x0.2.2.1), (.int .i64 x0.2.2.2)]) (v := (.agg #[v0_0, v0_1, (.int .i64 x0.2.2.1), (.int .i64 x0.2.2.2)])) tf_25 rfl rfl hS34 rfl rfl rfl ?_
    obtain ⟨u37, hu37, hF⟩ := bindE hF
    refine wl_call rfl Try.call17 (C_laws_toShow w31 x0 v0_0 (h0_0.ro hB33) v0_1 (h0_1.ro hB33) _ hu37) rfl ?_
    rintro _ w42 ⟨v38, F39, v40, F41, rfl, hb43, hM46⟩
    refine ⟨_, rfl, ?_⟩
    have hB44 := hB33.trans (hb43.mono hB33.size)
    have hS45 := hS34.join hb43 hM46 hB33.size
    refine wl_alloc (cs := [(.slice none 0 0), (.slice none 0 0), (.int .i64 0), (.int .i64 0)]) tf_30 rfl rfl hB44 hS45 ?_
    intro b47 w48 hb49 hB50 hS51
    refine wl_store_blk (i := 0) (vs := [v38, v40, (.int .i64 u37.2.2.1), (.int .i64 u37.2.2.2)]) (cs' := [v38, v40, (.int .i64 u37.2.2.1), (.int .i64 u37.2.2.2)]) tf_30 rfl rfl rfl rfl hB50 hS51 rfl rfl ⟨(hS51.own_ro (i := 1) rfl).one, (hS51.own_ro (i := 2) rfl).one, rfl, rfl, trivial⟩ rfl ?_
    intro w52 hk55 hB53 hS54
    refine WL.nil ?_
    refine fun a ha => hK36 _ _ ?_ a ha
    refine W.seq fun K56 hK56 => ?_
    refine W.region ?_
    refine wl_load_blk (i := 0) (vs := [v38, v40, (.int .i64 u37.2.2.1), (.int .i64 u37.2.2.2)]) (v := (.agg #[v38, v40, (.int .i64 u37.2.2.1), (.int .i64 u37.2.2.2)])) tf_30 rfl rfl hS54 rfl rfl rfl ?_
    obtain ⟨u57, hu57, hF⟩ := bindE hF
    refine wl_call rfl Try.call44 (C_impl_LeastStepOf w52 u37 v38 (hS54.own_ro (i := 1) rfl) v40 (hS54.own_ro (i := 2) rfl) _ hu57) rfl ?_
    rintro _ w58 ⟨rfl, hb59⟩
    refine ⟨_, rfl, ?_⟩
    have hB60 := hB53.trans (hb59.mono hB53.size)
    have hS61 := hS54.below hb59
    refine wl_move rfl rfl ?_
    refine wl_extract rfl rfl rfl ?_
    refine wl_extract rfl rfl rfl ?_
    refine wl_assign rfl rfl ?_
    refine wl_assign rfl rfl ?_
    refine WL.nil ?_
    refine fun a ha => hK56 _ _ ?_ a ha
    refine W.seq fun K63 hK63 => ?_
    refine W.seq fun K64 hK64 => ?_
    obtain ⟨k69, hk69, hF⟩ := jE1 hF
    have hJ70 : ∀ (y68 : Bool) (w65 : World) (_ : k69 y68 = some r) (_ : Below w0.heap.size w0 w65) (_ : Sep w0.heap.size w65 [R.blk b2 25 [v0_0, v0_1, (.int .i64 x0.2.2.1), (.int .i64 x0.2.2.2)], R.own ty_109 F39 v38 u37.1, R.own ty_3 F41 v40 u37.2.1, R.blk b47 30 [v38, v40, (.int .i64 u37.2.2.1), (.int .i64 u37.2.2.2)]]), ∀ a, St 40 [(1, (.pointer (some ⟨b2, 0, none⟩))), (6, (.pointer (some ⟨b47, 0, none⟩))), (34, (.bool y68))] a → K64 a w65 := by
      intro y68 w65 hF hB66 hS67
      subst hk69
      refine fun a ha => hK64 _ _ ?_ a ha
      refine W.cond rfl (fun h71 => ?_) (fun h71 => ?_)
      · replace hF := ifP h71 hF
        refine W.seq fun K72 hK72 => ?_
        refine W.region ?_
        refine wl_assign rfl rfl ?_
        refine WL.nil ?_
        refine fun a ha => hK72 _ _ ?_ a ha
        refine W.ret ?_
        have hr := Option.some.inj hF
        subst hr
        exact rets (vs := [(.bool false)]) hQ rfl ⟨rv_tmp rfl, trivial⟩ ⟨rfl, hB66⟩
      · replace hF := ifN h71 hF
        refine W.skip ?_
        refine fun a ha => hK63 _ _ ?_ a ha
        refine W.seq fun K73 hK73 => ?_
        refine W.seq fun K74 hK74 => ?_
        refine W.regionH mixed_ [] hB66 hS67 ?_
        intro w75 hb76 hB77 hS78
        have hSW79 := KeepX.refl w75 []
        refine WH.takex (i := 0) rfl (by kernel_rfl) (by kernel_rfl) (by kernel_rfl) hP hSW79 ?_
        refine pr_load_blk (i := 3) (vs := [v38, v40, (.int .i64 u37.2.2.1), (.int .i64 u37.2.2.2)]) (v := (.agg #[v38, v40, (.int .i64 u37.2.2.1), (.int .i64 u37.2.2.2)])) tf_30 rfl rfl hS78 rfl rfl rfl (by simp) ?_
        refine WH.takex (i := 1) rfl (by kernel_rfl) (by kernel_rfl) (by kernel_rfl) hP hSW79 ?_
        refine pr_load_blk (i := 0) (vs := [v0_0, v0_1, (.int .i64 x0.2.2.1), (.int .i64 x0.2.2.2)]) (v := (.agg #[v0_0, v0_1, (.int .i64 x0.2.2.1), (.int .i64 x0.2.2.2)])) tf_25 rfl rfl hS78 rfl rfl rfl (by simp) ?_
        refine WH.one (i := 2) (by kernel_rfl) rfl ?_
        obtain ⟨u80, hu80, hF⟩ := bindE hF
        refine wl_call rfl Try.call17 (C_laws_toShow w75 x0 v0_0 (h0_0.ro hB77) v0_1 (h0_1.ro hB77) _ hu80) rfl ?_
        rintro _ w85 ⟨v81, F82, v83, F84, rfl, hb86, hM89⟩
        refine ⟨_, rfl, ?_⟩
        have hB87 := hB77.trans (hb86.mono hB77.size)
        have hS88 := hS78.join hb86 hM89 hB77.size
        have hSW90 := hSW79.ext hb86
        have hbS91 : Below w75.heap.size w75 w85 := hb86
        refine WL.nil (WH.ret hSW90 ?_)
        refine WH.one (i := 3) (by kernel_rfl) rfl ?_
        obtain ⟨u92, hu92, hF⟩ := bindE hF
        refine wl_call rfl Try.call19 (C_laws_eqShow w85 u37 v38 (hS88.own_ro (i := 3) rfl) v40 (hS88.own_ro (i := 4) rfl) u80 v81 (hS88.own_ro (i := 0) rfl) v83 (hS88.own_ro (i := 1) rfl) _ hu92) rfl ?_
        rintro _ w93 ⟨rfl, hb94⟩
        refine ⟨_, rfl, ?_⟩
        have hB95 := hB87.trans (hb94.mono hB87.size)
        have hS96 := hS88.below hb94
        have hSW98 := hSW90.ext hb94
        have hbS99 : Below w75.heap.size w75 w93 := hbS91.trans (hb94.mono hbS91.size)
        refine WL.nil (WH.ret hSW98 ?_)
        refine WH.takex (i := 4) rfl (by kernel_rfl) (by kernel_rfl) (by kernel_rfl) hP hSW98 ?_
        refine pr_not rfl rfl ?_
        refine WH.done (by kernel_rfl) ?_
        refine fun a ha => hK74 _ _ ?_ a ha
        refine W.cond rfl (fun h100 => ?_) (fun h100 => ?_)
        · replace hF := ifP h100 hF
          refine W.seq fun K101 hK101 => ?_
          refine W.region ?_
          refine wl_assign rfl rfl ?_
          refine WL.nil ?_
          refine fun a ha => hK101 _ _ ?_ a ha
          refine W.ret ?_
          have hr := Option.some.inj hF
          subst hr
          exact rets (vs := [(.bool false)]) hQ rfl ⟨rv_tmp rfl, trivial⟩ ⟨rfl, hB95⟩
        · replace hF := ifN h100 hF
          refine W.skip ?_
          refine fun a ha => hK73 _ _ ?_ a ha
          refine W.seq fun K102 hK102 => ?_
          refine W.region ?_
          refine wl_assign rfl rfl ?_
          refine WL.nil ?_
          refine fun a ha => hK102 _ _ ?_ a ha
          refine W.ret ?_
          have hr := Option.some.inj hF
          subst hr
          exact rets (vs := [(.bool true)]) hQ rfl ⟨rv_tmp rfl, trivial⟩ ⟨rfl, hB95⟩
    refine W.region ?_
    refine wl_move rfl rfl ?_
    refine wl_move rfl rfl ?_
    refine wl_neq rfl rfl rfl ?_
    refine wl_move rfl rfl ?_
    rcases bE (u57.1 != u30.1) with h103 | h103
    · replace hF := ifP h103 hF
      refine wl_off rfl rfl rfl h103 ?_
      refine wl_off rfl rfl rfl h103 ?_
      refine wl_off rfl rfl rfl h103 ?_
      refine wl_pick_t rfl rfl h103 rfl ?_
      refine WL.nil ?_
      exact fun a ha => hJ70 (true) _ hF hB60 (hS61.sel [5, 1, 2, 0] rfl) a (ha.sub ⟨rfl, rfl, rfl, trivial⟩)
    · replace hF := ifN h103 hF
      refine wl_on rfl rfl h103 ?_
      refine wl_move rfl rfl ?_
      refine wl_on rfl rfl h103 ?_
      refine wl_move rfl rfl ?_
      refine wl_on rfl rfl h103 ?_
      refine wl_neqb Try.underlying4 rfl rfl rfl ?_
      refine wl_pick_f rfl rfl h103 rfl ?_
      refine WL.nil ?_
      exact fun a ha => hJ70 ((u57.2 != u30.2)) _ hF hB60 (hS61.sel [5, 1, 2, 0] rfl) a (ha.sub ⟨rfl, rfl, rfl, trivial⟩)
end Go.Proofs.Ytmbhdelegdhieaa
