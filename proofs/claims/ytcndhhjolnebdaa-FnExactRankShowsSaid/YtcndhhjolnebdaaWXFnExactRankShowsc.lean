/-
  THE WALKS of functions of this seat, by program (gen.py, prune.py).
-/
import Derived.Test.YtcndhhjolnebdaaWXFnExactRankShowsb
set_option linter.unusedSimpArgs false
set_option linter.unusedVariables false
set_option maxRecDepth 100000
namespace Go.Proofs.Ytcndhhjolnebdaa
open Go Go.RowKit
theorem C_impl_compareDemand (w0 : World) (x0 : ((List (List (Int × Int))) × (List Int) × Int × Int)) (v0_0 : Value) (h0_0 : rdS ty_82 (· < w0.heap.size) w0 v0_0 x0.1) (v0_1 : Value) (h0_1 : rdS ty_3 (· < w0.heap.size) w0 v0_1 x0.2.1) (x1 : ((List (List (Int × Int))) × (List Int) × Int × Int)) (v1_0 : Value) (h1_0 : rdS ty_82 (· < w0.heap.size) w0 v1_0 x1.1) (v1_1 : Value) (h1_1 : rdS ty_3 (· < w0.heap.size) w0 v1_1 x1.2.1) (r : Int) (hF : F_impl_compareDemand x0 x1 = some r) :
    Calls Try.prog 36 [(.agg #[v0_0, v0_1, (.int .i64 x0.2.2.1), (.int .i64 x0.2.2.2)]), (.agg #[v1_0, v1_1, (.int .i64 x1.2.2.1), (.int .i64 x1.2.2.2)])].toArray w0 fun e w' => e = .returned (.int .i64 r) ∧ Below w0.heap.size w0 w' := by
  refine calls_mk' Try.func36 rfl Try.ntmps36 rfl rfl fun Q hQ hP => ?_
  have hB : Below w0.heap.size w0 w0 := Below.refl _ _
  have hS : Sep w0.heap.size w0 [] := Sep.nil _ _
  unfold F_impl_compareDemand at hF
  refine W.seq fun K1 hK1 => ?_
  refine W.region ?_
  refine wl_box (cs := [v0_0, v0_1, (.int .i64 x0.2.2.1), (.int .i64 x0.2.2.2)]) rfl rfl rfl hB hS ?_
  intro b2 w3 hb4 hB5 hS6
  refine wl_box (cs := [v1_0, v1_1, (.int .i64 x1.2.2.1), (.int .i64 x1.2.2.2)]) rfl rfl rfl hB5 hS6 ?_
  intro b7 w8 hb9 hB10 hS11
  refine wl_assign rfl rfl ?_
  refine WL.nil ?_
  refine fun a ha => hK1 _ _ ?_ a ha
  refine W.seq fun K12 hK12 => ?_
  refine W.seq fun K13 hK13 => ?_
  refine W.regionH mixed_ [] hB10 hS11 ?_
  intro w14 hb15 hB16 hS17
  have hSW18 := KeepX.refl w14 []
  refine WH.takex (i := 0) rfl (by kernel_rfl) (by kernel_rfl) (by kernel_rfl) hP hSW18 ?_
  refine pr_load_blk (i := 1) (vs := [v0_0, v0_1, (.int .i64 x0.2.2.1), (.int .i64 x0.2.2.2)]) (v := (.agg #[v0_0, v0_1, (.int .i64 x0.2.2.1), (.int .i64 x0.2.2.2)])) tf_42 rfl rfl hS17 rfl rfl rfl (by simp) ?_
  refine WH.takex (i := 3) rfl (by kernel_rfl) (by kernel_rfl) (by kernel_rfl) hP hSW18 ?_
  refine pr_load_blk (i := 0) (vs := [v1_0, v1_1, (.int .i64 x1.2.2.1), (.int .i64 x1.2.2.2)]) (v := (.agg #[v1_0, v1_1, (.int .i64 x1.2.2.1), (.int .i64 x1.2.2.2)])) tf_42 rfl rfl hS17 rfl rfl rfl (by simp) ?_
  refine WH.one (i := 1) (by kernel_rfl) rfl ?_
  obtain ⟨u19, hu19, hF⟩ := bindE hF
  refine wl_call rfl Try.call71 (C_impl_unsafParts w14 x0 v0_0 (h0_0.ro hB16) v0_1 (h0_1.ro hB16) _ hu19) rfl ?_
  rintro _ w22 ⟨v20, F21, rfl, hb23, hM26⟩
  refine ⟨_, rfl, ?_⟩
  have hB24 := hB16.trans (hb23.mono hB16.size)
  have hn27 : ∀ b ∈ F21, w14.heap.size ≤ b := fun b hb => Nat.le_trans hSW18.size ((hM26.get (i := 0) rfl).2.1 b hb).1
  have hS25 := hS17.join hb23 hM26 hB16.size
  have hSW28 := hSW18.ext hb23
  refine WL.nil (WH.ret hSW28 ?_)
  refine WH.takex (i := 2) rfl (by kernel_rfl) (by kernel_rfl) (by kernel_rfl) hP hSW28 ?_
  refine pr_lenr (e := ty_3) (l := u19) Try.underlying24 rfl rfl (hS25.own_ro (i := 0) rfl) ?_
  refine WH.one (i := 4) (by kernel_rfl) rfl ?_
  obtain ⟨u29, hu29, hF⟩ := bindE hF
  refine wl_call rfl Try.call71 (C_impl_unsafParts w22 x1 v1_0 (h1_0.ro hB24) v1_1 (h1_1.ro hB24) _ hu29) rfl ?_
  rintro _ w32 ⟨v30, F31, rfl, hb33, hM36⟩
  refine ⟨_, rfl, ?_⟩
  have hB34 := hB24.trans (hb33.mono hB24.size)
  have hn37 : ∀ b ∈ F31, w14.heap.size ≤ b := fun b hb => Nat.le_trans hSW28.size ((hM36.get (i := 0) rfl).2.1 b hb).1
  have hS35 := hS25.join hb33 hM36 hB24.size
  have hSW38 := hSW28.ext hb33
  refine WL.nil (WH.ret hSW38 ?_)
  refine WH.takex (i := 5) rfl (by kernel_rfl) (by kernel_rfl) (by kernel_rfl) hP hSW38 ?_
  refine pr_lenr (e := ty_3) (l := u29) Try.underlying24 rfl rfl (hS35.own_ro (i := 0) rfl) ?_
  refine WH.takex (i := 6) rfl (by kernel_rfl) (by kernel_rfl) (by kernel_rfl) hP hSW38 ?_
  refine pr_assign rfl rfl ?_
  refine WH.takex (i := 7) rfl (by kernel_rfl) (by kernel_rfl) (by kernel_rfl) hP hSW38 ?_
  refine pr_assign rfl rfl ?_
  refine WH.done (by kernel_rfl) ?_
  refine fun a ha => hK13 _ _ ?_ a ha
  refine W.seq fun K39 hK39 => ?_
  refine W.region ?_
  refine wl_move rfl rfl ?_
  refine wl_move rfl rfl ?_
  refine wl_neq rfl rfl rfl ?_
  refine WL.nil ?_
  refine fun a ha => hK39 _ _ ?_ a ha
  refine W.cond rfl (fun h40 => ?_) (fun h40 => ?_)
  · replace hF := ifP h40 hF
    refine W.seq fun K41 hK41 => ?_
    refine W.region ?_
    refine wl_move rfl rfl ?_
    refine wl_move rfl rfl ?_
    refine wl_sub rfl rfl rfl ?_
    obtain ⟨u42, hu42, hF⟩ := bindE hF
    refine wl_call rfl Try.call72 (C_impl_sideOf w32 (w64 ((List.length u19 : Int) - (List.length u29 : Int))) _ hu42) rfl ?_
    rintro _ w43 ⟨rfl, hb44⟩
    refine ⟨_, rfl, ?_⟩
    have hB45 := hB34.trans (hb44.mono hB34.size)
    have hS46 := hS35.below hb44
    refine wl_assign rfl rfl ?_
    refine WL.nil ?_
    refine fun a ha => hK41 _ _ ?_ a ha
    refine W.ret ?_
    have hr := Option.some.inj hF
    subst hr
    exact rets (vs := [(.int .i64 u42)]) hQ rfl ⟨rv_tmp rfl, trivial⟩ ⟨rfl, hB45⟩
  · replace hF := ifN h40 hF
    refine W.skip ?_
    refine fun a ha => hK12 _ _ ?_ a ha
    refine W.seq fun K48 hK48 => ?_
    refine W.seq fun K49 hK49 => ?_
    refine W.regionH mixed_ [] hB34 hS35 ?_
    intro w50 hb51 hB52 hS53
    have hSW54 := KeepX.refl w50 []
    refine WH.takex (i := 0) rfl (by kernel_rfl) (by kernel_rfl) (by kernel_rfl) hP hSW54 ?_
    refine pr_load_blk (i := 3) (vs := [v0_0, v0_1, (.int .i64 x0.2.2.1), (.int .i64 x0.2.2.2)]) (v := (.agg #[v0_0, v0_1, (.int .i64 x0.2.2.1), (.int .i64 x0.2.2.2)])) tf_42 rfl rfl hS53 rfl rfl rfl (by simp) ?_
    refine WH.takex (i := 2) rfl (by kernel_rfl) (by kernel_rfl) (by kernel_rfl) hP hSW54 ?_
    refine pr_load_blk (i := 2) (vs := [v1_0, v1_1, (.int .i64 x1.2.2.1), (.int .i64 x1.2.2.2)]) (v := (.agg #[v1_0, v1_1, (.int .i64 x1.2.2.1), (.int .i64 x1.2.2.2)])) tf_42 rfl rfl hS53 rfl rfl rfl (by simp) ?_
    refine WH.one (i := 1) (by kernel_rfl) rfl ?_
    obtain ⟨u55, hu55, hF⟩ := bindE hF
    refine wl_call rfl Try.call73 (C_impl_totalCounts w50 x0 v0_0 (h0_0.ro hB52) v0_1 (h0_1.ro hB52) _ hu55) rfl ?_
    rintro _ w56 ⟨rfl, hb57⟩
    refine ⟨_, rfl, ?_⟩
    have hB58 := hB52.trans (hb57.mono hB52.size)
    have hS59 := hS53.below hb57
    have hSW61 := hSW54.ext hb57
    refine WL.nil (WH.ret hSW61 ?_)
    refine WH.one (i := 3) (by kernel_rfl) rfl ?_
    obtain ⟨u62, hu62, hF⟩ := bindE hF
    refine wl_call rfl Try.call73 (C_impl_totalCounts w56 x1 v1_0 (h1_0.ro hB58) v1_1 (h1_1.ro hB58) _ hu62) rfl ?_
    rintro _ w63 ⟨rfl, hb64⟩
    refine ⟨_, rfl, ?_⟩
    have hB65 := hB58.trans (hb64.mono hB58.size)
    have hS66 := hS59.below hb64
    have hSW68 := hSW61.ext hb64
    refine WL.nil (WH.ret hSW68 ?_)
    refine WH.takex (i := 4) rfl (by kernel_rfl) (by kernel_rfl) (by kernel_rfl) hP hSW68 ?_
    refine pr_assign rfl rfl ?_
    refine WH.takex (i := 5) rfl (by kernel_rfl) (by kernel_rfl) (by kernel_rfl) hP hSW68 ?_
    refine pr_assign rfl rfl ?_
    refine WH.done (by kernel_rfl) ?_
    refine fun a ha => hK49 _ _ ?_ a ha
    refine W.seq fun K69 hK69 => ?_
    refine W.region ?_
    refine wl_move rfl rfl ?_
    refine wl_move rfl rfl ?_
    refine wl_neq rfl rfl rfl ?_
    refine WL.nil ?_
    refine fun a ha => hK69 _ _ ?_ a ha
    refine W.cond rfl (fun h70 => ?_) (fun h70 => ?_)
    · replace hF := ifP h70 hF
      refine W.seq fun K71 hK71 => ?_
      refine W.region ?_
      refine wl_move rfl rfl ?_
      refine wl_move rfl rfl ?_
      refine wl_sub rfl rfl rfl ?_
      obtain ⟨u72, hu72, hF⟩ := bindE hF
      refine wl_call rfl Try.call72 (C_impl_sideOf w63 (w64 (u62 - u55)) _ hu72) rfl ?_
      rintro _ w73 ⟨rfl, hb74⟩
      refine ⟨_, rfl, ?_⟩
      have hB75 := hB65.trans (hb74.mono hB65.size)
      have hS76 := hS66.below hb74
      refine wl_assign rfl rfl ?_
      refine WL.nil ?_
      refine fun a ha => hK71 _ _ ?_ a ha
      refine W.ret ?_
      have hr := Option.some.inj hF
      subst hr
      exact rets (vs := [(.int .i64 u72)]) hQ rfl ⟨rv_tmp rfl, trivial⟩ ⟨rfl, hB75⟩
    · replace hF := ifN h70 hF
      refine W.skip ?_
      refine fun a ha => hK48 _ _ ?_ a ha
      refine W.seq fun K78 hK78 => ?_
      refine W.region ?_
      refine wl_assign rfl rfl ?_
      refine WL.nil ?_
      refine fun a ha => hK78 _ _ ?_ a ha
      refine W.seq fun K79 hK79 => ?_
      refine W.seq fun K80 hK80 => ?_
      refine W.region ?_
      refine wl_load_blk (i := 3) (vs := [v0_0, v0_1, (.int .i64 x0.2.2.1), (.int .i64 x0.2.2.2)]) (v := (.agg #[v0_0, v0_1, (.int .i64 x0.2.2.1), (.int .i64 x0.2.2.2)])) tf_42 rfl rfl hS66 rfl rfl rfl ?_
      obtain ⟨u81, hu81, hF⟩ := bindE hF
      refine wl_call rfl Try.call74 (C_impl_waySums w63 x0 v0_0 (h0_0.ro hB65) v0_1 (h0_1.ro hB65) _ hu81) rfl ?_
      rintro _ w84 ⟨v82, F83, rfl, hb85, hM88⟩
      refine ⟨_, rfl, ?_⟩
      have hB86 := hB65.trans (hb85.mono hB65.size)
      have hS87 := hS66.join hb85 hM88 hB65.size
      refine wl_lenr (e := ty_3) (l := u81) Try.underlying24 rfl rfl (hS87.own_ro (i := 0) rfl) ?_
      refine wl_move rfl rfl ?_
      refine WL.nil ?_
      refine fun a ha => hK80 _ _ ?_ a ha
      refine W.block ?_
      refine W.loopk (fun m a w89 => ∃ (y92 : Int) (y93 : Int), St 62 [(3, (.pointer (some ⟨b7, 0, none⟩))), (9, (.int .i64 y92)), (39, v82), (40, (.int .i64 (List.length u81 : Int))), (41, (.int .i64 y93))] a ∧ Below w0.heap.size w0 w89 ∧ Sep w0.heap.size w89 [R.blk b7 42 [v1_0, v1_1, (.int .i64 x1.2.2.1), (.int .i64 x1.2.2.2)], R.own ty_3 F83 v82 u81] ∧ F_impl_compareDemand_L1 u81 x1 m y92 y93 = some r) FU ?_ ?_
      ·
        exact fun a ha => ⟨0, 0, ha.sub ⟨rfl, rfl, rfl, rfl, rfl, trivial⟩, hB86, (hS87.sel [3, 0] rfl), hF⟩
      ·
        rintro m96 a w89 ⟨y92, y93, ha, hB90, hS91, hF⟩ KL95 hKL95
        refine W.at ?_ ha
        cases m96 with
        | zero => exact noneE hF
        | succ m96 =>
          obtain ⟨nx94, hnx94⟩ : ∃ k, k = F_impl_compareDemand_L1 u81 x1 m96 := ⟨_, rfl⟩
          rw [F_impl_compareDemand_L1, ← hnx94] at hF
          refine W.seq fun K97 hK97 => ?_
          refine W.region ?_
          refine wl_lss rfl rfl rfl ?_
          refine WL.nil ?_
          refine fun a ha => hK97 _ _ ?_ a ha
          refine W.seq fun K98 hK98 => ?_
          refine W.cond rfl (fun h99 => ?_) (fun h99 => ?_)
          · replace hF := ifP h99 hF
            refine W.skip ?_
            refine fun a ha => hK98 _ _ ?_ a ha
            refine W.seq fun K100 hK100 => ?_
            refine W.block ?_
            refine W.seq fun K101 hK101 => ?_
            refine W.region ?_
            obtain ⟨u102, hu102, hF⟩ := bindE hF
            refine wl_indexo (e := ty_3) (i := 1) Try.underlying24 rfl rfl rfl hS91 rfl hu102 ?_
            rintro p103 _ rfl hp104 ho105
            refine wl_load_p (vs := [(.int .i64 u102)]) (v := (.int .i64 u102)) tf_3 rfl rfl hp104 rfl rfl ?_
            refine wl_assign rfl rfl ?_
            refine WL.nil ?_
            refine fun a ha => hK101 _ _ ?_ a ha
            refine W.region ?_
            refine wl_move rfl rfl ?_
            refine wl_move rfl rfl ?_
            refine wl_add rfl rfl rfl ?_
            refine wl_assign rfl rfl ?_
            refine WL.nil ?_
            refine fun a ha => hK100 _ _ ?_ a ha
            refine W.region ?_
            refine wl_add rfl rfl rfl ?_
            refine wl_move rfl rfl ?_
            refine WL.nil ?_
            rw [hnx94] at hF
            exact fun a ha => hKL95 a _ m96 (Nat.lt_succ_self m96) ⟨(w64 (y92 + u102)), (w64 (y93 + 1)), ha.sub ⟨rfl, rfl, rfl, rfl, rfl, trivial⟩, hB90, (hS91.sel [0, 1] rfl), hF⟩
          · replace hF := ifN h99 hF
            refine W.exit ?_
            refine fun a ha => hK79 _ _ ?_ a ha
            refine W.seq fun K106 hK106 => ?_
            refine W.seq fun K107 hK107 => ?_
            refine W.region ?_
            refine wl_load_blk (i := 0) (vs := [v1_0, v1_1, (.int .i64 x1.2.2.1), (.int .i64 x1.2.2.2)]) (v := (.agg #[v1_0, v1_1, (.int .i64 x1.2.2.1), (.int .i64 x1.2.2.2)])) tf_42 rfl rfl hS91 rfl rfl rfl ?_
            obtain ⟨u108, hu108, hF⟩ := bindE hF
            refine wl_call rfl Try.call74 (C_impl_waySums w89 x1 v1_0 (h1_0.ro hB90) v1_1 (h1_1.ro hB90) _ hu108) rfl ?_
            rintro _ w111 ⟨v109, F110, rfl, hb112, hM115⟩
            refine ⟨_, rfl, ?_⟩
            have hB113 := hB90.trans (hb112.mono hB90.size)
            have hS114 := hS91.join hb112 hM115 hB90.size
            refine wl_lenr (e := ty_3) (l := u108) Try.underlying24 rfl rfl (hS114.own_ro (i := 0) rfl) ?_
            refine wl_move rfl rfl ?_
            refine WL.nil ?_
            refine fun a ha => hK107 _ _ ?_ a ha
            refine W.block ?_
            refine W.loopk (fun m a w116 => ∃ (y119 : Int) (y120 : Int), St 62 [(9, (.int .i64 y119)), (50, v109), (51, (.int .i64 (List.length u108 : Int))), (52, (.int .i64 y120))] a ∧ Below w0.heap.size w0 w116 ∧ Sep w0.heap.size w116 [R.own ty_3 F110 v109 u108] ∧ F_impl_compareDemand_L2 u108 m y119 y120 = some r) FU ?_ ?_
            ·
              exact fun a ha => ⟨y92, 0, ha.sub ⟨rfl, rfl, rfl, rfl, trivial⟩, hB113, (hS114.sel [0] rfl), hF⟩
            ·
              rintro m123 a w116 ⟨y119, y120, ha, hB117, hS118, hF⟩ KL122 hKL122
              refine W.at ?_ ha
              cases m123 with
              | zero => exact noneE hF
              | succ m123 =>
                obtain ⟨nx121, hnx121⟩ : ∃ k, k = F_impl_compareDemand_L2 u108 m123 := ⟨_, rfl⟩
                rw [F_impl_compareDemand_L2, ← hnx121] at hF
                refine W.seq fun K124 hK124 => ?_
                refine W.region ?_
                refine wl_lss rfl rfl rfl ?_
                refine WL.nil ?_
                refine fun a ha => hK124 _ _ ?_ a ha
                refine W.seq fun K125 hK125 => ?_
                refine W.cond rfl (fun h126 => ?_) (fun h126 => ?_)
                · replace hF := ifP h126 hF
                  refine W.skip ?_
                  refine fun a ha => hK125 _ _ ?_ a ha
                  refine W.seq fun K127 hK127 => ?_
                  refine W.block ?_
                  refine W.seq fun K128 hK128 => ?_
                  refine W.region ?_
                  obtain ⟨u129, hu129, hF⟩ := bindE hF
                  refine wl_indexo (e := ty_3) (i := 0) Try.underlying24 rfl rfl rfl hS118 rfl hu129 ?_
                  rintro p130 _ rfl hp131 ho132
                  refine wl_load_p (vs := [(.int .i64 u129)]) (v := (.int .i64 u129)) tf_3 rfl rfl hp131 rfl rfl ?_
                  refine wl_assign rfl rfl ?_
                  refine WL.nil ?_
                  refine fun a ha => hK128 _ _ ?_ a ha
                  refine W.region ?_
                  refine wl_move rfl rfl ?_
                  refine wl_move rfl rfl ?_
                  refine wl_sub rfl rfl rfl ?_
                  refine wl_assign rfl rfl ?_
                  refine WL.nil ?_
                  refine fun a ha => hK127 _ _ ?_ a ha
                  refine W.region ?_
                  refine wl_add rfl rfl rfl ?_
                  refine wl_move rfl rfl ?_
                  refine WL.nil ?_
                  rw [hnx121] at hF
                  exact fun a ha => hKL122 a _ m123 (Nat.lt_succ_self m123) ⟨(w64 (y119 - u129)), (w64 (y120 + 1)), ha.sub ⟨rfl, rfl, rfl, rfl, trivial⟩, hB117, (hS118.sel [0] rfl), hF⟩
                · replace hF := ifN h126 hF
                  refine W.exit ?_
                  refine fun a ha => hK106 _ _ ?_ a ha
                  refine W.seq fun K133 hK133 => ?_
                  refine W.region ?_
                  refine wl_move rfl rfl ?_
                  obtain ⟨u134, hu134, hF⟩ := bindE hF
                  refine wl_call rfl Try.call72 (C_impl_sideOf w116 y119 _ hu134) rfl ?_
                  rintro _ w135 ⟨rfl, hb136⟩
                  refine ⟨_, rfl, ?_⟩
                  have hB137 := hB117.trans (hb136.mono hB117.size)
                  have hS138 := hS118.below hb136
                  refine wl_assign rfl rfl ?_
                  refine WL.nil ?_
                  refine fun a ha => hK133 _ _ ?_ a ha
                  refine W.ret ?_
                  have hr := Option.some.inj hF
                  subst hr
                  exact rets (vs := [(.int .i64 u134)]) hQ rfl ⟨rv_tmp rfl, trivial⟩ ⟨rfl, hB137⟩
theorem C_impl_RankShows_1 (w0 : World) (x0 : Int) (x1 : Int) (y2 : (List ((List (List (Int × Int))) × (List Int) × Int × Int))) (p2 : Addr) (v2_0 : Value) (h2_0 : rdS ty_42 (· < w0.heap.size) w0 v2_0 y2) (hp2 : EAt (· < w0.heap.size) w0 p2 [v2_0]) (r : Int) (hF : F_impl_RankShows_1 x0 x1 y2 = some r) :
    Calls Try.prog 35 [(.int .i64 x0), (.int .i64 x1), (.pointer (some p2))].toArray w0 fun e w' => e = .returned (.int .i64 r) ∧ Below w0.heap.size w0 w' := by
  refine calls_mk' Try.func35 rfl Try.ntmps35 rfl rfl fun Q hQ hP => ?_
  have hB : Below w0.heap.size w0 w0 := Below.refl _ _
  have hS : Sep w0.heap.size w0 [] := Sep.nil _ _
  unfold F_impl_RankShows_1 at hF
  refine W.seq fun K1 hK1 => ?_
  refine W.region ?_
  refine wl_assign rfl rfl ?_
  refine WL.nil ?_
  refine fun a ha => hK1 _ _ ?_ a ha
  refine W.seq fun K2 hK2 => ?_
  refine W.regionH mixed_ [] hB hS ?_
  intro w3 hb4 hB5 hS6
  have hSW7 := KeepX.refl w3 []
  refine WH.takex (i := 0) rfl (by kernel_rfl) (by kernel_rfl) (by kernel_rfl) hP hSW7 ?_
  refine pr_load_p (vs := [v2_0]) (v := v2_0) tf_27 rfl rfl (hp2.kx hB5 (by simp)) rfl rfl ?_
  refine WH.takex (i := 1) rfl (by kernel_rfl) (by kernel_rfl) (by kernel_rfl) hP hSW7 ?_
  refine pr_move rfl rfl ?_
  obtain ⟨u8, hu8, hF⟩ := bindE hF
  refine WH.takex (i := 2) rfl (by kernel_rfl) (by kernel_rfl) (by kernel_rfl) hP hSW7 ?_
  refine pr_index (e := ty_42) Try.underlying27 rfl rfl rfl h2_0 hu8 ?_
  rintro p9 _ ⟨_, _, rfl, ⟨v11, rfl, hv12⟩, ⟨_, _, rfl, ⟨v13, rfl, hv14⟩, ⟨_, _, rfl, rfl, rfl⟩⟩⟩ hp10
  refine WH.takex (i := 3) rfl (by kernel_rfl) (by kernel_rfl) (by kernel_rfl) hP hSW7 ?_
  refine pr_load_p (vs := [v11, v13, (.int .i64 u8.2.2.1), (.int .i64 u8.2.2.2)]) (v := (.agg #[v11, v13, (.int .i64 u8.2.2.1), (.int .i64 u8.2.2.2)])) tf_42 rfl rfl (hp10.kx hB5 (by simp)) rfl rfl ?_
  refine WH.takex (i := 4) rfl (by kernel_rfl) (by kernel_rfl) (by kernel_rfl) hP hSW7 ?_
  refine pr_load_p (vs := [v2_0]) (v := v2_0) tf_27 rfl rfl (hp2.kx hB5 (by simp)) rfl rfl ?_
  refine WH.takex (i := 5) rfl (by kernel_rfl) (by kernel_rfl) (by kernel_rfl) hP hSW7 ?_
  refine pr_move rfl rfl ?_
  obtain ⟨u15, hu15, hF⟩ := bindE hF
  refine WH.takex (i := 6) rfl (by kernel_rfl) (by kernel_rfl) (by kernel_rfl) hP hSW7 ?_
  refine pr_index (e := ty_42) Try.underlying27 rfl rfl rfl h2_0 hu15 ?_
  rintro p16 _ ⟨_, _, rfl, ⟨v18, rfl, hv19⟩, ⟨_, _, rfl, ⟨v20, rfl, hv21⟩, ⟨_, _, rfl, rfl, rfl⟩⟩⟩ hp17
  refine WH.takex (i := 7) rfl (by kernel_rfl) (by kernel_rfl) (by kernel_rfl) hP hSW7 ?_
  refine pr_load_p (vs := [v18, v20, (.int .i64 u15.2.2.1), (.int .i64 u15.2.2.2)]) (v := (.agg #[v18, v20, (.int .i64 u15.2.2.1), (.int .i64 u15.2.2.2)])) tf_42 rfl rfl (hp17.kx hB5 (by simp)) rfl rfl ?_
  refine WH.one (i := 8) (by kernel_rfl) rfl ?_
  obtain ⟨u22, hu22, hF⟩ := bindE hF
  refine wl_call rfl Try.call36 (C_impl_compareDemand w3 u8 v11 (hv12.ro hB5) v13 (hv14.ro hB5) u15 v18 (hv19.ro hB5) v20 (hv21.ro hB5) _ hu22) rfl ?_
  rintro _ w23 ⟨rfl, hb24⟩
  refine ⟨_, rfl, ?_⟩
  have hB25 := hB5.trans (hb24.mono hB5.size)
  have hS26 := hS6.below hb24
  have hSW28 := hSW7.ext hb24
  refine WL.nil (WH.ret hSW28 ?_)
  refine WH.takex (i := 9) rfl (by kernel_rfl) (by kernel_rfl) (by kernel_rfl) hP hSW28 ?_
  refine pr_assign rfl rfl ?_
  refine WH.done (by kernel_rfl) ?_
  refine fun a ha => hK2 _ _ ?_ a ha
  refine W.ret ?_
  have hr := Option.some.inj hF
  subst hr
  exact rets (vs := [(.int .i64 u22)]) hQ rfl ⟨rv_tmp rfl, trivial⟩ ⟨rfl, hB25⟩
theorem C_slices_insertionSortCmpFunc_int__impl_RankShows_1__mut (w0 : World) (x0 : (List Int)) (v0_0 : Value) (B0_0 : List Nat) (x1 : Int) (x2 : Int) (y3_0 : (List ((List (List (Int × Int))) × (List Int) × Int × Int))) (p3_0 : Addr) (v3_0_0 : Value) (h3_0_0 : rdS ty_42 (Out (fps [R.own ty_3 B0_0 v0_0 x0]) w0) w0 v3_0_0 y3_0) (hp3_0 : EAt (Out (fps [R.own ty_3 B0_0 v0_0 x0]) w0) w0 p3_0 [v3_0_0]) (hS0 : Sep 0 w0 [R.own ty_3 B0_0 v0_0 x0]) (r : (List Int)) (hF : F_slices_insertionSortCmpFunc_int__impl_RankShows_1__mut x0 x1 x2 y3_0 = some r) :
    Calls Try.prog 96 [v0_0, (.int .i64 x1), (.int .i64 x2), (.func (.func 35) #[] #[(.pointer (some p3_0))])].toArray w0 fun e w' => e = .returned (.tuple #[]) ∧ Below 0 (wE w0) w' ∧ Sep 0 w' [R.rest w0 (fps [R.own ty_3 B0_0 v0_0 x0]), R.own ty_3 B0_0 v0_0 r] := by
  refine calls_mkn' Try.func96 rfl Try.ntmps96 rfl rfl fun Q hQn hQ hP => ?_
  have hB : Below (wE w0).heap.size (wE w0) w0 := wE_below w0
  have hS : Sep (wE w0).heap.size w0 [R.rest w0 (fps [R.own ty_3 B0_0 v0_0 x0]), R.own ty_3 B0_0 v0_0 x0] := hS0.rest
  unfold F_slices_insertionSortCmpFunc_int__impl_RankShows_1__mut at hF
  refine W.seq fun K1 hK1 => ?_
  refine W.region ?_
  refine wl_move rfl rfl ?_
  refine wl_add rfl rfl rfl ?_
  refine wl_assign rfl rfl ?_
  refine WL.nil ?_
  refine fun a ha => hK1 _ _ ?_ a ha
  refine W.block ?_
  refine W.loopk (fun m a w2 => ∃ (l5 : (List Int)) (y6 : Int), St 53 [(0, v0_0), (1, (.int .i64 x1)), (2, (.int .i64 x2)), (3, (.func (.func 35) #[] #[(.pointer (some p3_0))])), (8, (.int .i64 y6))] a ∧ Below (wE w0).heap.size (wE w0) w2 ∧ Sep (wE w0).heap.size w2 [R.rest w0 (fps [R.own ty_3 B0_0 v0_0 x0]), R.own ty_3 B0_0 v0_0 l5] ∧ F_slices_insertionSortCmpFunc_int__impl_RankShows_1__mut_L1 x2 x1 y3_0 m l5 y6 = some r) FU ?_ ?_
  ·
    exact fun a ha => ⟨x0, (w64 (x1 + 1)), ha.sub ⟨rfl, rfl, rfl, rfl, rfl, trivial⟩, hB, (hS.sel [0, 1] rfl), hF⟩
  ·
    rintro m9 a w2 ⟨l5, y6, ha, hB3, hS4, hF⟩ KL8 hKL8
    refine W.at ?_ ha
    cases m9 with
    | zero => exact noneE hF
    | succ m9 =>
      obtain ⟨nx7, hnx7⟩ : ∃ k, k = F_slices_insertionSortCmpFunc_int__impl_RankShows_1__mut_L1 x2 x1 y3_0 m9 := ⟨_, rfl⟩
      rw [F_slices_insertionSortCmpFunc_int__impl_RankShows_1__mut_L1, ← hnx7] at hF
      refine W.seq fun K10 hK10 => ?_
      refine W.seq fun K11 hK11 => ?_
      refine W.region ?_
      refine wl_move rfl rfl ?_
      refine wl_move rfl rfl ?_
      refine wl_lss rfl rfl rfl ?_
      refine WL.nil ?_
      refine fun a ha => hK11 _ _ ?_ a ha
      refine W.cond rfl (fun h12 => ?_) (fun h12 => ?_)
      · replace hF := ifP h12 hF
        refine W.skip ?_
        refine fun a ha => hK10 _ _ ?_ a ha
        refine W.seq fun K13 hK13 => ?_
        refine W.block ?_
        refine W.seq fun K14 hK14 => ?_
        refine W.region ?_
        refine wl_move rfl rfl ?_
        refine wl_assign rfl rfl ?_
        refine WL.nil ?_
        refine fun a ha => hK14 _ _ ?_ a ha
        refine W.block ?_
        refine W.loopk (fun m a w15 => ∃ (l18 : (List Int)) (y19 : Int), St 53 [(0, v0_0), (1, (.int .i64 x1)), (2, (.int .i64 x2)), (3, (.func (.func 35) #[] #[(.pointer (some p3_0))])), (8, (.int .i64 y6)), (9, (.int .i64 y19))] a ∧ Below (wE w0).heap.size (wE w0) w15 ∧ Sep (wE w0).heap.size w15 [R.rest w0 (fps [R.own ty_3 B0_0 v0_0 x0]), R.own ty_3 B0_0 v0_0 l18] ∧ F_slices_insertionSortCmpFunc_int__impl_RankShows_1__mut_L2 nx7 y6 x1 y3_0 m l18 y19 = some r) FU ?_ ?_
        ·
          exact fun a ha => ⟨l5, y6, ha.sub ⟨rfl, rfl, rfl, rfl, rfl, rfl, trivial⟩, hB3, (hS4.sel [0, 1] rfl), hF⟩
        ·
          rintro m22 a w15 ⟨l18, y19, ha, hB16, hS17, hF⟩ KL21 hKL21
          refine W.at ?_ ha
          cases m22 with
          | zero => exact noneE hF
          | succ m22 =>
            obtain ⟨nx20, hnx20⟩ : ∃ k, k = F_slices_insertionSortCmpFunc_int__impl_RankShows_1__mut_L2 nx7 y6 x1 y3_0 m22 := ⟨_, rfl⟩
            rw [F_slices_insertionSortCmpFunc_int__impl_RankShows_1__mut_L2, ← hnx20] at hF
            refine W.seq fun K23 hK23 => ?_
            refine W.seq fun K24 hK24 => ?_
            obtain ⟨k29, hk29, hF⟩ := jE1 hF
            have hJ30 : ∀ (y28 : Bool) (w25 : World) (_ : k29 y28 = some r) (_ : Below (wE w0).heap.size (wE w0) w25) (_ : Sep (wE w0).heap.size w25 [R.rest w0 (fps [R.own ty_3 B0_0 v0_0 x0]), R.own ty_3 B0_0 v0_0 l18]), ∀ a, St 53 [(0, v0_0), (1, (.int .i64 x1)), (2, (.int .i64 x2)), (3, (.func (.func 35) #[] #[(.pointer (some p3_0))])), (8, (.int .i64 y6)), (9, (.int .i64 y19)), (34, (.bool y28))] a → K24 a w25 := by
              intro y28 w25 hF hB26 hS27
              subst hk29
              refine fun a ha => hK24 _ _ ?_ a ha
              refine W.cond rfl (fun h31 => ?_) (fun h31 => ?_)
              · replace hF := ifP h31 hF
                refine W.skip ?_
                refine fun a ha => hK23 _ _ ?_ a ha
                refine W.seq fun K32 hK32 => ?_
                obtain ⟨k37, hk37, hF⟩ := jE1 hF
                have hJ38 : ∀ (l36 : (List Int)) (w33 : World) (_ : k37 l36 = some r) (_ : Below (wE w0).heap.size (wE w0) w33) (_ : Sep (wE w0).heap.size w33 [R.rest w0 (fps [R.own ty_3 B0_0 v0_0 x0]), R.own ty_3 B0_0 v0_0 l36]), ∀ a, St 53 [(0, v0_0), (1, (.int .i64 x1)), (2, (.int .i64 x2)), (3, (.func (.func 35) #[] #[(.pointer (some p3_0))])), (8, (.int .i64 y6)), (9, (.int .i64 y19))] a → K32 a w33 := by
                  intro l36 w33 hF hB34 hS35
                  subst hk37
                  refine fun a ha => hK32 _ _ ?_ a ha
                  refine W.region ?_
                  refine wl_move rfl rfl ?_
                  refine wl_sub rfl rfl rfl ?_
                  refine wl_assign rfl rfl ?_
                  refine WL.nil ?_
                  rw [hnx20] at hF
                  exact fun a ha => hKL21 a _ m22 (Nat.lt_succ_self m22) ⟨l36, (w64 (y19 - 1)), ha.sub ⟨rfl, rfl, rfl, rfl, rfl, rfl, trivial⟩, hB34, (hS35.sel [0, 1] rfl), hF⟩
                refine W.block ?_
                refine W.regionH mixed_ B0_0 hB26 hS27 ?_
                intro w39 hb40 hB41 hS42
                have hSW43 := KeepX.refl w39 B0_0
                refine WH.takex (i := 0) rfl (by kernel_rfl) (by kernel_rfl) (by kernel_rfl) hP hSW43 ?_
                refine pr_move rfl rfl ?_
                refine WH.takex (i := 1) rfl (by kernel_rfl) (by kernel_rfl) (by kernel_rfl) hP hSW43 ?_
                refine pr_move rfl rfl ?_
                refine WH.takex (i := 2) rfl (by kernel_rfl) (by kernel_rfl) (by kernel_rfl) hP hSW43 ?_
                refine pr_move rfl rfl ?_
                refine WH.takex (i := 3) rfl (by kernel_rfl) (by kernel_rfl) (by kernel_rfl) hP hSW43 ?_
                refine pr_move rfl rfl ?_
                refine WH.takex (i := 4) rfl (by kernel_rfl) (by kernel_rfl) (by kernel_rfl) hP hSW43 ?_
                refine pr_sub rfl rfl rfl ?_
                refine WH.takex (i := 5) rfl (by kernel_rfl) (by kernel_rfl) (by kernel_rfl) hP hSW43 ?_
                refine pr_move rfl rfl ?_
                refine WH.takex (i := 6) rfl (by kernel_rfl) (by kernel_rfl) (by kernel_rfl) hP hSW43 ?_
                refine pr_move rfl rfl ?_
                refine WH.takex (i := 7) rfl (by kernel_rfl) (by kernel_rfl) (by kernel_rfl) hP hSW43 ?_
                refine pr_sub rfl rfl rfl ?_
                obtain ⟨u44, hu44, hF⟩ := bindE hF
                refine WH.takex (i := 8) rfl (by kernel_rfl) (by kernel_rfl) (by kernel_rfl) hP hSW43 ?_
                refine pr_indexo (e := ty_3) (i := 1) Try.underlying24 rfl rfl rfl hS42 rfl hu44 ?_
                rintro p45 _ rfl hp46 ho47
                refine WH.takex (i := 10) rfl (by kernel_rfl) (by kernel_rfl) (by kernel_rfl) hP hSW43 ?_
                refine pr_move rfl rfl ?_
                refine WH.takex (i := 11) rfl (by kernel_rfl) (by kernel_rfl) (by kernel_rfl) hP hSW43 ?_
                refine pr_move rfl rfl ?_
                obtain ⟨u48, hu48, hF⟩ := bindE hF
                refine WH.takex (i := 12) rfl (by kernel_rfl) (by kernel_rfl) (by kernel_rfl) hP hSW43 ?_
                refine pr_indexo (e := ty_3) (i := 1) Try.underlying24 rfl rfl rfl hS42 rfl hu48 ?_
                rintro p49 _ rfl hp50 ho51
                refine WH.many (is := [9, 13]) (by kernel_rfl) rfl ?_
                refine List.forall_mem_cons.2 ⟨⟨_, rfl, ?_⟩, List.forall_mem_cons.2 ⟨⟨_, rfl, ?_⟩, fun _ h => by cases h⟩⟩
                ·
                  refine wl_load_p (vs := [(.int .i64 u44)]) (v := (.int .i64 u44)) tf_3 rfl rfl hp46 rfl rfl ?_
                  refine WL.nil (WH.ret hSW43 ?_)
                  refine WH.one (i := 13) (by kernel_rfl) rfl ?_
                  refine wl_load_p (vs := [(.int .i64 u48)]) (v := (.int .i64 u48)) tf_3 rfl rfl hp50 rfl rfl ?_
                  refine WL.nil (WH.ret hSW43 ?_)
                  obtain ⟨u52, hu52, hF⟩ := bindE hF
                  refine WH.takex (i := 14) rfl (by kernel_rfl) (by kernel_rfl) (by kernel_rfl) hP hSW43 ?_
                  refine pr_indexo (e := ty_3) (i := 1) Try.underlying24 rfl rfl rfl hS42 rfl hu52 ?_
                  rintro p53 _ rfl hp54 ho55
                  refine WH.one (i := 15) (by kernel_rfl) rfl ?_
                  refine wl_storeo (i := 1) (o := 0) (vs := [(.int .i64 u44)]) (u' := u44) fl_3 tf_3 rfl rfl rfl rfl ho55 hu52 hB41 hS42 rfl rfl ⟨rfl, trivial⟩ rfl ?_
                  intro w56 hk59 hB57 hS58
                  have hSW60 := hSW43.wr' hk59.1 hk59.2.1 (fun _ _ h => h)
                  refine WL.nil (WH.ret hSW60 ?_)
                  refine WH.one (i := 16) (by kernel_rfl) rfl ?_
                  obtain ⟨u61, hu61, hF⟩ := bindE hF
                  refine wl_indexo (e := ty_3) (i := 1) Try.underlying24 rfl rfl rfl hS58 rfl hu61 ?_
                  rintro p62 _ rfl hp63 ho64
                  refine WL.nil (WH.ret hSW60 ?_)
                  refine WH.one (i := 17) (by kernel_rfl) rfl ?_
                  refine wl_storeo (i := 1) (o := 0) (vs := [(.int .i64 u48)]) (u' := u48) fl_3 tf_3 rfl rfl rfl rfl ho64 hu61 hB57 hS58 rfl rfl ⟨rfl, trivial⟩ rfl ?_
                  intro w65 hk68 hB66 hS67
                  have hSW69 := hSW60.wr' hk68.1 hk68.2.1 (fun b hlt hb => (hk59.2.2 b hb).elim ((fun _ _ h => h) b hlt) (fun h => absurd hlt (Nat.not_lt.2 (Nat.le_trans hSW43.size h))))
                  refine WL.nil (WH.ret hSW69 ?_)
                  refine WH.done (by kernel_rfl) ?_
                  exact fun a ha => hJ38 ((seti (seti l18 y19 u44) (w64 (y19 - 1)) u48)) _ hF hB66 (hS67.sel [0, 1] rfl) a (ha.sub ⟨rfl, rfl, rfl, rfl, rfl, rfl, trivial⟩)
                ·
                  refine wl_load_p (vs := [(.int .i64 u48)]) (v := (.int .i64 u48)) tf_3 rfl rfl hp50 rfl rfl ?_
                  refine WL.nil (WH.ret hSW43 ?_)
                  refine WH.one (i := 9) (by kernel_rfl) rfl ?_
                  refine wl_load_p (vs := [(.int .i64 u44)]) (v := (.int .i64 u44)) tf_3 rfl rfl hp46 rfl rfl ?_
                  refine WL.nil (WH.ret hSW43 ?_)
                  obtain ⟨u70, hu70, hF⟩ := bindE hF
                  refine WH.takex (i := 14) rfl (by kernel_rfl) (by kernel_rfl) (by kernel_rfl) hP hSW43 ?_
                  refine pr_indexo (e := ty_3) (i := 1) Try.underlying24 rfl rfl rfl hS42 rfl hu70 ?_
                  rintro p71 _ rfl hp72 ho73
                  refine WH.one (i := 15) (by kernel_rfl) rfl ?_
                  refine wl_storeo (i := 1) (o := 0) (vs := [(.int .i64 u44)]) (u' := u44) fl_3 tf_3 rfl rfl rfl rfl ho73 hu70 hB41 hS42 rfl rfl ⟨rfl, trivial⟩ rfl ?_
                  intro w74 hk77 hB75 hS76
                  have hSW78 := hSW43.wr' hk77.1 hk77.2.1 (fun _ _ h => h)
                  refine WL.nil (WH.ret hSW78 ?_)
                  refine WH.one (i := 16) (by kernel_rfl) rfl ?_
                  obtain ⟨u79, hu79, hF⟩ := bindE hF
                  refine wl_indexo (e := ty_3) (i := 1) Try.underlying24 rfl rfl rfl hS76 rfl hu79 ?_
                  rintro p80 _ rfl hp81 ho82
                  refine WL.nil (WH.ret hSW78 ?_)
                  refine WH.one (i := 17) (by kernel_rfl) rfl ?_
                  refine wl_storeo (i := 1) (o := 0) (vs := [(.int .i64 u48)]) (u' := u48) fl_3 tf_3 rfl rfl rfl rfl ho82 hu79 hB75 hS76 rfl rfl ⟨rfl, trivial⟩ rfl ?_
                  intro w83 hk86 hB84 hS85
                  have hSW87 := hSW78.wr' hk86.1 hk86.2.1 (fun b hlt hb => (hk77.2.2 b hb).elim ((fun _ _ h => h) b hlt) (fun h => absurd hlt (Nat.not_lt.2 (Nat.le_trans hSW43.size h))))
                  refine WL.nil (WH.ret hSW87 ?_)
                  refine WH.done (by kernel_rfl) ?_
                  exact fun a ha => hJ38 ((seti (seti l18 y19 u44) (w64 (y19 - 1)) u48)) _ hF hB84 (hS85.sel [0, 1] rfl) a (ha.sub ⟨rfl, rfl, rfl, rfl, rfl, rfl, trivial⟩)
              · replace hF := ifN h31 hF
                refine W.exit ?_
                refine fun a ha => hK13 _ _ ?_ a ha
                refine W.region ?_
                refine wl_move rfl rfl ?_
                refine wl_add rfl rfl rfl ?_
                refine wl_assign rfl rfl ?_
                refine WL.nil ?_
                rw [hnx7] at hF
                exact fun a ha => hKL8 a _ m9 (Nat.lt_succ_self m9) ⟨l18, (w64 (y6 + 1)), ha.sub ⟨rfl, rfl, rfl, rfl, rfl, trivial⟩, hB26, (hS27.sel [0, 1] rfl), hF⟩
            refine W.regionH mixed_ [] hB16 hS17 ?_
            intro w88 hb89 hB90 hS91
            have hSW92 := KeepX.refl w88 []
            refine WH.takex (i := 0) rfl (by kernel_rfl) (by kernel_rfl) (by kernel_rfl) hP hSW92 ?_
            refine pr_move rfl rfl ?_
            refine WH.takex (i := 1) rfl (by kernel_rfl) (by kernel_rfl) (by kernel_rfl) hP hSW92 ?_
            refine pr_move rfl rfl ?_
            refine WH.takex (i := 2) rfl (by kernel_rfl) (by kernel_rfl) (by kernel_rfl) hP hSW92 ?_
            refine pr_gtr rfl rfl rfl ?_
            refine WH.takex (i := 3) rfl (by kernel_rfl) (by kernel_rfl) (by kernel_rfl) hP hSW92 ?_
            refine pr_move rfl rfl ?_
            rcases bE (decide (x1 < y19)) with h93 | h93
            · replace hF := ifP h93 hF
              refine WH.takexg (i := 4) rfl (by kernel_rfl) (by kernel_rfl) (by kernel_rfl) hP rfl rfl h93 hSW92 ?_
              refine pr_move rfl rfl ?_
              refine WH.takexg (i := 5) rfl (by kernel_rfl) (by kernel_rfl) (by kernel_rfl) hP rfl rfl h93 hSW92 ?_
              refine pr_move rfl rfl ?_
              refine WH.takexg (i := 6) rfl (by kernel_rfl) (by kernel_rfl) (by kernel_rfl) hP rfl rfl h93 hSW92 ?_
              refine pr_move rfl rfl ?_
              obtain ⟨u94, hu94, hF⟩ := bindE hF
              refine WH.takexg (i := 7) rfl (by kernel_rfl) (by kernel_rfl) (by kernel_rfl) hP rfl rfl h93 hSW92 ?_
              refine pr_indexo (e := ty_3) (i := 1) Try.underlying24 rfl rfl rfl hS91 rfl hu94 ?_
              rintro p95 _ rfl hp96 ho97
              refine WH.takexg (i := 8) rfl (by kernel_rfl) (by kernel_rfl) (by kernel_rfl) hP rfl rfl h93 hSW92 ?_
              refine pr_load_p (vs := [(.int .i64 u94)]) (v := (.int .i64 u94)) tf_3 rfl rfl (hp96.kx0) rfl rfl ?_
              refine WH.takexg (i := 9) rfl (by kernel_rfl) (by kernel_rfl) (by kernel_rfl) hP rfl rfl h93 hSW92 ?_
              refine pr_move rfl rfl ?_
              refine WH.takexg (i := 10) rfl (by kernel_rfl) (by kernel_rfl) (by kernel_rfl) hP rfl rfl h93 hSW92 ?_
              refine pr_move rfl rfl ?_
              refine WH.takexg (i := 11) rfl (by kernel_rfl) (by kernel_rfl) (by kernel_rfl) hP rfl rfl h93 hSW92 ?_
              refine pr_sub rfl rfl rfl ?_
              obtain ⟨u98, hu98, hF⟩ := bindE hF
              refine WH.takexg (i := 12) rfl (by kernel_rfl) (by kernel_rfl) (by kernel_rfl) hP rfl rfl h93 hSW92 ?_
              refine pr_indexo (e := ty_3) (i := 1) Try.underlying24 rfl rfl rfl hS91 rfl hu98 ?_
              rintro p99 _ rfl hp100 ho101
              refine WH.takexg (i := 13) rfl (by kernel_rfl) (by kernel_rfl) (by kernel_rfl) hP rfl rfl h93 hSW92 ?_
              refine pr_load_p (vs := [(.int .i64 u98)]) (v := (.int .i64 u98)) tf_3 rfl rfl (hp100.kx0) rfl rfl ?_
              refine WH.one (i := 14) (by kernel_rfl) rfl ?_
              refine wl_on rfl rfl h93 ?_
              obtain ⟨u102, hu102, hF⟩ := bindE hF
              refine wl_callv (caps := [(.pointer (some p3_0))]) (vs := [(.int .i64 u94), (.int .i64 u98)]) rfl rfl Try.call35 (C_impl_RankShows_1 w88 u94 u98 y3_0 p3_0 v3_0_0 (h3_0_0.rst (i := 0) hS91 rfl) (hp3_0.rst (i := 0) hS91 rfl) _ hu102) rfl ?_
              rintro _ w103 ⟨rfl, hb104⟩
              refine ⟨_, rfl, ?_⟩
              have hB105 := hB90.trans (hb104.mono hB90.size)
              have hS106 := hS91.below hb104
              have hSW108 := hSW92.ext hb104
              refine WL.nil (WH.ret hSW108 ?_)
              refine WH.takexg (i := 15) rfl (by kernel_rfl) (by kernel_rfl) (by kernel_rfl) hP rfl rfl h93 hSW108 ?_
              refine pr_lss rfl rfl rfl ?_
              refine WH.takex (i := 16) rfl (by kernel_rfl) (by kernel_rfl) (by kernel_rfl) hP hSW108 ?_
              refine pr_pick_t rfl rfl h93 rfl ?_
              refine WH.done (by kernel_rfl) ?_
              exact fun a ha => hJ30 ((decide (u102 < 0))) _ hF hB105 (hS106.sel [0, 1] rfl) a (ha.sub ⟨rfl, rfl, rfl, rfl, rfl, rfl, rfl, trivial⟩)
            · replace hF := ifN h93 hF
              refine WH.off (i := 4) rfl (by kernel_rfl) (by kernel_rfl) (by kernel_rfl) hP rfl rfl h93 rfl hSW92 ?_
              refine WH.off (i := 5) rfl (by kernel_rfl) (by kernel_rfl) (by kernel_rfl) hP rfl rfl h93 rfl hSW92 ?_
              refine WH.off (i := 6) rfl (by kernel_rfl) (by kernel_rfl) (by kernel_rfl) hP rfl rfl h93 rfl hSW92 ?_
              refine WH.off (i := 7) rfl (by kernel_rfl) (by kernel_rfl) (by kernel_rfl) hP rfl rfl h93 rfl hSW92 ?_
              refine WH.off (i := 8) rfl (by kernel_rfl) (by kernel_rfl) (by kernel_rfl) hP rfl rfl h93 rfl hSW92 ?_
              refine WH.off (i := 9) rfl (by kernel_rfl) (by kernel_rfl) (by kernel_rfl) hP rfl rfl h93 rfl hSW92 ?_
              refine WH.off (i := 10) rfl (by kernel_rfl) (by kernel_rfl) (by kernel_rfl) hP rfl rfl h93 rfl hSW92 ?_
              refine WH.off (i := 11) rfl (by kernel_rfl) (by kernel_rfl) (by kernel_rfl) hP rfl rfl h93 rfl hSW92 ?_
              refine WH.off (i := 12) rfl (by kernel_rfl) (by kernel_rfl) (by kernel_rfl) hP rfl rfl h93 rfl hSW92 ?_
              refine WH.off (i := 13) rfl (by kernel_rfl) (by kernel_rfl) (by kernel_rfl) hP rfl rfl h93 rfl hSW92 ?_
              refine WH.off (i := 14) rfl (by kernel_rfl) (by kernel_rfl) (by kernel_rfl) hP rfl rfl h93 rfl hSW92 ?_
              refine WH.off (i := 15) rfl (by kernel_rfl) (by kernel_rfl) (by kernel_rfl) hP rfl rfl h93 rfl hSW92 ?_
              refine WH.takex (i := 16) rfl (by kernel_rfl) (by kernel_rfl) (by kernel_rfl) hP hSW92 ?_
              refine pr_pick_f rfl rfl h93 rfl ?_
              refine WH.done (by kernel_rfl) ?_
              exact fun a ha => hJ30 (false) _ hF hB90 (hS91.sel [0, 1] rfl) a (ha.sub ⟨rfl, rfl, rfl, rfl, rfl, rfl, rfl, trivial⟩)
      · replace hF := ifN h12 hF
        refine W.exit ?_
        have hr := Option.some.inj hF
        subst hr
        exact retsn (vs := []) hQn rfl trivial ⟨rfl, hB3, hS4.sel [0, 1] rfl⟩
theorem C_slices_stableCmpFunc_int__impl_RankShows_1__mut (w0 : World) (x0 : (List Int)) (v0_0 : Value) (B0_0 : List Nat) (x1 : Int) (y2_0 : (List ((List (List (Int × Int))) × (List Int) × Int × Int))) (p2_0 : Addr) (v2_0_0 : Value) (h2_0_0 : rdS ty_42 (Out (fps [R.own ty_3 B0_0 v0_0 x0]) w0) w0 v2_0_0 y2_0) (hp2_0 : EAt (Out (fps [R.own ty_3 B0_0 v0_0 x0]) w0) w0 p2_0 [v2_0_0]) (hS0 : Sep 0 w0 [R.own ty_3 B0_0 v0_0 x0]) (r : (List Int)) (hF : F_slices_stableCmpFunc_int__impl_RankShows_1__mut x0 x1 y2_0 = some r) :
    Calls Try.prog 70 [v0_0, (.int .i64 x1), (.func (.func 35) #[] #[(.pointer (some p2_0))])].toArray w0 fun e w' => e = .returned (.tuple #[]) ∧ Below 0 (wE w0) w' ∧ Sep 0 w' [R.rest w0 (fps [R.own ty_3 B0_0 v0_0 x0]), R.own ty_3 B0_0 v0_0 r] := by
  refine calls_mkn' Try.func70 rfl Try.ntmps70 rfl rfl fun Q hQn hQ hP => ?_
  have hB : Below (wE w0).heap.size (wE w0) w0 := wE_below w0
  have hS : Sep (wE w0).heap.size w0 [R.rest w0 (fps [R.own ty_3 B0_0 v0_0 x0]), R.own ty_3 B0_0 v0_0 x0] := hS0.rest
  unfold F_slices_stableCmpFunc_int__impl_RankShows_1__mut at hF
  refine W.seq fun K1 hK1 => ?_
  refine W.region ?_
  refine wl_assign rfl rfl ?_
  refine WL.nil ?_
  refine fun a ha => hK1 _ _ ?_ a ha
  refine W.seq fun K2 hK2 => ?_
  refine W.region ?_
  refine wl_move rfl rfl ?_
  refine wl_assign rfl rfl ?_
  refine wl_assign rfl rfl ?_
  refine WL.nil ?_
  refine fun a ha => hK2 _ _ ?_ a ha
  refine W.seq fun K3 hK3 => ?_
  refine W.block ?_
  refine W.loopk (fun m a w4 => ∃ (l7 : (List Int)) (y8 : Int) (y9 : Int), St 63 [(0, v0_0), (1, (.int .i64 x1)), (2, (.func (.func 35) #[] #[(.pointer (some p2_0))])), (6, (.int .i64 20)), (7, (.int .i64 y8)), (8, (.int .i64 y9))] a ∧ Below (wE w0).heap.size (wE w0) w4 ∧ Sep (wE w0).heap.size w4 [R.rest w0 (fps [R.own ty_3 B0_0 v0_0 x0]), R.own ty_3 B0_0 v0_0 l7] ∧ F_slices_stableCmpFunc_int__impl_RankShows_1__mut_L1 x1 y2_0 m l7 y8 y9 = some r) FU ?_ ?_
  ·
    exact fun a ha => ⟨x0, 0, 20, ha.sub ⟨rfl, rfl, rfl, rfl, rfl, rfl, trivial⟩, hB, (hS.sel [0, 1] rfl), hF⟩
  ·
    rintro m12 a w4 ⟨l7, y8, y9, ha, hB5, hS6, hF⟩ KL11 hKL11
    refine W.at ?_ ha
    cases m12 with
    | zero => exact noneE hF
    | succ m12 =>
      obtain ⟨nx10, hnx10⟩ : ∃ k, k = F_slices_stableCmpFunc_int__impl_RankShows_1__mut_L1 x1 y2_0 m12 := ⟨_, rfl⟩
      rw [F_slices_stableCmpFunc_int__impl_RankShows_1__mut_L1] at hF; try rw [← hnx10] at hF
      refine W.seq fun K13 hK13 => ?_
      refine W.seq fun K14 hK14 => ?_
      refine W.region ?_
      refine wl_move rfl rfl ?_
      refine wl_move rfl rfl ?_
      refine wl_leq rfl rfl rfl ?_
      refine WL.nil ?_
      refine fun a ha => hK14 _ _ ?_ a ha
      refine W.cond rfl (fun h15 => ?_) (fun h15 => ?_)
      · replace hF := ifP h15 hF
        refine W.skip ?_
        refine fun a ha => hK13 _ _ ?_ a ha
        refine W.block ?_
        refine W.seq fun K16 hK16 => ?_
        refine W.region ?_
        refine wl_move rfl rfl ?_
        refine wl_move rfl rfl ?_
        refine wl_move rfl rfl ?_
        refine wl_move rfl rfl ?_
        obtain ⟨u17, hu17, hF⟩ := bindE hF
        refine wl_call rfl Try.call96 (C_slices_insertionSortCmpFunc_int__impl_RankShows_1__mut w4 l7 v0_0 B0_0 y8 y9 y2_0 p2_0 v2_0_0 (h2_0_0.rsto (hS6.sel [0, 1] rfl)) (hp2_0.rsto (hS6.sel [0, 1] rfl)) (hS6.sel [1] rfl).base0 _ hu17) rfl ?_
        rintro _ w18 ⟨rfl, hE19, hM20⟩
        refine ⟨_, rfl, ?_⟩
        have hB21 := hS6.mutB [1] rfl (M := [R.own ty_3 B0_0 v0_0 l7]) rfl (M' := [R.own ty_3 B0_0 v0_0 u17]) rfl hB5 hB5.size hE19 hM20
        have hS22 : Sep (wE w0).heap.size w18 [R.own ty_3 B0_0 v0_0 u17, R.rest w0 (fps [R.own ty_3 B0_0 v0_0 x0])] := hS6.mut [1] [0] rfl (M := [R.own ty_3 B0_0 v0_0 l7]) rfl (M' := [R.own ty_3 B0_0 v0_0 u17]) rfl hM20
        refine WL.nil ?_
        refine fun a ha => hK16 _ _ ?_ a ha
        refine W.seq fun K23 hK23 => ?_
        refine W.region ?_
        refine wl_move rfl rfl ?_
        refine wl_assign rfl rfl ?_
        refine WL.nil ?_
        refine fun a ha => hK23 _ _ ?_ a ha
        refine W.region ?_
        refine wl_move rfl rfl ?_
        refine wl_move rfl rfl ?_
        refine wl_add rfl rfl rfl ?_
        refine wl_assign rfl rfl ?_
        refine WL.nil ?_
        rw [hnx10] at hF
        exact fun a ha => hKL11 a _ m12 (Nat.lt_succ_self m12) ⟨u17, y9, (w64 (y9 + 20)), ha.sub ⟨rfl, rfl, rfl, rfl, rfl, rfl, trivial⟩, hB21, (hS22.sel [1, 0] rfl), hF⟩
      · replace hF := ifN h15 hF
        refine W.exit ?_
        refine fun a ha => hK3 _ _ ?_ a ha
        refine W.seq fun K24 hK24 => ?_
        refine W.region ?_
        refine wl_move rfl rfl ?_
        refine wl_move rfl rfl ?_
        refine wl_move rfl rfl ?_
        refine wl_move rfl rfl ?_
        obtain ⟨u25, hu25, hF⟩ := bindE hF
        refine wl_call rfl Try.call96 (C_slices_insertionSortCmpFunc_int__impl_RankShows_1__mut w4 l7 v0_0 B0_0 y8 x1 y2_0 p2_0 v2_0_0 (h2_0_0.rsto (hS6.sel [0, 1] rfl)) (hp2_0.rsto (hS6.sel [0, 1] rfl)) (hS6.sel [1] rfl).base0 _ hu25) rfl ?_
        rintro _ w26 ⟨rfl, hE27, hM28⟩
        refine ⟨_, rfl, ?_⟩
        have hB29 := hS6.mutB [1] rfl (M := [R.own ty_3 B0_0 v0_0 l7]) rfl (M' := [R.own ty_3 B0_0 v0_0 u25]) rfl hB5 hB5.size hE27 hM28
        have hS30 : Sep (wE w0).heap.size w26 [R.own ty_3 B0_0 v0_0 u25, R.rest w0 (fps [R.own ty_3 B0_0 v0_0 x0])] := hS6.mut [1] [0] rfl (M := [R.own ty_3 B0_0 v0_0 l7]) rfl (M' := [R.own ty_3 B0_0 v0_0 u25]) rfl hM28
        refine WL.nil ?_
        refine fun a ha => hK24 _ _ ?_ a ha
        refine W.block ?_
        refine W.loopk (fun m a w31 => ∃ (y34 : Int), St 63 [(0, v0_0), (1, (.int .i64 x1)), (2, (.func (.func 35) #[] #[(.pointer (some p2_0))])), (6, (.int .i64 y34))] a ∧ Below (wE w0).heap.size (wE w0) w31 ∧ Sep (wE w0).heap.size w31 [R.rest w0 (fps [R.own ty_3 B0_0 v0_0 x0]), R.own ty_3 B0_0 v0_0 u25] ∧ F_slices_stableCmpFunc_int__impl_RankShows_1__mut_L2 x1 u25 m y34 = some r) FU ?_ ?_
        ·
          exact fun a ha => ⟨20, ha.sub ⟨rfl, rfl, rfl, rfl, trivial⟩, hB29, (hS30.sel [1, 0] rfl), hF⟩
        ·
          rintro m37 a w31 ⟨y34, ha, hB32, hS33, hF⟩ KL36 hKL36
          refine W.at ?_ ha
          cases m37 with
          | zero => exact noneE hF
          | succ m37 =>
            obtain ⟨nx35, hnx35⟩ : ∃ k, k = F_slices_stableCmpFunc_int__impl_RankShows_1__mut_L2 x1 u25 m37 := ⟨_, rfl⟩
            rw [F_slices_stableCmpFunc_int__impl_RankShows_1__mut_L2] at hF; try rw [← hnx35] at hF
            refine W.seq fun K38 hK38 => ?_
            refine W.seq fun K39 hK39 => ?_
            refine W.region ?_
            refine wl_move rfl rfl ?_
            refine wl_move rfl rfl ?_
            refine wl_lss rfl rfl rfl ?_
            refine WL.nil ?_
            refine fun a ha => hK39 _ _ ?_ a ha
            refine W.cond rfl (fun h40 => ?_) (fun h40 => ?_)
            · replace hF := ifP h40 hF
              refine W.skip ?_
              refine fun a ha => hK38 _ _ ?_ a ha
              refine W.block ?_
              refine W.seq fun K41 hK41 => ?_
              refine W.region ?_
              refine wl_move rfl rfl ?_
              refine wl_mul rfl rfl rfl ?_
              refine wl_assign rfl rfl ?_
              refine wl_assign rfl rfl ?_
              refine WL.nil ?_
              refine fun a ha => hK41 _ _ ?_ a ha
              refine W.seq fun K42 hK42 => ?_
              refine W.block ?_
              refine W.loopk (fun m a w43 => St 63 [(0, v0_0), (1, (.int .i64 x1)), (2, (.func (.func 35) #[] #[(.pointer (some p2_0))])), (6, (.int .i64 y34)), (7, (.int .i64 0)), (8, (.int .i64 (w64 (2 * y34))))] a ∧ Below (wE w0).heap.size (wE w0) w43 ∧ Sep (wE w0).heap.size w43 [R.rest w0 (fps [R.own ty_3 B0_0 v0_0 x0]), R.own ty_3 B0_0 v0_0 u25] ∧ F_slices_stableCmpFunc_int__impl_RankShows_1__mut_L3 y34 x1 nx35 m  = some r) FU ?_ ?_
              ·
                exact fun a ha => ⟨ha.sub ⟨rfl, rfl, rfl, rfl, rfl, rfl, trivial⟩, hB32, (hS33.sel [0, 1] rfl), hF⟩
              ·
                rintro m48 a w43 ⟨ha, hB44, hS45, hF⟩ KL47 hKL47
                refine W.at ?_ ha
                cases m48 with
                | zero => exact noneE hF
                | succ m48 =>
                  obtain ⟨nx46, hnx46⟩ : ∃ k, k = F_slices_stableCmpFunc_int__impl_RankShows_1__mut_L3 y34 x1 nx35 m48 := ⟨_, rfl⟩
                  rw [F_slices_stableCmpFunc_int__impl_RankShows_1__mut_L3] at hF; try rw [← hnx46] at hF
                  refine W.seq fun K49 hK49 => ?_
                  refine W.seq fun K50 hK50 => ?_
                  refine W.region ?_
                  refine wl_move rfl rfl ?_
                  refine wl_move rfl rfl ?_
                  refine wl_leq rfl rfl rfl ?_
                  refine WL.nil ?_
                  refine fun a ha => hK50 _ _ ?_ a ha
                  refine W.cond rfl (fun h51 => ?_) (fun h51 => ?_)
                  · replace hF := ifP h51 hF
                    exact noneE hF
                  · replace hF := ifN h51 hF
                    refine W.exit ?_
                    refine fun a ha => hK42 _ _ ?_ a ha
                    refine W.seq fun K53 hK53 => ?_
                    refine W.seq fun K54 hK54 => ?_
                    refine W.region ?_
                    refine wl_move rfl rfl ?_
                    refine wl_move rfl rfl ?_
                    refine wl_add rfl rfl rfl ?_
                    refine wl_assign rfl rfl ?_
                    refine WL.nil ?_
                    refine fun a ha => hK54 _ _ ?_ a ha
                    refine W.seq fun K55 hK55 => ?_
                    refine W.region ?_
                    refine wl_move rfl rfl ?_
                    refine wl_move rfl rfl ?_
                    refine wl_lss rfl rfl rfl ?_
                    refine WL.nil ?_
                    refine fun a ha => hK55 _ _ ?_ a ha
                    refine W.cond rfl (fun h56 => ?_) (fun h56 => ?_)
                    · replace hF := ifP h56 hF
                      exact noneE hF
                    · replace hF := ifN h56 hF
                      refine W.skip ?_
                      refine fun a ha => hK53 _ _ ?_ a ha
                      refine W.region ?_
                      refine wl_move rfl rfl ?_
                      refine wl_mul rfl rfl rfl ?_
                      refine wl_assign rfl rfl ?_
                      refine WL.nil ?_
                      rw [hnx35] at hF
                      exact fun a ha => hKL36 a _ m37 (Nat.lt_succ_self m37) ⟨(w64 (y34 * 2)), ha.sub ⟨rfl, rfl, rfl, rfl, trivial⟩, hB44, (hS45.sel [0, 1] rfl), hF⟩
            · replace hF := ifN h40 hF
              refine W.exit ?_
              have hr := Option.some.inj hF
              subst hr
              exact retsn (vs := []) hQn rfl trivial ⟨rfl, hB32, hS33.sel [0, 1] rfl⟩
theorem C_slices_SortStableFunc_int_int__impl_RankShows_1__mut (w0 : World) (x0 : (List Int)) (v0_0 : Value) (B0_0 : List Nat) (y1_0 : (List ((List (List (Int × Int))) × (List Int) × Int × Int))) (p1_0 : Addr) (v1_0_0 : Value) (h1_0_0 : rdS ty_42 (Out (fps [R.own ty_3 B0_0 v0_0 x0]) w0) w0 v1_0_0 y1_0) (hp1_0 : EAt (Out (fps [R.own ty_3 B0_0 v0_0 x0]) w0) w0 p1_0 [v1_0_0]) (hS0 : Sep 0 w0 [R.own ty_3 B0_0 v0_0 x0]) (r : (List Int)) (hF : F_slices_SortStableFunc_int_int__impl_RankShows_1__mut x0 y1_0 = some r) :
    Calls Try.prog 34 [v0_0, (.func (.func 35) #[] #[(.pointer (some p1_0))])].toArray w0 fun e w' => e = .returned (.tuple #[]) ∧ Below 0 (wE w0) w' ∧ Sep 0 w' [R.rest w0 (fps [R.own ty_3 B0_0 v0_0 x0]), R.own ty_3 B0_0 v0_0 r] := by
  refine calls_mkn' Try.func34 rfl Try.ntmps34 rfl rfl fun Q hQn hQ hP => ?_
  have hB : Below (wE w0).heap.size (wE w0) w0 := wE_below w0
  have hS : Sep (wE w0).heap.size w0 [R.rest w0 (fps [R.own ty_3 B0_0 v0_0 x0]), R.own ty_3 B0_0 v0_0 x0] := hS0.rest
  unfold F_slices_SortStableFunc_int_int__impl_RankShows_1__mut at hF
  refine W.region ?_
  refine wl_move rfl rfl ?_
  refine wl_move rfl rfl ?_
  refine wl_lenr (e := ty_3) (l := x0) Try.underlying24 rfl rfl (hS.own_ro (i := 1) rfl) ?_
  refine wl_move rfl rfl ?_
  obtain ⟨u1, hu1, hF⟩ := bindE hF
  refine wl_call rfl Try.call70 (C_slices_stableCmpFunc_int__impl_RankShows_1__mut w0 x0 v0_0 B0_0 (List.length x0 : Int) y1_0 p1_0 v1_0_0 (h1_0_0.rsto (hS.sel [0, 1] rfl)) (hp1_0.rsto (hS.sel [0, 1] rfl)) (hS.sel [1] rfl).base0 _ hu1) rfl ?_
  rintro _ w2 ⟨rfl, hE3, hM4⟩
  refine ⟨_, rfl, ?_⟩
  have hB5 := hS.mutB [1] rfl (M := [R.own ty_3 B0_0 v0_0 x0]) rfl (M' := [R.own ty_3 B0_0 v0_0 u1]) rfl hB hB.size hE3 hM4
  have hS6 : Sep (wE w0).heap.size w2 [R.own ty_3 B0_0 v0_0 u1, R.rest w0 (fps [R.own ty_3 B0_0 v0_0 x0])] := hS.mut [1] [0] rfl (M := [R.own ty_3 B0_0 v0_0 x0]) rfl (M' := [R.own ty_3 B0_0 v0_0 u1]) rfl hM4
  refine WL.nil ?_
  have hr := Option.some.inj hF
  subst hr
  exact retsn (vs := []) hQn rfl trivial ⟨rfl, hB5, hS6.sel [1, 0] rfl⟩
theorem C_impl_RankShows (w0 : World) (x0 : (List ((List (List (Int × Int))) × (List Int) × Int × Int))) (v0_0 : Value) (h0_0 : rdS ty_42 (· < w0.heap.size) w0 v0_0 x0) (r : ((List Int) × Bool)) (hF : F_impl_RankShows x0 = some r) :
    Calls Try.prog 9 [v0_0].toArray w0 fun e w' => ∃ (q0 : Value) (G0 : List Nat), e = .returned (.tuple #[q0, (.bool r.2)]) ∧ Below w0.heap.size w0 w' ∧ Sep w0.heap.size w' [R.own ty_3 G0 q0 r.1] := by
  refine calls_mk' Try.func9 rfl Try.ntmps9 rfl rfl fun Q hQ hP => ?_
  have hB : Below w0.heap.size w0 w0 := Below.refl _ _
  have hS : Sep w0.heap.size w0 [] := Sep.nil _ _
  unfold F_impl_RankShows at hF
  refine W.seq fun K1 hK1 => ?_
  refine W.region ?_
  refine wl_box (cs := [v0_0]) rfl rfl (cells_one (h0_0.ro hB).one) hB hS ?_
  intro b2 w3 hb4 hB5 hS6
  refine wl_assign rfl rfl ?_
  refine wl_assign rfl rfl ?_
  refine WL.nil ?_
  refine fun a ha => hK1 _ _ ?_ a ha
  refine W.seq fun K7 hK7 => ?_
  refine W.seq fun K8 hK8 => ?_
  refine W.region ?_
  refine wl_load_blk (i := 0) (vs := [v0_0]) (v := v0_0) tf_27 rfl rfl hS6 rfl rfl rfl ?_
  refine wl_lenr (e := ty_42) (l := x0) Try.underlying27 rfl rfl h0_0 ?_
  refine wl_gtr rfl rfl rfl ?_
  refine WL.nil ?_
  refine fun a ha => hK8 _ _ ?_ a ha
  refine W.cond rfl (fun h9 => ?_) (fun h9 => ?_)
  · replace hF := ifP h9 hF
    refine W.seq fun K10 hK10 => ?_
    refine W.region ?_
    refine wl_assign rfl rfl ?_
    refine wl_assign rfl rfl ?_
    refine WL.nil ?_
    refine fun a ha => hK10 _ _ ?_ a ha
    refine W.ret ?_
    have hS11 := hS6.push0 (r := R.own ty_3 [] (.slice none 0 0) []) rfl fun _ => .inl ⟨rfl, rfl, rfl⟩
    have hr := Option.some.inj hF
    subst hr
    exact rets (vs := [(.slice none 0 0), (.bool false)]) hQ rfl ⟨rv_tmp rfl, rv_tmp rfl, trivial⟩ ⟨(.slice none 0 0), [], rfl, hB5, hS11.sel [0] rfl⟩
  · replace hF := ifN h9 hF
    refine W.skip ?_
    refine fun a ha => hK7 _ _ ?_ a ha
    refine W.seq fun K12 hK12 => ?_
    refine W.region ?_
    refine wl_lit (vs := []) (l := []) fl_3 Try.underlying24 rfl rfl rfl rfl rfl rfl hB5 hS6 ?_
    intro v13 F14 w15 hb16 hB17 hS18
    refine wl_assign rfl rfl ?_
    refine WL.nil ?_
    refine fun a ha => hK12 _ _ ?_ a ha
    refine W.seq fun K19 hK19 => ?_
    refine W.seq fun K20 hK20 => ?_
    refine W.region ?_
    refine wl_load_blk (i := 1) (vs := [v0_0]) (v := v0_0) tf_27 rfl rfl hS18 rfl rfl rfl ?_
    refine wl_lenr (e := ty_42) (l := x0) Try.underlying27 rfl rfl h0_0 ?_
    refine wl_move rfl rfl ?_
    refine WL.nil ?_
    refine fun a ha => hK20 _ _ ?_ a ha
    refine W.block ?_
    refine W.loopk (fun m a w21 => ∃ (l24 : (List Int)) (y27 : Int) (v25 : Value) (F26 : List Nat), St 30 [(1, (.pointer (some ⟨b2, 0, none⟩))), (4, v25), (11, v0_0), (12, (.int .i64 (List.length x0 : Int))), (13, (.int .i64 y27))] a ∧ Below w0.heap.size w0 w21 ∧ Sep w0.heap.size w21 [R.blk b2 27 [v0_0], R.own ty_3 F26 v25 l24] ∧ F_impl_RankShows_L1 x0 m l24 y27 = some r) FU ?_ ?_
    ·
      exact fun a ha => ⟨[], 0, v13, F14, ha.sub ⟨rfl, rfl, rfl, rfl, rfl, trivial⟩, hB17, (hS18.sel [1, 0] rfl), hF⟩
    ·
      rintro m30 a w21 ⟨l24, y27, v25, F26, ha, hB22, hS23, hF⟩ KL29 hKL29
      refine W.at ?_ ha
      cases m30 with
      | zero => exact noneE hF
      | succ m30 =>
        obtain ⟨nx28, hnx28⟩ : ∃ k, k = F_impl_RankShows_L1 x0 m30 := ⟨_, rfl⟩
        rw [F_impl_RankShows_L1, ← hnx28] at hF
        refine W.seq fun K31 hK31 => ?_
        refine W.region ?_
        refine wl_lss rfl rfl rfl ?_
        refine WL.nil ?_
        refine fun a ha => hK31 _ _ ?_ a ha
        refine W.seq fun K32 hK32 => ?_
        refine W.cond rfl (fun h33 => ?_) (fun h33 => ?_)
        · replace hF := ifP h33 hF
          refine W.skip ?_
          refine fun a ha => hK32 _ _ ?_ a ha
          refine W.seq fun K34 hK34 => ?_
          refine W.block ?_
          refine W.seq fun K35 hK35 => ?_
          refine W.region ?_
          refine wl_move rfl rfl ?_
          obtain ⟨u36, hu36, hF⟩ := bindE hF
          refine wl_index (e := ty_42) Try.underlying27 rfl rfl rfl h0_0 hu36 ?_
          rintro p37 _ ⟨_, _, rfl, ⟨v39, rfl, hv40⟩, ⟨_, _, rfl, ⟨v41, rfl, hv42⟩, ⟨_, _, rfl, rfl, rfl⟩⟩⟩ hp38
          refine wl_load_p (vs := [v39, v41, (.int .i64 u36.2.2.1), (.int .i64 u36.2.2.2)]) (v := (.agg #[v39, v41, (.int .i64 u36.2.2.1), (.int .i64 u36.2.2.2)])) tf_42 rfl rfl (hp38.ro hB22) rfl rfl ?_
          refine wl_alloc (cs := [(.slice none 0 0), (.slice none 0 0), (.int .i64 0), (.int .i64 0)]) tf_42 rfl rfl hB22 hS23 ?_
          intro b43 w44 hb45 hB46 hS47
          refine wl_assign rfl rfl ?_
          refine wl_store_blk (i := 0) (vs := [v39, v41, (.int .i64 u36.2.2.1), (.int .i64 u36.2.2.2)]) (cs' := [v39, v41, (.int .i64 u36.2.2.1), (.int .i64 u36.2.2.2)]) tf_42 rfl rfl rfl rfl hB46 hS47 rfl rfl ⟨(hv40.ro hB46).one, (hv42.ro hB46).one, rfl, rfl, trivial⟩ rfl ?_
          intro w48 hk51 hB49 hS50
          refine WL.nil ?_
          refine fun a ha => hK35 _ _ ?_ a ha
          refine W.seq fun K52 hK52 => ?_
          refine W.seq fun K53 hK53 => ?_
          refine W.region ?_
          refine wl_load_blk (i := 0) (vs := [v39, v41, (.int .i64 u36.2.2.1), (.int .i64 u36.2.2.2)]) (v := (.agg #[v39, v41, (.int .i64 u36.2.2.1), (.int .i64 u36.2.2.2)])) tf_42 rfl rfl hS50 rfl rfl rfl ?_
          obtain ⟨u54, hu54, hF⟩ := bindE hF
          refine wl_call rfl Try.call33 (C_impl_IsShow w48 u36 v39 (hv40.ro hB49) v41 (hv42.ro hB49) _ hu54) rfl ?_
          rintro _ w55 ⟨rfl, hb56⟩
          refine ⟨_, rfl, ?_⟩
          have hB57 := hB49.trans (hb56.mono hB49.size)
          have hS58 := hS50.below hb56
          refine wl_not rfl rfl ?_
          refine WL.nil ?_
          refine fun a ha => hK53 _ _ ?_ a ha
          refine W.cond rfl (fun h60 => ?_) (fun h60 => ?_)
          · replace hF := ifP h60 hF
            refine W.seq fun K61 hK61 => ?_
            refine W.region ?_
            refine wl_assign rfl rfl ?_
            refine wl_assign rfl rfl ?_
            refine WL.nil ?_
            refine fun a ha => hK61 _ _ ?_ a ha
            refine W.ret ?_
            have hS62 := hS58.push0 (r := R.own ty_3 [] (.slice none 0 0) []) rfl fun _ => .inl ⟨rfl, rfl, rfl⟩
            have hr := Option.some.inj hF
            subst hr
            exact rets (vs := [(.slice none 0 0), (.bool false)]) hQ rfl ⟨rv_tmp rfl, rv_tmp rfl, trivial⟩ ⟨(.slice none 0 0), [], rfl, hB57, hS62.sel [0] rfl⟩
          · replace hF := ifN h60 hF
            refine W.skip ?_
            refine fun a ha => hK52 _ _ ?_ a ha
            refine W.region ?_
            refine wl_move rfl rfl ?_
            refine wl_move rfl rfl ?_
            refine wl_lit (vs := [(.int .i64 y27)]) (l := [y27]) fl_3 Try.underlying24 rfl rfl rfl rfl rfl rfl hB57 hS58 ?_
            intro v63 F64 w65 hb66 hB67 hS68
            obtain ⟨u69, hu69, hF⟩ := bindE hF
            refine wl_append (i := 3) (S := (· < w65.heap.size)) fl_3 Try.underlying24 rfl rfl rfl hB67 hS68 rfl (hS68.own_ro (i := 0) rfl) hu69 ?_
            intro v70 F71 w72 hk73 hB74 hS75
            refine wl_assign rfl rfl ?_
            refine WL.nil ?_
            refine fun a ha => hK34 _ _ ?_ a ha
            refine W.region ?_
            refine wl_add rfl rfl rfl ?_
            refine wl_move rfl rfl ?_
            refine WL.nil ?_
            rw [hnx28] at hF
            exact fun a ha => hKL29 a _ m30 (Nat.lt_succ_self m30) ⟨u69, (w64 (y27 + 1)), v70, F71, ha.sub ⟨rfl, rfl, rfl, rfl, rfl, trivial⟩, hB74, (hS75.sel [2, 3] rfl), hF⟩
        · replace hF := ifN h33 hF
          refine W.exit ?_
          refine fun a ha => hK19 _ _ ?_ a ha
          refine W.seq fun K76 hK76 => ?_
          refine W.region ?_
          refine wl_move rfl rfl ?_
          refine wl_makeFunc (vs := [(.pointer (some ⟨b2, 0, none⟩))]) rfl rfl ?_
          obtain ⟨u77, hu77, hF⟩ := bindE hF
          refine wl_call rfl Try.call34 (C_slices_SortStableFunc_int_int__impl_RankShows_1__mut w21 l24 v25 F26 x0 ⟨b2, 0, none⟩ v0_0 (h0_0.oldo hB22 (hS23.sel [1] rfl)) (blk_out (hS23.sel [0, 1] rfl)) (hS23.sel [1] rfl).base0 _ hu77) rfl ?_
          rintro _ w78 ⟨rfl, hE79, hM80⟩
          refine ⟨_, rfl, ?_⟩
          have hB81 := hS23.mutB [1] rfl (M := [R.own ty_3 F26 v25 l24]) rfl (M' := [R.own ty_3 F26 v25 u77]) rfl hB22 hB22.size hE79 hM80
          have hS82 : Sep w0.heap.size w78 [R.own ty_3 F26 v25 u77, R.blk b2 27 [v0_0]] := hS23.mut [1] [0] rfl (M := [R.own ty_3 F26 v25 l24]) rfl (M' := [R.own ty_3 F26 v25 u77]) rfl hM80
          refine WL.nil ?_
          refine fun a ha => hK76 _ _ ?_ a ha
          refine W.seq fun K83 hK83 => ?_
          refine W.region ?_
          refine wl_move rfl rfl ?_
          refine wl_assign rfl rfl ?_
          refine wl_assign rfl rfl ?_
          refine WL.nil ?_
          refine fun a ha => hK83 _ _ ?_ a ha
          refine W.ret ?_
          have hr := Option.some.inj hF
          subst hr
          exact rets (vs := [v25, (.bool true)]) hQ rfl ⟨rv_tmp rfl, rv_tmp rfl, trivial⟩ ⟨v25, F26, rfl, hB81, hS82.sel [0] rfl⟩
theorem C_laws_eqIntS (w0 : World) (x0 : (List Int)) (v0_0 : Value) (h0_0 : rdS ty_3 (· < w0.heap.size) w0 v0_0 x0) (x1 : (List Int)) (v1_0 : Value) (h1_0 : rdS ty_3 (· < w0.heap.size) w0 v1_0 x1) (r : Bool) (hF : F_laws_eqIntS x0 x1 = some r) :
    Calls Try.prog 10 [v0_0, v1_0].toArray w0 fun e w' => e = .returned (.bool r) ∧ Below w0.heap.size w0 w' := by
  refine calls_mk' Try.func10 rfl Try.ntmps10 rfl rfl fun Q hQ hP => ?_
  have hB : Below w0.heap.size w0 w0 := Below.refl _ _
  have hS : Sep w0.heap.size w0 [] := Sep.nil _ _
  unfold F_laws_eqIntS at hF
  refine W.seq fun K1 hK1 => ?_
  refine W.region ?_
  refine wl_assign rfl rfl ?_
  refine WL.nil ?_
  refine fun a ha => hK1 _ _ ?_ a ha
  refine W.seq fun K2 hK2 => ?_
  refine W.seq fun K3 hK3 => ?_
  refine W.region ?_
  refine wl_move rfl rfl ?_
  refine wl_lenr (e := ty_3) (l := x0) Try.underlying24 rfl rfl h0_0 ?_
  refine wl_move rfl rfl ?_
  refine wl_lenr (e := ty_3) (l := x1) Try.underlying24 rfl rfl h1_0 ?_
  refine wl_neq rfl rfl rfl ?_
  refine WL.nil ?_
  refine fun a ha => hK3 _ _ ?_ a ha
  refine W.cond rfl (fun h4 => ?_) (fun h4 => ?_)
  · replace hF := ifP h4 hF
    refine W.seq fun K5 hK5 => ?_
    refine W.region ?_
    refine wl_assign rfl rfl ?_
    refine WL.nil ?_
    refine fun a ha => hK5 _ _ ?_ a ha
    refine W.ret ?_
    have hr := Option.some.inj hF
    subst hr
    exact rets (vs := [(.bool false)]) hQ rfl ⟨rv_tmp rfl, trivial⟩ ⟨rfl, hB⟩
  · replace hF := ifN h4 hF
    refine W.skip ?_
    refine fun a ha => hK2 _ _ ?_ a ha
    refine W.seq fun K6 hK6 => ?_
    refine W.seq fun K7 hK7 => ?_
    refine W.region ?_
    refine wl_assign rfl rfl ?_
    refine WL.nil ?_
    refine fun a ha => hK7 _ _ ?_ a ha
    refine W.block ?_
    refine W.loopk (fun m a w8 => ∃ (y11 : Int), St 26 [(0, v0_0), (1, v1_0), (5, (.int .i64 y11))] a ∧ Below w0.heap.size w0 w8 ∧ Sep w0.heap.size w8 [] ∧ F_laws_eqIntS_L1 x0 x1 m y11 = some r) FU ?_ ?_
    ·
      exact fun a ha => ⟨0, ha.sub ⟨rfl, rfl, rfl, trivial⟩, hB, (hS.sel [] rfl), hF⟩
    ·
      rintro m14 a w8 ⟨y11, ha, hB9, hS10, hF⟩ KL13 hKL13
      refine W.at ?_ ha
      cases m14 with
      | zero => exact noneE hF
      | succ m14 =>
        obtain ⟨nx12, hnx12⟩ : ∃ k, k = F_laws_eqIntS_L1 x0 x1 m14 := ⟨_, rfl⟩
        rw [F_laws_eqIntS_L1, ← hnx12] at hF
        refine W.seq fun K15 hK15 => ?_
        refine W.seq fun K16 hK16 => ?_
        refine W.region ?_
        refine wl_move rfl rfl ?_
        refine wl_move rfl rfl ?_
        refine wl_lenr (e := ty_3) (l := x0) Try.underlying24 rfl rfl h0_0 ?_
        refine wl_lss rfl rfl rfl ?_
        refine WL.nil ?_
        refine fun a ha => hK16 _ _ ?_ a ha
        refine W.cond rfl (fun h17 => ?_) (fun h17 => ?_)
        · replace hF := ifP h17 hF
          refine W.skip ?_
          refine fun a ha => hK15 _ _ ?_ a ha
          refine W.seq fun K18 hK18 => ?_
          refine W.block ?_
          refine W.seq fun K19 hK19 => ?_
          refine W.regionH mixed_ [] hB9 hS10 ?_
          intro w20 hb21 hB22 hS23
          have hSW24 := KeepX.refl w20 []
          refine WH.takex (i := 0) rfl (by kernel_rfl) (by kernel_rfl) (by kernel_rfl) hP hSW24 ?_
          refine pr_move rfl rfl ?_
          refine WH.takex (i := 1) rfl (by kernel_rfl) (by kernel_rfl) (by kernel_rfl) hP hSW24 ?_
          refine pr_move rfl rfl ?_
          obtain ⟨u25, hu25, hF⟩ := bindE hF
          refine WH.takex (i := 2) rfl (by kernel_rfl) (by kernel_rfl) (by kernel_rfl) hP hSW24 ?_
          refine pr_index (e := ty_3) Try.underlying24 rfl rfl rfl h0_0 hu25 ?_
          rintro p26 _ rfl hp27
          refine WH.takex (i := 3) rfl (by kernel_rfl) (by kernel_rfl) (by kernel_rfl) hP hSW24 ?_
          refine pr_load_p (vs := [(.int .i64 u25)]) (v := (.int .i64 u25)) tf_3 rfl rfl (hp27.kx hB22 (by simp)) rfl rfl ?_
          refine WH.takex (i := 4) rfl (by kernel_rfl) (by kernel_rfl) (by kernel_rfl) hP hSW24 ?_
          refine pr_move rfl rfl ?_
          refine WH.takex (i := 5) rfl (by kernel_rfl) (by kernel_rfl) (by kernel_rfl) hP hSW24 ?_
          refine pr_move rfl rfl ?_
          obtain ⟨u28, hu28, hF⟩ := bindE hF
          refine WH.takex (i := 6) rfl (by kernel_rfl) (by kernel_rfl) (by kernel_rfl) hP hSW24 ?_
          refine pr_index (e := ty_3) Try.underlying24 rfl rfl rfl h1_0 hu28 ?_
          rintro p29 _ rfl hp30
          refine WH.takex (i := 7) rfl (by kernel_rfl) (by kernel_rfl) (by kernel_rfl) hP hSW24 ?_
          refine pr_load_p (vs := [(.int .i64 u28)]) (v := (.int .i64 u28)) tf_3 rfl rfl (hp30.kx hB22 (by simp)) rfl rfl ?_
          refine WH.takex (i := 8) rfl (by kernel_rfl) (by kernel_rfl) (by kernel_rfl) hP hSW24 ?_
          refine pr_neq rfl rfl rfl ?_
          refine WH.done (by kernel_rfl) ?_
          refine fun a ha => hK19 _ _ ?_ a ha
          refine W.cond rfl (fun h31 => ?_) (fun h31 => ?_)
          · replace hF := ifP h31 hF
            refine W.seq fun K32 hK32 => ?_
            refine W.region ?_
            refine wl_assign rfl rfl ?_
            refine WL.nil ?_
            refine fun a ha => hK32 _ _ ?_ a ha
            refine W.ret ?_
            have hr := Option.some.inj hF
            subst hr
            exact rets (vs := [(.bool false)]) hQ rfl ⟨rv_tmp rfl, trivial⟩ ⟨rfl, hB22⟩
          · replace hF := ifN h31 hF
            refine W.skip ?_
            refine fun a ha => hK18 _ _ ?_ a ha
            refine W.region ?_
            refine wl_move rfl rfl ?_
            refine wl_add rfl rfl rfl ?_
            refine wl_assign rfl rfl ?_
            refine WL.nil ?_
            rw [hnx12] at hF
            exact fun a ha => hKL13 a _ m14 (Nat.lt_succ_self m14) ⟨(w64 (y11 + 1)), ha.sub ⟨rfl, rfl, rfl, trivial⟩, hB22, (hS23.sel [] rfl), hF⟩
        · replace hF := ifN h17 hF
          refine W.exit ?_
          refine fun a ha => hK6 _ _ ?_ a ha
          refine W.seq fun K33 hK33 => ?_
          refine W.region ?_
          refine wl_assign rfl rfl ?_
          refine WL.nil ?_
          refine fun a ha => hK33 _ _ ?_ a ha
          refine W.ret ?_
          have hr := Option.some.inj hF
          subst hr
          exact rets (vs := [(.bool true)]) hQ rfl ⟨rv_tmp rfl, trivial⟩ ⟨rfl, hB9⟩
theorem C_laws_eqSpot (w0 : World) (x0 : (Int × Int)) (x1 : (Int × Int)) (r : Bool) (hF : F_laws_eqSpot x0 x1 = some r) :
    Calls Try.prog 127 [(.agg #[(.int .i64 x0.1), (.int .i64 x0.2)]), (.agg #[(.int .i64 x1.1), (.int .i64 x1.2)])].toArray w0 fun e w' => e = .returned (.bool r) ∧ Below w0.heap.size w0 w' := by
  refine calls_mk' Try.func127 rfl Try.ntmps127 rfl rfl fun Q hQ hP => ?_
  have hB : Below w0.heap.size w0 w0 := Below.refl _ _
  have hS : Sep w0.heap.size w0 [] := Sep.nil _ _
  unfold F_laws_eqSpot at hF
  refine W.seq fun K1 hK1 => ?_
  refine W.region ?_
  refine wl_box (cs := [(.int .i64 x0.1), (.int .i64 x0.2)]) rfl rfl rfl hB hS ?_
  intro b2 w3 hb4 hB5 hS6
  refine wl_box (cs := [(.int .i64 x1.1), (.int .i64 x1.2)]) rfl rfl rfl hB5 hS6 ?_
  intro b7 w8 hb9 hB10 hS11
  refine wl_assign rfl rfl ?_
  refine WL.nil ?_
  refine fun a ha => hK1 _ _ ?_ a ha
  refine W.seq fun K12 hK12 => ?_
  refine W.seq fun K13 hK13 => ?_
  refine W.region ?_
  refine wl_field (o := 0) (off' := 0) ff_106_0 rfl rfl rfl ?_
  refine wl_load_blk (i := 1) (vs := [(.int .i64 x0.1)]) (v := (.int .i64 x0.1)) tf_3 rfl rfl hS11 rfl rfl rfl ?_
  refine wl_field (o := 0) (off' := 0) ff_106_0 rfl rfl rfl ?_
  refine wl_load_blk (i := 0) (vs := [(.int .i64 x1.1)]) (v := (.int .i64 x1.1)) tf_3 rfl rfl hS11 rfl rfl rfl ?_
  refine wl_neq rfl rfl rfl ?_
  refine WL.nil ?_
  refine fun a ha => hK13 _ _ ?_ a ha
  refine W.cond rfl (fun h14 => ?_) (fun h14 => ?_)
  · replace hF := ifP h14 hF
    refine W.seq fun K15 hK15 => ?_
    refine W.region ?_
    refine wl_assign rfl rfl ?_
    refine WL.nil ?_
    refine fun a ha => hK15 _ _ ?_ a ha
    refine W.ret ?_
    have hr := Option.some.inj hF
    subst hr
    exact rets (vs := [(.bool false)]) hQ rfl ⟨rv_tmp rfl, trivial⟩ ⟨rfl, hB10⟩
  · replace hF := ifN h14 hF
    refine W.skip ?_
    refine fun a ha => hK12 _ _ ?_ a ha
    refine W.seq fun K16 hK16 => ?_
    refine W.seq fun K17 hK17 => ?_
    refine W.region ?_
    refine wl_field (o := 1) (off' := 1) ff_106_1 rfl rfl rfl ?_
    refine wl_load_blk (i := 1) (vs := [(.int .i64 x0.2)]) (v := (.int .i64 x0.2)) tf_3 rfl rfl hS11 rfl rfl rfl ?_
    refine wl_field (o := 1) (off' := 1) ff_106_1 rfl rfl rfl ?_
    refine wl_load_blk (i := 0) (vs := [(.int .i64 x1.2)]) (v := (.int .i64 x1.2)) tf_3 rfl rfl hS11 rfl rfl rfl ?_
    refine wl_neq rfl rfl rfl ?_
    refine WL.nil ?_
    refine fun a ha => hK17 _ _ ?_ a ha
    refine W.cond rfl (fun h18 => ?_) (fun h18 => ?_)
    · replace hF := ifP h18 hF
      refine W.seq fun K19 hK19 => ?_
      refine W.region ?_
      refine wl_assign rfl rfl ?_
      refine WL.nil ?_
      refine fun a ha => hK19 _ _ ?_ a ha
      refine W.ret ?_
      have hr := Option.some.inj hF
      subst hr
      exact rets (vs := [(.bool false)]) hQ rfl ⟨rv_tmp rfl, trivial⟩ ⟨rfl, hB10⟩
    · replace hF := ifN h18 hF
      refine W.skip ?_
      refine fun a ha => hK16 _ _ ?_ a ha
      refine W.seq fun K20 hK20 => ?_
      refine W.region ?_
      refine wl_assign rfl rfl ?_
      refine WL.nil ?_
      refine fun a ha => hK20 _ _ ?_ a ha
      refine W.ret ?_
      have hr := Option.some.inj hF
      subst hr
      exact rets (vs := [(.bool true)]) hQ rfl ⟨rv_tmp rfl, trivial⟩ ⟨rfl, hB10⟩
theorem C_laws_eqSpotS (w0 : World) (x0 : (List (Int × Int))) (v0_0 : Value) (h0_0 : rdS ty_106 (· < w0.heap.size) w0 v0_0 x0) (x1 : (List (Int × Int))) (v1_0 : Value) (h1_0 : rdS ty_106 (· < w0.heap.size) w0 v1_0 x1) (r : Bool) (hF : F_laws_eqSpotS x0 x1 = some r) :
    Calls Try.prog 102 [v0_0, v1_0].toArray w0 fun e w' => e = .returned (.bool r) ∧ Below w0.heap.size w0 w' := by
  refine calls_mk' Try.func102 rfl Try.ntmps102 rfl rfl fun Q hQ hP => ?_
  have hB : Below w0.heap.size w0 w0 := Below.refl _ _
  have hS : Sep w0.heap.size w0 [] := Sep.nil _ _
  unfold F_laws_eqSpotS at hF
  refine W.seq fun K1 hK1 => ?_
  refine W.region ?_
  refine wl_assign rfl rfl ?_
  refine WL.nil ?_
  refine fun a ha => hK1 _ _ ?_ a ha
  refine W.seq fun K2 hK2 => ?_
  refine W.seq fun K3 hK3 => ?_
  refine W.region ?_
  refine wl_move rfl rfl ?_
  refine wl_lenr (e := ty_106) (l := x0) Try.underlying82 rfl rfl h0_0 ?_
  refine wl_move rfl rfl ?_
  refine wl_lenr (e := ty_106) (l := x1) Try.underlying82 rfl rfl h1_0 ?_
  refine wl_neq rfl rfl rfl ?_
  refine WL.nil ?_
  refine fun a ha => hK3 _ _ ?_ a ha
  refine W.cond rfl (fun h4 => ?_) (fun h4 => ?_)
  · replace hF := ifP h4 hF
    refine W.seq fun K5 hK5 => ?_
    refine W.region ?_
    refine wl_assign rfl rfl ?_
    refine WL.nil ?_
    refine fun a ha => hK5 _ _ ?_ a ha
    refine W.ret ?_
    have hr := Option.some.inj hF
    subst hr
    exact rets (vs := [(.bool false)]) hQ rfl ⟨rv_tmp rfl, trivial⟩ ⟨rfl, hB⟩
  · replace hF := ifN h4 hF
    refine W.skip ?_
    refine fun a ha => hK2 _ _ ?_ a ha
    refine W.seq fun K6 hK6 => ?_
    refine W.seq fun K7 hK7 => ?_
    refine W.region ?_
    refine wl_assign rfl rfl ?_
    refine WL.nil ?_
    refine fun a ha => hK7 _ _ ?_ a ha
    refine W.block ?_
    refine W.loopk (fun m a w8 => ∃ (y11 : Int), St 27 [(0, v0_0), (1, v1_0), (5, (.int .i64 y11))] a ∧ Below w0.heap.size w0 w8 ∧ Sep w0.heap.size w8 [] ∧ F_laws_eqSpotS_L1 x0 x1 m y11 = some r) FU ?_ ?_
    ·
      exact fun a ha => ⟨0, ha.sub ⟨rfl, rfl, rfl, trivial⟩, hB, (hS.sel [] rfl), hF⟩
    ·
      rintro m14 a w8 ⟨y11, ha, hB9, hS10, hF⟩ KL13 hKL13
      refine W.at ?_ ha
      cases m14 with
      | zero => exact noneE hF
      | succ m14 =>
        obtain ⟨nx12, hnx12⟩ : ∃ k, k = F_laws_eqSpotS_L1 x0 x1 m14 := ⟨_, rfl⟩
        rw [F_laws_eqSpotS_L1, ← hnx12] at hF
        refine W.seq fun K15 hK15 => ?_
        refine W.seq fun K16 hK16 => ?_
        refine W.region ?_
        refine wl_move rfl rfl ?_
        refine wl_move rfl rfl ?_
        refine wl_lenr (e := ty_106) (l := x0) Try.underlying82 rfl rfl h0_0 ?_
        refine wl_lss rfl rfl rfl ?_
        refine WL.nil ?_
        refine fun a ha => hK16 _ _ ?_ a ha
        refine W.cond rfl (fun h17 => ?_) (fun h17 => ?_)
        · replace hF := ifP h17 hF
          refine W.skip ?_
          refine fun a ha => hK15 _ _ ?_ a ha
          refine W.seq fun K18 hK18 => ?_
          refine W.block ?_
          refine W.seq fun K19 hK19 => ?_
          refine W.regionH mixed_ [] hB9 hS10 ?_
          intro w20 hb21 hB22 hS23
          have hSW24 := KeepX.refl w20 []
          refine WH.takex (i := 0) rfl (by kernel_rfl) (by kernel_rfl) (by kernel_rfl) hP hSW24 ?_
          refine pr_move rfl rfl ?_
          refine WH.takex (i := 1) rfl (by kernel_rfl) (by kernel_rfl) (by kernel_rfl) hP hSW24 ?_
          refine pr_move rfl rfl ?_
          obtain ⟨u25, hu25, hF⟩ := bindE hF
          refine WH.takex (i := 2) rfl (by kernel_rfl) (by kernel_rfl) (by kernel_rfl) hP hSW24 ?_
          refine pr_index (e := ty_106) Try.underlying82 rfl rfl rfl h0_0 hu25 ?_
          rintro p26 _ rfl hp27
          refine WH.takex (i := 3) rfl (by kernel_rfl) (by kernel_rfl) (by kernel_rfl) hP hSW24 ?_
          refine pr_load_p (vs := [(.int .i64 u25.1), (.int .i64 u25.2)]) (v := (.agg #[(.int .i64 u25.1), (.int .i64 u25.2)])) tf_106 rfl rfl (hp27.kx hB22 (by simp)) rfl rfl ?_
          refine WH.takex (i := 4) rfl (by kernel_rfl) (by kernel_rfl) (by kernel_rfl) hP hSW24 ?_
          refine pr_move rfl rfl ?_
          refine WH.takex (i := 5) rfl (by kernel_rfl) (by kernel_rfl) (by kernel_rfl) hP hSW24 ?_
          refine pr_move rfl rfl ?_
          obtain ⟨u28, hu28, hF⟩ := bindE hF
          refine WH.takex (i := 6) rfl (by kernel_rfl) (by kernel_rfl) (by kernel_rfl) hP hSW24 ?_
          refine pr_index (e := ty_106) Try.underlying82 rfl rfl rfl h1_0 hu28 ?_
          rintro p29 _ rfl hp30
          refine WH.takex (i := 7) rfl (by kernel_rfl) (by kernel_rfl) (by kernel_rfl) hP hSW24 ?_
          refine pr_load_p (vs := [(.int .i64 u28.1), (.int .i64 u28.2)]) (v := (.agg #[(.int .i64 u28.1), (.int .i64 u28.2)])) tf_106 rfl rfl (hp30.kx hB22 (by simp)) rfl rfl ?_
          refine WH.one (i := 8) (by kernel_rfl) rfl ?_
          obtain ⟨u31, hu31, hF⟩ := bindE hF
          refine wl_call rfl Try.call127 (C_laws_eqSpot w20 u25 u28 _ hu31) rfl ?_
          rintro _ w32 ⟨rfl, hb33⟩
          refine ⟨_, rfl, ?_⟩
          have hB34 := hB22.trans (hb33.mono hB22.size)
          have hS35 := hS23.below hb33
          have hSW37 := hSW24.ext hb33
          refine WL.nil (WH.ret hSW37 ?_)
          refine WH.takex (i := 9) rfl (by kernel_rfl) (by kernel_rfl) (by kernel_rfl) hP hSW37 ?_
          refine pr_not rfl rfl ?_
          refine WH.done (by kernel_rfl) ?_
          refine fun a ha => hK19 _ _ ?_ a ha
          refine W.cond rfl (fun h38 => ?_) (fun h38 => ?_)
          · replace hF := ifP h38 hF
            refine W.seq fun K39 hK39 => ?_
            refine W.region ?_
            refine wl_assign rfl rfl ?_
            refine WL.nil ?_
            refine fun a ha => hK39 _ _ ?_ a ha
            refine W.ret ?_
            have hr := Option.some.inj hF
            subst hr
            exact rets (vs := [(.bool false)]) hQ rfl ⟨rv_tmp rfl, trivial⟩ ⟨rfl, hB34⟩
          · replace hF := ifN h38 hF
            refine W.skip ?_
            refine fun a ha => hK18 _ _ ?_ a ha
            refine W.region ?_
            refine wl_move rfl rfl ?_
            refine wl_add rfl rfl rfl ?_
            refine wl_assign rfl rfl ?_
            refine WL.nil ?_
            rw [hnx12] at hF
            exact fun a ha => hKL13 a _ m14 (Nat.lt_succ_self m14) ⟨(w64 (y11 + 1)), ha.sub ⟨rfl, rfl, rfl, trivial⟩, hB34, (hS35.sel [] rfl), hF⟩
        · replace hF := ifN h17 hF
          refine W.exit ?_
          refine fun a ha => hK6 _ _ ?_ a ha
          refine W.seq fun K40 hK40 => ?_
          refine W.region ?_
          refine wl_assign rfl rfl ?_
          refine WL.nil ?_
          refine fun a ha => hK40 _ _ ?_ a ha
          refine W.ret ?_
          have hr := Option.some.inj hF
          subst hr
          exact rets (vs := [(.bool true)]) hQ rfl ⟨rv_tmp rfl, trivial⟩ ⟨rfl, hB9⟩
theorem C_laws_eqSpotSS (w0 : World) (x0 : (List (List (Int × Int)))) (v0_0 : Value) (h0_0 : rdS ty_82 (· < w0.heap.size) w0 v0_0 x0) (x1 : (List (List (Int × Int)))) (v1_0 : Value) (h1_0 : rdS ty_82 (· < w0.heap.size) w0 v1_0 x1) (r : Bool) (hF : F_laws_eqSpotSS x0 x1 = some r) :
    Calls Try.prog 75 [v0_0, v1_0].toArray w0 fun e w' => e = .returned (.bool r) ∧ Below w0.heap.size w0 w' := by
  refine calls_mk' Try.func75 rfl Try.ntmps75 rfl rfl fun Q hQ hP => ?_
  have hB : Below w0.heap.size w0 w0 := Below.refl _ _
  have hS : Sep w0.heap.size w0 [] := Sep.nil _ _
  unfold F_laws_eqSpotSS at hF
  refine W.seq fun K1 hK1 => ?_
  refine W.region ?_
  refine wl_assign rfl rfl ?_
  refine WL.nil ?_
  refine fun a ha => hK1 _ _ ?_ a ha
  refine W.seq fun K2 hK2 => ?_
  refine W.seq fun K3 hK3 => ?_
  refine W.region ?_
  refine wl_move rfl rfl ?_
  refine wl_lenr (e := ty_82) (l := x0) Try.underlying40 rfl rfl h0_0 ?_
  refine wl_move rfl rfl ?_
  refine wl_lenr (e := ty_82) (l := x1) Try.underlying40 rfl rfl h1_0 ?_
  refine wl_neq rfl rfl rfl ?_
  refine WL.nil ?_
  refine fun a ha => hK3 _ _ ?_ a ha
  refine W.cond rfl (fun h4 => ?_) (fun h4 => ?_)
  · replace hF := ifP h4 hF
    refine W.seq fun K5 hK5 => ?_
    refine W.region ?_
    refine wl_assign rfl rfl ?_
    refine WL.nil ?_
    refine fun a ha => hK5 _ _ ?_ a ha
    refine W.ret ?_
    have hr := Option.some.inj hF
    subst hr
    exact rets (vs := [(.bool false)]) hQ rfl ⟨rv_tmp rfl, trivial⟩ ⟨rfl, hB⟩
  · replace hF := ifN h4 hF
    refine W.skip ?_
    refine fun a ha => hK2 _ _ ?_ a ha
    refine W.seq fun K6 hK6 => ?_
    refine W.seq fun K7 hK7 => ?_
    refine W.region ?_
    refine wl_assign rfl rfl ?_
    refine WL.nil ?_
    refine fun a ha => hK7 _ _ ?_ a ha
    refine W.block ?_
    refine W.loopk (fun m a w8 => ∃ (y11 : Int), St 27 [(0, v0_0), (1, v1_0), (5, (.int .i64 y11))] a ∧ Below w0.heap.size w0 w8 ∧ Sep w0.heap.size w8 [] ∧ F_laws_eqSpotSS_L1 x0 x1 m y11 = some r) FU ?_ ?_
    ·
      exact fun a ha => ⟨0, ha.sub ⟨rfl, rfl, rfl, trivial⟩, hB, (hS.sel [] rfl), hF⟩
    ·
      rintro m14 a w8 ⟨y11, ha, hB9, hS10, hF⟩ KL13 hKL13
      refine W.at ?_ ha
      cases m14 with
      | zero => exact noneE hF
      | succ m14 =>
        obtain ⟨nx12, hnx12⟩ : ∃ k, k = F_laws_eqSpotSS_L1 x0 x1 m14 := ⟨_, rfl⟩
        rw [F_laws_eqSpotSS_L1, ← hnx12] at hF
        refine W.seq fun K15 hK15 => ?_
        refine W.seq fun K16 hK16 => ?_
        refine W.region ?_
        refine wl_move rfl rfl ?_
        refine wl_move rfl rfl ?_
        refine wl_lenr (e := ty_82) (l := x0) Try.underlying40 rfl rfl h0_0 ?_
        refine wl_lss rfl rfl rfl ?_
        refine WL.nil ?_
        refine fun a ha => hK16 _ _ ?_ a ha
        refine W.cond rfl (fun h17 => ?_) (fun h17 => ?_)
        · replace hF := ifP h17 hF
          refine W.skip ?_
          refine fun a ha => hK15 _ _ ?_ a ha
          refine W.seq fun K18 hK18 => ?_
          refine W.block ?_
          refine W.seq fun K19 hK19 => ?_
          refine W.regionH mixed_ [] hB9 hS10 ?_
          intro w20 hb21 hB22 hS23
          have hSW24 := KeepX.refl w20 []
          refine WH.takex (i := 0) rfl (by kernel_rfl) (by kernel_rfl) (by kernel_rfl) hP hSW24 ?_
          refine pr_move rfl rfl ?_
          refine WH.takex (i := 1) rfl (by kernel_rfl) (by kernel_rfl) (by kernel_rfl) hP hSW24 ?_
          refine pr_move rfl rfl ?_
          obtain ⟨u25, hu25, hF⟩ := bindE hF
          refine WH.takex (i := 2) rfl (by kernel_rfl) (by kernel_rfl) (by kernel_rfl) hP hSW24 ?_
          refine pr_index (e := ty_82) Try.underlying40 rfl rfl rfl h0_0 hu25 ?_
          rintro p26 _ ⟨v28, rfl, hv29⟩ hp27
          refine WH.takex (i := 3) rfl (by kernel_rfl) (by kernel_rfl) (by kernel_rfl) hP hSW24 ?_
          refine pr_load_p (vs := [v28]) (v := v28) tf_82 rfl rfl (hp27.kx hB22 (by simp)) rfl rfl ?_
          refine WH.takex (i := 4) rfl (by kernel_rfl) (by kernel_rfl) (by kernel_rfl) hP hSW24 ?_
          refine pr_move rfl rfl ?_
          refine WH.takex (i := 5) rfl (by kernel_rfl) (by kernel_rfl) (by kernel_rfl) hP hSW24 ?_
          refine pr_move rfl rfl ?_
          obtain ⟨u30, hu30, hF⟩ := bindE hF
          refine WH.takex (i := 6) rfl (by kernel_rfl) (by kernel_rfl) (by kernel_rfl) hP hSW24 ?_
          refine pr_index (e := ty_82) Try.underlying40 rfl rfl rfl h1_0 hu30 ?_
          rintro p31 _ ⟨v33, rfl, hv34⟩ hp32
          refine WH.takex (i := 7) rfl (by kernel_rfl) (by kernel_rfl) (by kernel_rfl) hP hSW24 ?_
          refine pr_load_p (vs := [v33]) (v := v33) tf_82 rfl rfl (hp32.kx hB22 (by simp)) rfl rfl ?_
          refine WH.one (i := 8) (by kernel_rfl) rfl ?_
          obtain ⟨u35, hu35, hF⟩ := bindE hF
          refine wl_call rfl Try.call102 (C_laws_eqSpotS w20 u25 v28 (hv29.ro hB22) u30 v33 (hv34.ro hB22) _ hu35) rfl ?_
          rintro _ w36 ⟨rfl, hb37⟩
          refine ⟨_, rfl, ?_⟩
          have hB38 := hB22.trans (hb37.mono hB22.size)
          have hS39 := hS23.below hb37
          have hSW41 := hSW24.ext hb37
          refine WL.nil (WH.ret hSW41 ?_)
          refine WH.takex (i := 9) rfl (by kernel_rfl) (by kernel_rfl) (by kernel_rfl) hP hSW41 ?_
          refine pr_not rfl rfl ?_
          refine WH.done (by kernel_rfl) ?_
          refine fun a ha => hK19 _ _ ?_ a ha
          refine W.cond rfl (fun h42 => ?_) (fun h42 => ?_)
          · replace hF := ifP h42 hF
            refine W.seq fun K43 hK43 => ?_
            refine W.region ?_
            refine wl_assign rfl rfl ?_
            refine WL.nil ?_
            refine fun a ha => hK43 _ _ ?_ a ha
            refine W.ret ?_
            have hr := Option.some.inj hF
            subst hr
            exact rets (vs := [(.bool false)]) hQ rfl ⟨rv_tmp rfl, trivial⟩ ⟨rfl, hB38⟩
          · replace hF := ifN h42 hF
            refine W.skip ?_
            refine fun a ha => hK18 _ _ ?_ a ha
            refine W.region ?_
            refine wl_move rfl rfl ?_
            refine wl_add rfl rfl rfl ?_
            refine wl_assign rfl rfl ?_
            refine WL.nil ?_
            rw [hnx12] at hF
            exact fun a ha => hKL13 a _ m14 (Nat.lt_succ_self m14) ⟨(w64 (y11 + 1)), ha.sub ⟨rfl, rfl, rfl, trivial⟩, hB38, (hS39.sel [] rfl), hF⟩
        · replace hF := ifN h17 hF
          refine W.exit ?_
          refine fun a ha => hK6 _ _ ?_ a ha
          refine W.seq fun K44 hK44 => ?_
          refine W.region ?_
          refine wl_assign rfl rfl ?_
          refine WL.nil ?_
          refine fun a ha => hK44 _ _ ?_ a ha
          refine W.ret ?_
          have hr := Option.some.inj hF
          subst hr
          exact rets (vs := [(.bool true)]) hQ rfl ⟨rv_tmp rfl, trivial⟩ ⟨rfl, hB9⟩
theorem C_laws_eqShow (w0 : World) (x0 : ((List (List (Int × Int))) × (List Int) × Int × Int)) (v0_0 : Value) (h0_0 : rdS ty_82 (· < w0.heap.size) w0 v0_0 x0.1) (v0_1 : Value) (h0_1 : rdS ty_3 (· < w0.heap.size) w0 v0_1 x0.2.1) (x1 : ((List (List (Int × Int))) × (List Int) × Int × Int)) (v1_0 : Value) (h1_0 : rdS ty_82 (· < w0.heap.size) w0 v1_0 x1.1) (v1_1 : Value) (h1_1 : rdS ty_3 (· < w0.heap.size) w0 v1_1 x1.2.1) (r : Bool) (hF : F_laws_eqShow x0 x1 = some r) :
    Calls Try.prog 37 [(.agg #[v0_0, v0_1, (.int .i64 x0.2.2.1), (.int .i64 x0.2.2.2)]), (.agg #[v1_0, v1_1, (.int .i64 x1.2.2.1), (.int .i64 x1.2.2.2)])].toArray w0 fun e w' => e = .returned (.bool r) ∧ Below w0.heap.size w0 w' := by
  refine calls_mk' Try.func37 rfl Try.ntmps37 rfl rfl fun Q hQ hP => ?_
  have hB : Below w0.heap.size w0 w0 := Below.refl _ _
  have hS : Sep w0.heap.size w0 [] := Sep.nil _ _
  unfold F_laws_eqShow at hF
  refine W.seq fun K1 hK1 => ?_
  refine W.region ?_
  refine wl_box (cs := [v0_0, v0_1, (.int .i64 x0.2.2.1), (.int .i64 x0.2.2.2)]) rfl rfl rfl hB hS ?_
  intro b2 w3 hb4 hB5 hS6
  refine wl_box (cs := [v1_0, v1_1, (.int .i64 x1.2.2.1), (.int .i64 x1.2.2.2)]) rfl rfl rfl hB5 hS6 ?_
  intro b7 w8 hb9 hB10 hS11
  refine wl_assign rfl rfl ?_
  refine WL.nil ?_
  refine fun a ha => hK1 _ _ ?_ a ha
  refine W.seq fun K12 hK12 => ?_
  refine W.seq fun K13 hK13 => ?_
  refine W.region ?_
  refine wl_field (o := 0) (off' := 0) ff_42_0 rfl rfl rfl ?_
  refine wl_load_blk (i := 1) (vs := [v0_0]) (v := v0_0) tf_40 rfl rfl hS11 rfl rfl rfl ?_
  refine wl_field (o := 0) (off' := 0) ff_42_0 rfl rfl rfl ?_
  refine wl_load_blk (i := 0) (vs := [v1_0]) (v := v1_0) tf_40 rfl rfl hS11 rfl rfl rfl ?_
  obtain ⟨u14, hu14, hF⟩ := bindE hF
  refine wl_call rfl Try.call75 (C_laws_eqSpotSS w8 x0.1 v0_0 (h0_0.ro hB10) x1.1 v1_0 (h1_0.ro hB10) _ hu14) rfl ?_
  rintro _ w15 ⟨rfl, hb16⟩
  refine ⟨_, rfl, ?_⟩
  have hB17 := hB10.trans (hb16.mono hB10.size)
  have hS18 := hS11.below hb16
  refine wl_not rfl rfl ?_
  refine WL.nil ?_
  refine fun a ha => hK13 _ _ ?_ a ha
  refine W.cond rfl (fun h20 => ?_) (fun h20 => ?_)
  · replace hF := ifP h20 hF
    refine W.seq fun K21 hK21 => ?_
    refine W.region ?_
    refine wl_assign rfl rfl ?_
    refine WL.nil ?_
    refine fun a ha => hK21 _ _ ?_ a ha
    refine W.ret ?_
    have hr := Option.some.inj hF
    subst hr
    exact rets (vs := [(.bool false)]) hQ rfl ⟨rv_tmp rfl, trivial⟩ ⟨rfl, hB17⟩
  · replace hF := ifN h20 hF
    refine W.skip ?_
    refine fun a ha => hK12 _ _ ?_ a ha
    refine W.seq fun K22 hK22 => ?_
    refine W.seq fun K23 hK23 => ?_
    refine W.region ?_
    refine wl_field (o := 1) (off' := 1) ff_42_1 rfl rfl rfl ?_
    refine wl_load_blk (i := 1) (vs := [v0_1]) (v := v0_1) tf_24 rfl rfl hS18 rfl rfl rfl ?_
    refine wl_field (o := 1) (off' := 1) ff_42_1 rfl rfl rfl ?_
    refine wl_load_blk (i := 0) (vs := [v1_1]) (v := v1_1) tf_24 rfl rfl hS18 rfl rfl rfl ?_
    obtain ⟨u24, hu24, hF⟩ := bindE hF
    refine wl_call rfl Try.call10 (C_laws_eqIntS w15 x0.2.1 v0_1 (h0_1.ro hB17) x1.2.1 v1_1 (h1_1.ro hB17) _ hu24) rfl ?_
    rintro _ w25 ⟨rfl, hb26⟩
    refine ⟨_, rfl, ?_⟩
    have hB27 := hB17.trans (hb26.mono hB17.size)
    have hS28 := hS18.below hb26
    refine wl_not rfl rfl ?_
    refine WL.nil ?_
    refine fun a ha => hK23 _ _ ?_ a ha
    refine W.cond rfl (fun h30 => ?_) (fun h30 => ?_)
    · replace hF := ifP h30 hF
      refine W.seq fun K31 hK31 => ?_
      refine W.region ?_
      refine wl_assign rfl rfl ?_
      refine WL.nil ?_
      refine fun a ha => hK31 _ _ ?_ a ha
      refine W.ret ?_
      have hr := Option.some.inj hF
      subst hr
      exact rets (vs := [(.bool false)]) hQ rfl ⟨rv_tmp rfl, trivial⟩ ⟨rfl, hB27⟩
    · replace hF := ifN h30 hF
      refine W.skip ?_
      refine fun a ha => hK22 _ _ ?_ a ha
      refine W.seq fun K32 hK32 => ?_
      refine W.seq fun K33 hK33 => ?_
      refine W.region ?_
      refine wl_field (o := 2) (off' := 2) ff_42_2 rfl rfl rfl ?_
      refine wl_load_blk (i := 1) (vs := [(.int .i64 x0.2.2.1)]) (v := (.int .i64 x0.2.2.1)) tf_3 rfl rfl hS28 rfl rfl rfl ?_
      refine wl_field (o := 2) (off' := 2) ff_42_2 rfl rfl rfl ?_
      refine wl_load_blk (i := 0) (vs := [(.int .i64 x1.2.2.1)]) (v := (.int .i64 x1.2.2.1)) tf_3 rfl rfl hS28 rfl rfl rfl ?_
      refine wl_neq rfl rfl rfl ?_
      refine WL.nil ?_
      refine fun a ha => hK33 _ _ ?_ a ha
      refine W.cond rfl (fun h34 => ?_) (fun h34 => ?_)
      · replace hF := ifP h34 hF
        refine W.seq fun K35 hK35 => ?_
        refine W.region ?_
        refine wl_assign rfl rfl ?_
        refine WL.nil ?_
        refine fun a ha => hK35 _ _ ?_ a ha
        refine W.ret ?_
        have hr := Option.some.inj hF
        subst hr
        exact rets (vs := [(.bool false)]) hQ rfl ⟨rv_tmp rfl, trivial⟩ ⟨rfl, hB27⟩
      · replace hF := ifN h34 hF
        refine W.skip ?_
        refine fun a ha => hK32 _ _ ?_ a ha
        refine W.seq fun K36 hK36 => ?_
        refine W.seq fun K37 hK37 => ?_
        refine W.region ?_
        refine wl_field (o := 3) (off' := 3) ff_42_3 rfl rfl rfl ?_
        refine wl_load_blk (i := 1) (vs := [(.int .i64 x0.2.2.2)]) (v := (.int .i64 x0.2.2.2)) tf_3 rfl rfl hS28 rfl rfl rfl ?_
        refine wl_field (o := 3) (off' := 3) ff_42_3 rfl rfl rfl ?_
        refine wl_load_blk (i := 0) (vs := [(.int .i64 x1.2.2.2)]) (v := (.int .i64 x1.2.2.2)) tf_3 rfl rfl hS28 rfl rfl rfl ?_
        refine wl_neq rfl rfl rfl ?_
        refine WL.nil ?_
        refine fun a ha => hK37 _ _ ?_ a ha
        refine W.cond rfl (fun h38 => ?_) (fun h38 => ?_)
        · replace hF := ifP h38 hF
          refine W.seq fun K39 hK39 => ?_
          refine W.region ?_
          refine wl_assign rfl rfl ?_
          refine WL.nil ?_
          refine fun a ha => hK39 _ _ ?_ a ha
          refine W.ret ?_
          have hr := Option.some.inj hF
          subst hr
          exact rets (vs := [(.bool false)]) hQ rfl ⟨rv_tmp rfl, trivial⟩ ⟨rfl, hB27⟩
        · replace hF := ifN h38 hF
          refine W.skip ?_
          refine fun a ha => hK36 _ _ ?_ a ha
          refine W.seq fun K40 hK40 => ?_
          refine W.region ?_
          refine wl_assign rfl rfl ?_
          refine WL.nil ?_
          refine fun a ha => hK40 _ _ ?_ a ha
          refine W.ret ?_
          have hr := Option.some.inj hF
          subst hr
          exact rets (vs := [(.bool true)]) hQ rfl ⟨rv_tmp rfl, trivial⟩ ⟨rfl, hB27⟩
theorem C_laws_eqShowS (w0 : World) (x0 : (List ((List (List (Int × Int))) × (List Int) × Int × Int))) (v0_0 : Value) (h0_0 : rdS ty_42 (· < w0.heap.size) w0 v0_0 x0) (x1 : (List ((List (List (Int × Int))) × (List Int) × Int × Int))) (v1_0 : Value) (h1_0 : rdS ty_42 (· < w0.heap.size) w0 v1_0 x1) (r : Bool) (hF : F_laws_eqShowS x0 x1 = some r) :
    Calls Try.prog 11 [v0_0, v1_0].toArray w0 fun e w' => e = .returned (.bool r) ∧ Below w0.heap.size w0 w' := by
  refine calls_mk' Try.func11 rfl Try.ntmps11 rfl rfl fun Q hQ hP => ?_
  have hB : Below w0.heap.size w0 w0 := Below.refl _ _
  have hS : Sep w0.heap.size w0 [] := Sep.nil _ _
  unfold F_laws_eqShowS at hF
  refine W.seq fun K1 hK1 => ?_
  refine W.region ?_
  refine wl_assign rfl rfl ?_
  refine WL.nil ?_
  refine fun a ha => hK1 _ _ ?_ a ha
  refine W.seq fun K2 hK2 => ?_
  refine W.seq fun K3 hK3 => ?_
  refine W.region ?_
  refine wl_move rfl rfl ?_
  refine wl_lenr (e := ty_42) (l := x0) Try.underlying27 rfl rfl h0_0 ?_
  refine wl_move rfl rfl ?_
  refine wl_lenr (e := ty_42) (l := x1) Try.underlying27 rfl rfl h1_0 ?_
  refine wl_neq rfl rfl rfl ?_
  refine WL.nil ?_
  refine fun a ha => hK3 _ _ ?_ a ha
  refine W.cond rfl (fun h4 => ?_) (fun h4 => ?_)
  · replace hF := ifP h4 hF
    refine W.seq fun K5 hK5 => ?_
    refine W.region ?_
    refine wl_assign rfl rfl ?_
    refine WL.nil ?_
    refine fun a ha => hK5 _ _ ?_ a ha
    refine W.ret ?_
    have hr := Option.some.inj hF
    subst hr
    exact rets (vs := [(.bool false)]) hQ rfl ⟨rv_tmp rfl, trivial⟩ ⟨rfl, hB⟩
  · replace hF := ifN h4 hF
    refine W.skip ?_
    refine fun a ha => hK2 _ _ ?_ a ha
    refine W.seq fun K6 hK6 => ?_
    refine W.seq fun K7 hK7 => ?_
    refine W.region ?_
    refine wl_assign rfl rfl ?_
    refine WL.nil ?_
    refine fun a ha => hK7 _ _ ?_ a ha
    refine W.block ?_
    refine W.loopk (fun m a w8 => ∃ (y11 : Int), St 27 [(0, v0_0), (1, v1_0), (5, (.int .i64 y11))] a ∧ Below w0.heap.size w0 w8 ∧ Sep w0.heap.size w8 [] ∧ F_laws_eqShowS_L1 x0 x1 m y11 = some r) FU ?_ ?_
    ·
      exact fun a ha => ⟨0, ha.sub ⟨rfl, rfl, rfl, trivial⟩, hB, (hS.sel [] rfl), hF⟩
    ·
      rintro m14 a w8 ⟨y11, ha, hB9, hS10, hF⟩ KL13 hKL13
      refine W.at ?_ ha
      cases m14 with
      | zero => exact noneE hF
      | succ m14 =>
        obtain ⟨nx12, hnx12⟩ : ∃ k, k = F_laws_eqShowS_L1 x0 x1 m14 := ⟨_, rfl⟩
        rw [F_laws_eqShowS_L1, ← hnx12] at hF
        refine W.seq fun K15 hK15 => ?_
        refine W.seq fun K16 hK16 => ?_
        refine W.region ?_
        refine wl_move rfl rfl ?_
        refine wl_move rfl rfl ?_
        refine wl_lenr (e := ty_42) (l := x0) Try.underlying27 rfl rfl h0_0 ?_
        refine wl_lss rfl rfl rfl ?_
        refine WL.nil ?_
        refine fun a ha => hK16 _ _ ?_ a ha
        refine W.cond rfl (fun h17 => ?_) (fun h17 => ?_)
        · replace hF := ifP h17 hF
          refine W.skip ?_
          refine fun a ha => hK15 _ _ ?_ a ha
          refine W.seq fun K18 hK18 => ?_
          refine W.block ?_
          refine W.seq fun K19 hK19 => ?_
          refine W.regionH mixed_ [] hB9 hS10 ?_
          intro w20 hb21 hB22 hS23
          have hSW24 := KeepX.refl w20 []
          refine WH.takex (i := 0) rfl (by kernel_rfl) (by kernel_rfl) (by kernel_rfl) hP hSW24 ?_
          refine pr_move rfl rfl ?_
          refine WH.takex (i := 1) rfl (by kernel_rfl) (by kernel_rfl) (by kernel_rfl) hP hSW24 ?_
          refine pr_move rfl rfl ?_
          obtain ⟨u25, hu25, hF⟩ := bindE hF
          refine WH.takex (i := 2) rfl (by kernel_rfl) (by kernel_rfl) (by kernel_rfl) hP hSW24 ?_
          refine pr_index (e := ty_42) Try.underlying27 rfl rfl rfl h0_0 hu25 ?_
          rintro p26 _ ⟨_, _, rfl, ⟨v28, rfl, hv29⟩, ⟨_, _, rfl, ⟨v30, rfl, hv31⟩, ⟨_, _, rfl, rfl, rfl⟩⟩⟩ hp27
          refine WH.takex (i := 3) rfl (by kernel_rfl) (by kernel_rfl) (by kernel_rfl) hP hSW24 ?_
          refine pr_load_p (vs := [v28, v30, (.int .i64 u25.2.2.1), (.int .i64 u25.2.2.2)]) (v := (.agg #[v28, v30, (.int .i64 u25.2.2.1), (.int .i64 u25.2.2.2)])) tf_42 rfl rfl (hp27.kx hB22 (by simp)) rfl rfl ?_
          refine WH.takex (i := 4) rfl (by kernel_rfl) (by kernel_rfl) (by kernel_rfl) hP hSW24 ?_
          refine pr_move rfl rfl ?_
          refine WH.takex (i := 5) rfl (by kernel_rfl) (by kernel_rfl) (by kernel_rfl) hP hSW24 ?_
          refine pr_move rfl rfl ?_
          obtain ⟨u32, hu32, hF⟩ := bindE hF
          refine WH.takex (i := 6) rfl (by kernel_rfl) (by kernel_rfl) (by kernel_rfl) hP hSW24 ?_
          refine pr_index (e := ty_42) Try.underlying27 rfl rfl rfl h1_0 hu32 ?_
          rintro p33 _ ⟨_, _, rfl, ⟨v35, rfl, hv36⟩, ⟨_, _, rfl, ⟨v37, rfl, hv38⟩, ⟨_, _, rfl, rfl, rfl⟩⟩⟩ hp34
          refine WH.takex (i := 7) rfl (by kernel_rfl) (by kernel_rfl) (by kernel_rfl) hP hSW24 ?_
          refine pr_load_p (vs := [v35, v37, (.int .i64 u32.2.2.1), (.int .i64 u32.2.2.2)]) (v := (.agg #[v35, v37, (.int .i64 u32.2.2.1), (.int .i64 u32.2.2.2)])) tf_42 rfl rfl (hp34.kx hB22 (by simp)) rfl rfl ?_
          refine WH.one (i := 8) (by kernel_rfl) rfl ?_
          obtain ⟨u39, hu39, hF⟩ := bindE hF
          refine wl_call rfl Try.call37 (C_laws_eqShow w20 u25 v28 (hv29.ro hB22) v30 (hv31.ro hB22) u32 v35 (hv36.ro hB22) v37 (hv38.ro hB22) _ hu39) rfl ?_
          rintro _ w40 ⟨rfl, hb41⟩
          refine ⟨_, rfl, ?_⟩
          have hB42 := hB22.trans (hb41.mono hB22.size)
          have hS43 := hS23.below hb41
          have hSW45 := hSW24.ext hb41
          refine WL.nil (WH.ret hSW45 ?_)
          refine WH.takex (i := 9) rfl (by kernel_rfl) (by kernel_rfl) (by kernel_rfl) hP hSW45 ?_
          refine pr_not rfl rfl ?_
          refine WH.done (by kernel_rfl) ?_
          refine fun a ha => hK19 _ _ ?_ a ha
          refine W.cond rfl (fun h46 => ?_) (fun h46 => ?_)
          · replace hF := ifP h46 hF
            refine W.seq fun K47 hK47 => ?_
            refine W.region ?_
            refine wl_assign rfl rfl ?_
            refine WL.nil ?_
            refine fun a ha => hK47 _ _ ?_ a ha
            refine W.ret ?_
            have hr := Option.some.inj hF
            subst hr
            exact rets (vs := [(.bool false)]) hQ rfl ⟨rv_tmp rfl, trivial⟩ ⟨rfl, hB42⟩
          · replace hF := ifN h46 hF
            refine W.skip ?_
            refine fun a ha => hK18 _ _ ?_ a ha
            refine W.region ?_
            refine wl_move rfl rfl ?_
            refine wl_add rfl rfl rfl ?_
            refine wl_assign rfl rfl ?_
            refine WL.nil ?_
            rw [hnx12] at hF
            exact fun a ha => hKL13 a _ m14 (Nat.lt_succ_self m14) ⟨(w64 (y11 + 1)), ha.sub ⟨rfl, rfl, rfl, trivial⟩, hB42, (hS43.sel [] rfl), hF⟩
        · replace hF := ifN h17 hF
          refine W.exit ?_
          refine fun a ha => hK6 _ _ ?_ a ha
          refine W.seq fun K48 hK48 => ?_
          refine W.region ?_
          refine wl_assign rfl rfl ?_
          refine WL.nil ?_
          refine fun a ha => hK48 _ _ ?_ a ha
          refine W.ret ?_
          have hr := Option.some.inj hF
          subst hr
          exact rets (vs := [(.bool true)]) hQ rfl ⟨rv_tmp rfl, trivial⟩ ⟨rfl, hB9⟩
theorem C_laws_markSpotS (w0 : World) (x0 : (List (Int × Int))) (v0_0 : Value) (B0_0 : List Nat) (x1 : Int) (hS0 : Sep 0 w0 [R.own ty_106 B0_0 v0_0 x0]) (r : (Int × (List (Int × Int)))) (hF : F_laws_markSpotS x0 x1 = some r) :
    Calls Try.prog 76 [v0_0, (.int .i64 x1)].toArray w0 fun e w' => e = .returned (.int .i64 r.1) ∧ Below 0 (wE w0) w' ∧ Sep 0 w' [R.rest w0 (fps [R.own ty_106 B0_0 v0_0 x0]), R.own ty_106 B0_0 v0_0 r.2] := by
  refine calls_mk' Try.func76 rfl Try.ntmps76 rfl rfl fun Q hQ hP => ?_
  have hB : Below (wE w0).heap.size (wE w0) w0 := wE_below w0
  have hS : Sep (wE w0).heap.size w0 [R.rest w0 (fps [R.own ty_106 B0_0 v0_0 x0]), R.own ty_106 B0_0 v0_0 x0] := hS0.rest
  unfold F_laws_markSpotS at hF
  refine W.seq fun K1 hK1 => ?_
  refine W.region ?_
  refine wl_assign rfl rfl ?_
  refine WL.nil ?_
  refine fun a ha => hK1 _ _ ?_ a ha
  refine W.seq fun K2 hK2 => ?_
  refine W.seq fun K3 hK3 => ?_
  refine W.region ?_
  refine wl_assign rfl rfl ?_
  refine WL.nil ?_
  refine fun a ha => hK3 _ _ ?_ a ha
  refine W.block ?_
  refine W.loopk (fun m a w4 => ∃ (l7 : (List (Int × Int))) (y8 : Int) (y9 : Int), St 27 [(0, v0_0), (1, (.int .i64 y8)), (5, (.int .i64 y9))] a ∧ Below (wE w0).heap.size (wE w0) w4 ∧ Sep (wE w0).heap.size w4 [R.rest w0 (fps [R.own ty_106 B0_0 v0_0 x0]), R.own ty_106 B0_0 v0_0 l7] ∧ F_laws_markSpotS_L1 m l7 y8 y9 = some r) FU ?_ ?_
  ·
    exact fun a ha => ⟨x0, x1, 0, ha.sub ⟨rfl, rfl, rfl, trivial⟩, hB, (hS.sel [0, 1] rfl), hF⟩
  ·
    rintro m12 a w4 ⟨l7, y8, y9, ha, hB5, hS6, hF⟩ KL11 hKL11
    refine W.at ?_ ha
    cases m12 with
    | zero => exact noneE hF
    | succ m12 =>
      obtain ⟨nx10, hnx10⟩ : ∃ k, k = F_laws_markSpotS_L1 m12 := ⟨_, rfl⟩
      rw [F_laws_markSpotS_L1, ← hnx10] at hF
      refine W.seq fun K13 hK13 => ?_
      refine W.seq fun K14 hK14 => ?_
      refine W.region ?_
      refine wl_move rfl rfl ?_
      refine wl_move rfl rfl ?_
      refine wl_lenr (e := ty_106) (l := l7) Try.underlying82 rfl rfl (hS6.own_ro (i := 1) rfl) ?_
      refine wl_lss rfl rfl rfl ?_
      refine WL.nil ?_
      refine fun a ha => hK14 _ _ ?_ a ha
      refine W.cond rfl (fun h15 => ?_) (fun h15 => ?_)
      · replace hF := ifP h15 hF
        refine W.skip ?_
        refine fun a ha => hK13 _ _ ?_ a ha
        refine W.seq fun K16 hK16 => ?_
        refine W.block ?_
        refine W.seq fun K17 hK17 => ?_
        refine W.region ?_
        refine wl_move rfl rfl ?_
        refine wl_move rfl rfl ?_
        refine wl_move rfl rfl ?_
        obtain ⟨u18, hu18, hF⟩ := bindE hF
        refine wl_indexo (e := ty_106) (i := 1) Try.underlying82 rfl rfl rfl hS6 rfl hu18 ?_
        rintro p19 _ rfl hp20 ho21
        refine wl_fieldp (o := 0) ff_106_0 rfl rfl ?_
        refine wl_storeo (i := 1) (o := 0) (vs := [(.int .i64 y8)]) (u' := (y8, u18.2)) fl_106 tf_3 rfl rfl rfl rfl ho21 hu18 hB5 hS6 rfl rfl ⟨rfl, trivial⟩ rfl ?_
        intro w22 hk25 hB23 hS24
        refine WL.nil ?_
        refine fun a ha => hK17 _ _ ?_ a ha
        refine W.seq fun K26 hK26 => ?_
        refine W.region ?_
        refine wl_move rfl rfl ?_
        refine wl_add rfl rfl rfl ?_
        refine wl_assign rfl rfl ?_
        refine WL.nil ?_
        refine fun a ha => hK26 _ _ ?_ a ha
        refine W.seq fun K27 hK27 => ?_
        refine W.region ?_
        refine wl_move rfl rfl ?_
        refine wl_move rfl rfl ?_
        refine wl_move rfl rfl ?_
        obtain ⟨u28, hu28, hF⟩ := bindE hF
        refine wl_indexo (e := ty_106) (i := 1) Try.underlying82 rfl rfl rfl hS24 rfl hu28 ?_
        rintro p29 _ rfl hp30 ho31
        refine wl_fieldp (o := 1) ff_106_1 rfl rfl ?_
        refine wl_storeo (i := 1) (o := 1) (vs := [(.int .i64 (w64 (y8 + 1)))]) (u' := (u28.1, (w64 (y8 + 1)))) fl_106 tf_3 rfl rfl rfl rfl (ho31.add 1) hu28 hB23 hS24 rfl rfl ⟨rfl, trivial⟩ rfl ?_
        intro w32 hk35 hB33 hS34
        refine WL.nil ?_
        refine fun a ha => hK27 _ _ ?_ a ha
        refine W.region ?_
        refine wl_move rfl rfl ?_
        refine wl_add rfl rfl rfl ?_
        refine wl_assign rfl rfl ?_
        refine WL.nil ?_
        refine fun a ha => hK16 _ _ ?_ a ha
        refine W.region ?_
        refine wl_move rfl rfl ?_
        refine wl_add rfl rfl rfl ?_
        refine wl_assign rfl rfl ?_
        refine WL.nil ?_
        rw [hnx10] at hF
        exact fun a ha => hKL11 a _ m12 (Nat.lt_succ_self m12) ⟨(seti (seti l7 y9 (y8, u18.2)) y9 (u28.1, (w64 (y8 + 1)))), (w64 ((w64 (y8 + 1)) + 1)), (w64 (y9 + 1)), ha.sub ⟨rfl, rfl, rfl, trivial⟩, hB33, (hS34.sel [0, 1] rfl), hF⟩
      · replace hF := ifN h15 hF
        refine W.exit ?_
        refine fun a ha => hK2 _ _ ?_ a ha
        refine W.seq fun K36 hK36 => ?_
        refine W.region ?_
        refine wl_move rfl rfl ?_
        refine wl_assign rfl rfl ?_
        refine WL.nil ?_
        refine fun a ha => hK36 _ _ ?_ a ha
        refine W.ret ?_
        have hr := Option.some.inj hF
        subst hr
        exact rets (vs := [(.int .i64 y8)]) hQ rfl ⟨rv_tmp rfl, trivial⟩ ⟨rfl, hB5, hS6.sel [0, 1] rfl⟩
theorem C_laws_markSpotSS (w0 : World) (x0 : (List (List (Int × Int)))) (v0_0 : Value) (B0_0 : List Nat) (x1 : Int) (hS0 : Sep 0 w0 [R.own ty_82 B0_0 v0_0 x0]) (r : (Int × (List (List (Int × Int))))) (hF : F_laws_markSpotSS x0 x1 = some r) :
    Calls Try.prog 38 [v0_0, (.int .i64 x1)].toArray w0 fun e w' => e = .returned (.int .i64 r.1) ∧ Below 0 (wE w0) w' ∧ Sep 0 w' [R.rest w0 (fps [R.own ty_82 B0_0 v0_0 x0]), R.own ty_82 B0_0 v0_0 r.2] := by
  refine calls_mk' Try.func38 rfl Try.ntmps38 rfl rfl fun Q hQ hP => ?_
  have hB : Below (wE w0).heap.size (wE w0) w0 := wE_below w0
  have hS : Sep (wE w0).heap.size w0 [R.rest w0 (fps [R.own ty_82 B0_0 v0_0 x0]), R.own ty_82 B0_0 v0_0 x0] := hS0.rest
  unfold F_laws_markSpotSS at hF
  refine W.seq fun K1 hK1 => ?_
  refine W.region ?_
  refine wl_assign rfl rfl ?_
  refine WL.nil ?_
  refine fun a ha => hK1 _ _ ?_ a ha
  refine W.seq fun K2 hK2 => ?_
  refine W.seq fun K3 hK3 => ?_
  refine W.region ?_
  refine wl_assign rfl rfl ?_
  refine WL.nil ?_
  refine fun a ha => hK3 _ _ ?_ a ha
  refine W.block ?_
  refine W.loopk (fun m a w4 => ∃ (l7 : (List (List (Int × Int)))) (y8 : Int) (y9 : Int), St 19 [(0, v0_0), (1, (.int .i64 y8)), (5, (.int .i64 y9))] a ∧ Below (wE w0).heap.size (wE w0) w4 ∧ Sep (wE w0).heap.size w4 [R.rest w0 (fps [R.own ty_82 B0_0 v0_0 x0]), R.own ty_82 B0_0 v0_0 l7] ∧ F_laws_markSpotSS_L1 m l7 y8 y9 = some r) FU ?_ ?_
  ·
    exact fun a ha => ⟨x0, x1, 0, ha.sub ⟨rfl, rfl, rfl, trivial⟩, hB, (hS.sel [0, 1] rfl), hF⟩
  ·
    rintro m12 a w4 ⟨l7, y8, y9, ha, hB5, hS6, hF⟩ KL11 hKL11
    refine W.at ?_ ha
    cases m12 with
    | zero => exact noneE hF
    | succ m12 =>
      obtain ⟨nx10, hnx10⟩ : ∃ k, k = F_laws_markSpotSS_L1 m12 := ⟨_, rfl⟩
      rw [F_laws_markSpotSS_L1, ← hnx10] at hF
      refine W.seq fun K13 hK13 => ?_
      refine W.seq fun K14 hK14 => ?_
      refine W.region ?_
      refine wl_move rfl rfl ?_
      refine wl_move rfl rfl ?_
      refine wl_lenr (e := ty_82) (l := l7) Try.underlying40 rfl rfl (hS6.own_ro (i := 1) rfl) ?_
      refine wl_lss rfl rfl rfl ?_
      refine WL.nil ?_
      refine fun a ha => hK14 _ _ ?_ a ha
      refine W.cond rfl (fun h15 => ?_) (fun h15 => ?_)
      · replace hF := ifP h15 hF
        refine W.skip ?_
        refine fun a ha => hK13 _ _ ?_ a ha
        refine W.seq fun K16 hK16 => ?_
        refine W.block ?_
        refine W.region ?_
        refine wl_move rfl rfl ?_
        refine wl_move rfl rfl ?_
        obtain ⟨u17, hu17, hF⟩ := bindE hF
        refine wl_indexo (e := ty_82) (i := 1) Try.underlying40 rfl rfl rfl hS6 rfl hu17 ?_
        rintro p18 _ ⟨v20, rfl, hv21⟩ hp19 ho22
        refine wl_load_p (vs := [v20]) (v := v20) tf_82 rfl rfl hp19 rfl rfl ?_
        refine wl_move rfl rfl ?_
        obtain ⟨F23, hS24, hq25, hq26⟩ := (hS6.sel [1, 0] rfl).borrow (e := ty_82) (F := B0_0) (v := v0_0) (l := l7) hu17 ho22 hp19 rfl
        have hS27 : Sep (wE w0).heap.size w4 [R.own ty_106 F23 v20 u17, R.hole ty_82 B0_0 F23 v0_0 l7 y9.toNat [v20], R.rest w0 (fps [R.own ty_82 B0_0 v0_0 x0])] := hS24.head rfl fun _ h => by obtain ⟨_, h1, h2⟩ := h; cases h1; exact h2
        obtain ⟨u28, hu28, hF⟩ := bindE hF
        refine wl_call rfl Try.call76 (C_laws_markSpotS w4 u17 v20 F23 y8 (hS27.sel [0] rfl).base0 _ hu28) rfl ?_
        rintro _ w29 ⟨rfl, hE30, hM31⟩
        refine ⟨_, rfl, ?_⟩
        have hB32 := hS27.mutB [0] rfl (M := [R.own ty_106 F23 v20 u17]) rfl (M' := [R.own ty_106 F23 v20 u28.2]) rfl hB5 hB5.size hE30 hM31
        have hS33 : Sep (wE w0).heap.size w29 [R.own ty_106 F23 v20 u28.2, R.hole ty_82 B0_0 F23 v0_0 l7 y9.toNat [v20], R.rest w0 (fps [R.own ty_82 B0_0 v0_0 x0])] := hS27.mut [0] [1, 2] rfl (M := [R.own ty_106 F23 v20 u17]) rfl (M' := [R.own ty_106 F23 v20 u28.2]) rfl hM31
        have hS34 := hS33.head (r' := R.cel ty_82 F23 [v20] u28.2) rfl fun _ h => ⟨_, rfl, h⟩
        have hS35 : Sep (wE w0).heap.size w29 [R.own ty_82 B0_0 v0_0 (seti l7 y9 u28.2), R.rest w0 (fps [R.own ty_82 B0_0 v0_0 x0])] := hS34.unborrow hq25 hq26
        refine wl_assign rfl rfl ?_
        refine WL.nil ?_
        refine fun a ha => hK16 _ _ ?_ a ha
        refine W.region ?_
        refine wl_move rfl rfl ?_
        refine wl_add rfl rfl rfl ?_
        refine wl_assign rfl rfl ?_
        refine WL.nil ?_
        rw [hnx10] at hF
        exact fun a ha => hKL11 a _ m12 (Nat.lt_succ_self m12) ⟨(seti l7 y9 u28.2), u28.1, (w64 (y9 + 1)), ha.sub ⟨rfl, rfl, rfl, trivial⟩, hB32, (hS35.sel [1, 0] rfl), hF⟩
      · replace hF := ifN h15 hF
        refine W.exit ?_
        refine fun a ha => hK2 _ _ ?_ a ha
        refine W.seq fun K36 hK36 => ?_
        refine W.region ?_
        refine wl_move rfl rfl ?_
        refine wl_assign rfl rfl ?_
        refine WL.nil ?_
        refine fun a ha => hK36 _ _ ?_ a ha
        refine W.ret ?_
        have hr := Option.some.inj hF
        subst hr
        exact rets (vs := [(.int .i64 y8)]) hQ rfl ⟨rv_tmp rfl, trivial⟩ ⟨rfl, hB5, hS6.sel [0, 1] rfl⟩
theorem C_laws_markIntS (w0 : World) (x0 : (List Int)) (v0_0 : Value) (B0_0 : List Nat) (x1 : Int) (hS0 : Sep 0 w0 [R.own ty_3 B0_0 v0_0 x0]) (r : (Int × (List Int))) (hF : F_laws_markIntS x0 x1 = some r) :
    Calls Try.prog 13 [v0_0, (.int .i64 x1)].toArray w0 fun e w' => e = .returned (.int .i64 r.1) ∧ Below 0 (wE w0) w' ∧ Sep 0 w' [R.rest w0 (fps [R.own ty_3 B0_0 v0_0 x0]), R.own ty_3 B0_0 v0_0 r.2] := by
  refine calls_mk' Try.func13 rfl Try.ntmps13 rfl rfl fun Q hQ hP => ?_
  have hB : Below (wE w0).heap.size (wE w0) w0 := wE_below w0
  have hS : Sep (wE w0).heap.size w0 [R.rest w0 (fps [R.own ty_3 B0_0 v0_0 x0]), R.own ty_3 B0_0 v0_0 x0] := hS0.rest
  unfold F_laws_markIntS at hF
  refine W.seq fun K1 hK1 => ?_
  refine W.region ?_
  refine wl_assign rfl rfl ?_
  refine WL.nil ?_
  refine fun a ha => hK1 _ _ ?_ a ha
  refine W.seq fun K2 hK2 => ?_
  refine W.seq fun K3 hK3 => ?_
  refine W.region ?_
  refine wl_assign rfl rfl ?_
  refine WL.nil ?_
  refine fun a ha => hK3 _ _ ?_ a ha
  refine W.block ?_
  refine W.loopk (fun m a w4 => ∃ (l7 : (List Int)) (y8 : Int) (y9 : Int), St 19 [(0, v0_0), (1, (.int .i64 y8)), (5, (.int .i64 y9))] a ∧ Below (wE w0).heap.size (wE w0) w4 ∧ Sep (wE w0).heap.size w4 [R.rest w0 (fps [R.own ty_3 B0_0 v0_0 x0]), R.own ty_3 B0_0 v0_0 l7] ∧ F_laws_markIntS_L1 m l7 y8 y9 = some r) FU ?_ ?_
  ·
    exact fun a ha => ⟨x0, x1, 0, ha.sub ⟨rfl, rfl, rfl, trivial⟩, hB, (hS.sel [0, 1] rfl), hF⟩
  ·
    rintro m12 a w4 ⟨l7, y8, y9, ha, hB5, hS6, hF⟩ KL11 hKL11
    refine W.at ?_ ha
    cases m12 with
    | zero => exact noneE hF
    | succ m12 =>
      obtain ⟨nx10, hnx10⟩ : ∃ k, k = F_laws_markIntS_L1 m12 := ⟨_, rfl⟩
      rw [F_laws_markIntS_L1, ← hnx10] at hF
      refine W.seq fun K13 hK13 => ?_
      refine W.seq fun K14 hK14 => ?_
      refine W.region ?_
      refine wl_move rfl rfl ?_
      refine wl_move rfl rfl ?_
      refine wl_lenr (e := ty_3) (l := l7) Try.underlying24 rfl rfl (hS6.own_ro (i := 1) rfl) ?_
      refine wl_lss rfl rfl rfl ?_
      refine WL.nil ?_
      refine fun a ha => hK14 _ _ ?_ a ha
      refine W.cond rfl (fun h15 => ?_) (fun h15 => ?_)
      · replace hF := ifP h15 hF
        refine W.skip ?_
        refine fun a ha => hK13 _ _ ?_ a ha
        refine W.seq fun K16 hK16 => ?_
        refine W.block ?_
        refine W.seq fun K17 hK17 => ?_
        refine W.region ?_
        refine wl_move rfl rfl ?_
        refine wl_move rfl rfl ?_
        refine wl_move rfl rfl ?_
        obtain ⟨u18, hu18, hF⟩ := bindE hF
        refine wl_indexo (e := ty_3) (i := 1) Try.underlying24 rfl rfl rfl hS6 rfl hu18 ?_
        rintro p19 _ rfl hp20 ho21
        refine wl_storeo (i := 1) (o := 0) (vs := [(.int .i64 y8)]) (u' := y8) fl_3 tf_3 rfl rfl rfl rfl ho21 hu18 hB5 hS6 rfl rfl ⟨rfl, trivial⟩ rfl ?_
        intro w22 hk25 hB23 hS24
        refine WL.nil ?_
        refine fun a ha => hK17 _ _ ?_ a ha
        refine W.region ?_
        refine wl_move rfl rfl ?_
        refine wl_add rfl rfl rfl ?_
        refine wl_assign rfl rfl ?_
        refine WL.nil ?_
        refine fun a ha => hK16 _ _ ?_ a ha
        refine W.region ?_
        refine wl_move rfl rfl ?_
        refine wl_add rfl rfl rfl ?_
        refine wl_assign rfl rfl ?_
        refine WL.nil ?_
        rw [hnx10] at hF
        exact fun a ha => hKL11 a _ m12 (Nat.lt_succ_self m12) ⟨(seti l7 y9 y8), (w64 (y8 + 1)), (w64 (y9 + 1)), ha.sub ⟨rfl, rfl, rfl, trivial⟩, hB23, (hS24.sel [0, 1] rfl), hF⟩
      · replace hF := ifN h15 hF
        refine W.exit ?_
        refine fun a ha => hK2 _ _ ?_ a ha
        refine W.seq fun K26 hK26 => ?_
        refine W.region ?_
        refine wl_move rfl rfl ?_
        refine wl_assign rfl rfl ?_
        refine WL.nil ?_
        refine fun a ha => hK26 _ _ ?_ a ha
        refine W.ret ?_
        have hr := Option.some.inj hF
        subst hr
        exact rets (vs := [(.int .i64 y8)]) hQ rfl ⟨rv_tmp rfl, trivial⟩ ⟨rfl, hB5, hS6.sel [0, 1] rfl⟩
theorem C_laws_markShowS (w0 : World) (x0 : (List ((List (List (Int × Int))) × (List Int) × Int × Int))) (v0_0 : Value) (B0_0 : List Nat) (x1 : Int) (hS0 : Sep 0 w0 [R.own ty_42 B0_0 v0_0 x0]) (r : (Int × (List ((List (List (Int × Int))) × (List Int) × Int × Int)))) (hF : F_laws_markShowS x0 x1 = some r) :
    Calls Try.prog 12 [v0_0, (.int .i64 x1)].toArray w0 fun e w' => e = .returned (.int .i64 r.1) ∧ Below 0 (wE w0) w' ∧ Sep 0 w' [R.rest w0 (fps [R.own ty_42 B0_0 v0_0 x0]), R.own ty_42 B0_0 v0_0 r.2] := by
  refine calls_mk' Try.func12 rfl Try.ntmps12 rfl rfl fun Q hQ hP => ?_
  have hB : Below (wE w0).heap.size (wE w0) w0 := wE_below w0
  have hS : Sep (wE w0).heap.size w0 [R.rest w0 (fps [R.own ty_42 B0_0 v0_0 x0]), R.own ty_42 B0_0 v0_0 x0] := hS0.rest
  unfold F_laws_markShowS at hF
  refine W.seq fun K1 hK1 => ?_
  refine W.region ?_
  refine wl_assign rfl rfl ?_
  refine WL.nil ?_
  refine fun a ha => hK1 _ _ ?_ a ha
  refine W.seq fun K2 hK2 => ?_
  refine W.seq fun K3 hK3 => ?_
  refine W.region ?_
  refine wl_assign rfl rfl ?_
  refine WL.nil ?_
  refine fun a ha => hK3 _ _ ?_ a ha
  refine W.block ?_
  refine W.loopk (fun m a w4 => ∃ (l7 : (List ((List (List (Int × Int))) × (List Int) × Int × Int))) (y8 : Int) (y9 : Int), St 41 [(0, v0_0), (1, (.int .i64 y8)), (5, (.int .i64 y9))] a ∧ Below (wE w0).heap.size (wE w0) w4 ∧ Sep (wE w0).heap.size w4 [R.rest w0 (fps [R.own ty_42 B0_0 v0_0 x0]), R.own ty_42 B0_0 v0_0 l7] ∧ F_laws_markShowS_L1 m l7 y8 y9 = some r) FU ?_ ?_
  ·
    exact fun a ha => ⟨x0, x1, 0, ha.sub ⟨rfl, rfl, rfl, trivial⟩, hB, (hS.sel [0, 1] rfl), hF⟩
  ·
    rintro m12 a w4 ⟨l7, y8, y9, ha, hB5, hS6, hF⟩ KL11 hKL11
    refine W.at ?_ ha
    cases m12 with
    | zero => exact noneE hF
    | succ m12 =>
      obtain ⟨nx10, hnx10⟩ : ∃ k, k = F_laws_markShowS_L1 m12 := ⟨_, rfl⟩
      rw [F_laws_markShowS_L1, ← hnx10] at hF
      refine W.seq fun K13 hK13 => ?_
      refine W.seq fun K14 hK14 => ?_
      refine W.region ?_
      refine wl_move rfl rfl ?_
      refine wl_move rfl rfl ?_
      refine wl_lenr (e := ty_42) (l := l7) Try.underlying27 rfl rfl (hS6.own_ro (i := 1) rfl) ?_
      refine wl_lss rfl rfl rfl ?_
      refine WL.nil ?_
      refine fun a ha => hK14 _ _ ?_ a ha
      refine W.cond rfl (fun h15 => ?_) (fun h15 => ?_)
      · replace hF := ifP h15 hF
        refine W.skip ?_
        refine fun a ha => hK13 _ _ ?_ a ha
        refine W.seq fun K16 hK16 => ?_
        refine W.block ?_
        refine W.seq fun K17 hK17 => ?_
        refine W.region ?_
        refine wl_move rfl rfl ?_
        refine wl_move rfl rfl ?_
        obtain ⟨u18, hu18, hF⟩ := bindE hF
        refine wl_indexo (e := ty_42) (i := 1) Try.underlying27 rfl rfl rfl hS6 rfl hu18 ?_
        rintro p19 _ ⟨_, _, rfl, ⟨v21, rfl, hv22⟩, ⟨_, _, rfl, ⟨v23, rfl, hv24⟩, ⟨_, _, rfl, rfl, rfl⟩⟩⟩ hp20 ho25
        refine wl_fieldp (o := 0) ff_42_0 rfl rfl ?_
        refine wl_load_p (vs := [v21]) (v := v21) tf_40 rfl rfl (hp20.add 0) rfl rfl ?_
        refine wl_move rfl rfl ?_
        obtain ⟨F26, hS27, hq28, hq29⟩ := (hS6.sel [1, 0] rfl).borrow (e := ty_42) (F := B0_0) (v := v0_0) (l := l7) hu18 ho25 hp20 rfl
        obtain ⟨F31, F32, hq33, hz_1, hz_2⟩ : ∃ F1 F2, F26 = F1 ++ F2 ∧ ownS ty_82 F1 w4 v21 u18.1 ∧ ownS ty_3 F2 w4 v23 u18.2.1 := by
          obtain ⟨_, _, Fz1, _, e1, e2, ⟨z1, rfl, hz1⟩, ⟨_, _, Fz2, _, rfl, rfl, ⟨z2, rfl, hz2⟩, ⟨_, _, _, _, rfl, rfl, ⟨rfl, rfl⟩, ⟨rfl, rfl⟩⟩⟩⟩ := (hS27.ok (i := 0) rfl : (ty_42).own F26 w4 [v21, v23, (.int .i64 u18.2.2.1), (.int .i64 u18.2.2.2)] u18)
          obtain ⟨q1, q2⟩ : v21 = z1 ∧ v23 = z2 := by simpa [enc_3] using e1
          subst q1; subst q2; exact ⟨Fz1, Fz2, by simpa using e2, hz1, hz2⟩
        have hS30 : Sep (wE w0).heap.size w4 [R.own ty_82 F31 v21 u18.1, R.own ty_3 F32 v23 u18.2.1, R.hole ty_42 B0_0 F26 v0_0 l7 y9.toNat [v21, v23, (.int .i64 u18.2.2.1), (.int .i64 u18.2.2.2)], R.rest w0 (fps [R.own ty_42 B0_0 v0_0 x0])] := hS27.split2 hq33 (fun _ hk => hz_1.keep hk) fun _ hk => hz_2.keep hk
        obtain ⟨u34, hu34, hF⟩ := bindE hF
        refine wl_call rfl Try.call38 (C_laws_markSpotSS w4 u18.1 v21 F31 y8 (hS30.sel [0] rfl).base0 _ hu34) rfl ?_
        rintro _ w35 ⟨rfl, hE36, hM37⟩
        refine ⟨_, rfl, ?_⟩
        have hB38 := hS30.mutB [0] rfl (M := [R.own ty_82 F31 v21 u18.1]) rfl (M' := [R.own ty_82 F31 v21 u34.2]) rfl hB5 hB5.size hE36 hM37
        have hS39 : Sep (wE w0).heap.size w35 [R.own ty_82 F31 v21 u34.2, R.own ty_3 F32 v23 u18.2.1, R.hole ty_42 B0_0 F26 v0_0 l7 y9.toNat [v21, v23, (.int .i64 u18.2.2.1), (.int .i64 u18.2.2.2)], R.rest w0 (fps [R.own ty_42 B0_0 v0_0 x0])] := hS30.mut [0] [1, 2, 3] rfl (M := [R.own ty_82 F31 v21 u18.1]) rfl (M' := [R.own ty_82 F31 v21 u34.2]) rfl hM37
        have hS42 := hS39.sel [0, 1, 2, 3] rfl
        have hS40 := (hS42.merge (r := ⟨F31 ++ F32, fun w => ownS ty_82 F31 w v21 u34.2 ∧ ownS ty_3 F32 w v23 u18.2.1⟩) rfl fun _ a b => ⟨a, b⟩).head (r' := R.cel ty_42 F26 [v21, v23, (.int .i64 u18.2.2.1), (.int .i64 u18.2.2.2)] (u34.2, u18.2.1, u18.2.2.1, u18.2.2.2)) (by simp [R.cel, hq33]) fun _ hh => by obtain ⟨h0, h1⟩ := hh; rw [hq33]; exact ⟨[v21], [v23, (.int .i64 u18.2.2.1), (.int .i64 u18.2.2.2)], F31, F32, rfl, rfl, ⟨_, rfl, h0⟩, ⟨[v23], [(.int .i64 u18.2.2.1), (.int .i64 u18.2.2.2)], F32, [], rfl, (List.append_nil _).symm, ⟨_, rfl, h1⟩, ⟨[(.int .i64 u18.2.2.1)], [(.int .i64 u18.2.2.2)], [], [], rfl, rfl, ⟨rfl, rfl⟩, ⟨rfl, rfl⟩⟩⟩⟩
        have hS41 : Sep (wE w0).heap.size w35 [R.own ty_42 B0_0 v0_0 (seti l7 y9 (u34.2, u18.2.1, u18.2.2.1, u18.2.2.2)), R.rest w0 (fps [R.own ty_42 B0_0 v0_0 x0])] := hS40.unborrow hq28 hq29
        refine wl_assign rfl rfl ?_
        refine WL.nil ?_
        refine fun a ha => hK17 _ _ ?_ a ha
        refine W.seq fun K43 hK43 => ?_
        refine W.region ?_
        refine wl_move rfl rfl ?_
        refine wl_move rfl rfl ?_
        obtain ⟨u44, hu44, hF⟩ := bindE hF
        refine wl_indexo (e := ty_42) (i := 0) Try.underlying27 rfl rfl rfl hS41 rfl hu44 ?_
        rintro p45 _ ⟨_, _, rfl, ⟨v47, rfl, hv48⟩, ⟨_, _, rfl, ⟨v49, rfl, hv50⟩, ⟨_, _, rfl, rfl, rfl⟩⟩⟩ hp46 ho51
        refine wl_fieldp (o := 1) ff_42_1 rfl rfl ?_
        refine wl_load_p (vs := [v49]) (v := v49) tf_24 rfl rfl (hp46.add 1) rfl rfl ?_
        refine wl_move rfl rfl ?_
        obtain ⟨F52, hS53, hq54, hq55⟩ := (hS41.sel [0, 1] rfl).borrow (e := ty_42) (F := B0_0) (v := v0_0) (l := (seti l7 y9 (u34.2, u18.2.1, u18.2.2.1, u18.2.2.2))) hu44 ho51 hp46 rfl
        obtain ⟨F57, F58, hq59, hz_1, hz_2⟩ : ∃ F1 F2, F52 = F1 ++ F2 ∧ ownS ty_82 F1 w35 v47 u44.1 ∧ ownS ty_3 F2 w35 v49 u44.2.1 := by
          obtain ⟨_, _, Fz1, _, e1, e2, ⟨z1, rfl, hz1⟩, ⟨_, _, Fz2, _, rfl, rfl, ⟨z2, rfl, hz2⟩, ⟨_, _, _, _, rfl, rfl, ⟨rfl, rfl⟩, ⟨rfl, rfl⟩⟩⟩⟩ := (hS53.ok (i := 0) rfl : (ty_42).own F52 w35 [v47, v49, (.int .i64 u44.2.2.1), (.int .i64 u44.2.2.2)] u44)
          obtain ⟨q1, q2⟩ : v47 = z1 ∧ v49 = z2 := by simpa [enc_3] using e1
          subst q1; subst q2; exact ⟨Fz1, Fz2, by simpa using e2, hz1, hz2⟩
        have hS56 : Sep (wE w0).heap.size w35 [R.own ty_82 F57 v47 u44.1, R.own ty_3 F58 v49 u44.2.1, R.hole ty_42 B0_0 F52 v0_0 (seti l7 y9 (u34.2, u18.2.1, u18.2.2.1, u18.2.2.2)) y9.toNat [v47, v49, (.int .i64 u44.2.2.1), (.int .i64 u44.2.2.2)], R.rest w0 (fps [R.own ty_42 B0_0 v0_0 x0])] := hS53.split2 hq59 (fun _ hk => hz_1.keep hk) fun _ hk => hz_2.keep hk
        obtain ⟨u60, hu60, hF⟩ := bindE hF
        refine wl_call rfl Try.call13 (C_laws_markIntS w35 u44.2.1 v49 F58 u34.1 (hS56.sel [1] rfl).base0 _ hu60) rfl ?_
        rintro _ w61 ⟨rfl, hE62, hM63⟩
        refine ⟨_, rfl, ?_⟩
        have hB64 := hS56.mutB [1] rfl (M := [R.own ty_3 F58 v49 u44.2.1]) rfl (M' := [R.own ty_3 F58 v49 u60.2]) rfl hB38 hB38.size hE62 hM63
        have hS65 : Sep (wE w0).heap.size w61 [R.own ty_3 F58 v49 u60.2, R.own ty_82 F57 v47 u44.1, R.hole ty_42 B0_0 F52 v0_0 (seti l7 y9 (u34.2, u18.2.1, u18.2.2.1, u18.2.2.2)) y9.toNat [v47, v49, (.int .i64 u44.2.2.1), (.int .i64 u44.2.2.2)], R.rest w0 (fps [R.own ty_42 B0_0 v0_0 x0])] := hS56.mut [1] [0, 2, 3] rfl (M := [R.own ty_3 F58 v49 u44.2.1]) rfl (M' := [R.own ty_3 F58 v49 u60.2]) rfl hM63
        have hS68 := hS65.sel [1, 0, 2, 3] rfl
        have hS66 := (hS68.merge (r := ⟨F57 ++ F58, fun w => ownS ty_82 F57 w v47 u44.1 ∧ ownS ty_3 F58 w v49 u60.2⟩) rfl fun _ a b => ⟨a, b⟩).head (r' := R.cel ty_42 F52 [v47, v49, (.int .i64 u44.2.2.1), (.int .i64 u44.2.2.2)] (u44.1, u60.2, u44.2.2.1, u44.2.2.2)) (by simp [R.cel, hq59]) fun _ hh => by obtain ⟨h0, h1⟩ := hh; rw [hq59]; exact ⟨[v47], [v49, (.int .i64 u44.2.2.1), (.int .i64 u44.2.2.2)], F57, F58, rfl, rfl, ⟨_, rfl, h0⟩, ⟨[v49], [(.int .i64 u44.2.2.1), (.int .i64 u44.2.2.2)], F58, [], rfl, (List.append_nil _).symm, ⟨_, rfl, h1⟩, ⟨[(.int .i64 u44.2.2.1)], [(.int .i64 u44.2.2.2)], [], [], rfl, rfl, ⟨rfl, rfl⟩, ⟨rfl, rfl⟩⟩⟩⟩
        have hS67 : Sep (wE w0).heap.size w61 [R.own ty_42 B0_0 v0_0 (seti (seti l7 y9 (u34.2, u18.2.1, u18.2.2.1, u18.2.2.2)) y9 (u44.1, u60.2, u44.2.2.1, u44.2.2.2)), R.rest w0 (fps [R.own ty_42 B0_0 v0_0 x0])] := hS66.unborrow hq54 hq55
        refine wl_assign rfl rfl ?_
        refine WL.nil ?_
        refine fun a ha => hK43 _ _ ?_ a ha
        refine W.seq fun K69 hK69 => ?_
        refine W.region ?_
        refine wl_move rfl rfl ?_
        refine wl_move rfl rfl ?_
        refine wl_move rfl rfl ?_
        obtain ⟨u70, hu70, hF⟩ := bindE hF
        refine wl_indexo (e := ty_42) (i := 0) Try.underlying27 rfl rfl rfl hS67 rfl hu70 ?_
        rintro p71 _ ⟨_, _, rfl, ⟨v73, rfl, hv74⟩, ⟨_, _, rfl, ⟨v75, rfl, hv76⟩, ⟨_, _, rfl, rfl, rfl⟩⟩⟩ hp72 ho77
        refine wl_fieldp (o := 2) ff_42_2 rfl rfl ?_
        refine wl_storep (e := ty_42) (i := 0) (o := 2) (vs := [(.int .i64 u60.1)]) (u' := (u70.1, u70.2.1, u60.1, u70.2.2.2)) tf_3 rfl rfl rfl rfl (ho77.add 2) hu70 hB64 hS67 rfl rfl ⟨rfl, trivial⟩ (fun _ _ h => by obtain ⟨_, _, _, _, rfl, rfl, ⟨z1, rfl, hz1⟩, ⟨_, _, _, _, rfl, rfl, ⟨z2, rfl, hz2⟩, ⟨_, _, _, _, rfl, rfl, ⟨rfl, rfl⟩, ⟨rfl, rfl⟩⟩⟩⟩ := h; exact ⟨[z1], [z2, (.int .i64 u60.1), (.int .i64 u70.2.2.2)], _, _, rfl, rfl, ⟨z1, rfl, hz1⟩, ⟨[z2], [(.int .i64 u60.1), (.int .i64 u70.2.2.2)], _, _, rfl, rfl, ⟨z2, rfl, hz2⟩, ⟨[(.int .i64 u60.1)], [(.int .i64 u70.2.2.2)], _, _, rfl, rfl, ⟨rfl, rfl⟩, ⟨rfl, rfl⟩⟩⟩⟩) ?_
        intro w78 hk81 hB79 hS80
        refine WL.nil ?_
        refine fun a ha => hK69 _ _ ?_ a ha
        refine W.seq fun K82 hK82 => ?_
        refine W.region ?_
        refine wl_move rfl rfl ?_
        refine wl_add rfl rfl rfl ?_
        refine wl_assign rfl rfl ?_
        refine WL.nil ?_
        refine fun a ha => hK82 _ _ ?_ a ha
        refine W.seq fun K83 hK83 => ?_
        refine W.region ?_
        refine wl_move rfl rfl ?_
        refine wl_move rfl rfl ?_
        refine wl_move rfl rfl ?_
        obtain ⟨u84, hu84, hF⟩ := bindE hF
        refine wl_indexo (e := ty_42) (i := 0) Try.underlying27 rfl rfl rfl hS80 rfl hu84 ?_
        rintro p85 _ ⟨_, _, rfl, ⟨v87, rfl, hv88⟩, ⟨_, _, rfl, ⟨v89, rfl, hv90⟩, ⟨_, _, rfl, rfl, rfl⟩⟩⟩ hp86 ho91
        refine wl_fieldp (o := 3) ff_42_3 rfl rfl ?_
        refine wl_storep (e := ty_42) (i := 0) (o := 3) (vs := [(.int .i64 (w64 (u60.1 + 1)))]) (u' := (u84.1, u84.2.1, u84.2.2.1, (w64 (u60.1 + 1)))) tf_3 rfl rfl rfl rfl (ho91.add 3) hu84 hB79 hS80 rfl rfl ⟨rfl, trivial⟩ (fun _ _ h => by obtain ⟨_, _, _, _, rfl, rfl, ⟨z1, rfl, hz1⟩, ⟨_, _, _, _, rfl, rfl, ⟨z2, rfl, hz2⟩, ⟨_, _, _, _, rfl, rfl, ⟨rfl, rfl⟩, ⟨rfl, rfl⟩⟩⟩⟩ := h; exact ⟨[z1], [z2, (.int .i64 u84.2.2.1), (.int .i64 (w64 (u60.1 + 1)))], _, _, rfl, rfl, ⟨z1, rfl, hz1⟩, ⟨[z2], [(.int .i64 u84.2.2.1), (.int .i64 (w64 (u60.1 + 1)))], _, _, rfl, rfl, ⟨z2, rfl, hz2⟩, ⟨[(.int .i64 u84.2.2.1)], [(.int .i64 (w64 (u60.1 + 1)))], _, _, rfl, rfl, ⟨rfl, rfl⟩, ⟨rfl, rfl⟩⟩⟩⟩) ?_
        intro w92 hk95 hB93 hS94
        refine WL.nil ?_
        refine fun a ha => hK83 _ _ ?_ a ha
        refine W.region ?_
        refine wl_move rfl rfl ?_
        refine wl_add rfl rfl rfl ?_
        refine wl_assign rfl rfl ?_
        refine WL.nil ?_
        refine fun a ha => hK16 _ _ ?_ a ha
        refine W.region ?_
        refine wl_move rfl rfl ?_
        refine wl_add rfl rfl rfl ?_
        refine wl_assign rfl rfl ?_
        refine WL.nil ?_
        rw [hnx10] at hF
        exact fun a ha => hKL11 a _ m12 (Nat.lt_succ_self m12) ⟨(seti (seti (seti (seti l7 y9 (u34.2, u18.2.1, u18.2.2.1, u18.2.2.2)) y9 (u44.1, u60.2, u44.2.2.1, u44.2.2.2)) y9 (u70.1, u70.2.1, u60.1, u70.2.2.2)) y9 (u84.1, u84.2.1, u84.2.2.1, (w64 (u60.1 + 1)))), (w64 ((w64 (u60.1 + 1)) + 1)), (w64 (y9 + 1)), ha.sub ⟨rfl, rfl, rfl, trivial⟩, hB93, (hS94.sel [1, 0] rfl), hF⟩
      · replace hF := ifN h15 hF
        refine W.exit ?_
        refine fun a ha => hK2 _ _ ?_ a ha
        refine W.seq fun K96 hK96 => ?_
        refine W.region ?_
        refine wl_move rfl rfl ?_
        refine wl_assign rfl rfl ?_
        refine WL.nil ?_
        refine fun a ha => hK96 _ _ ?_ a ha
        refine W.ret ?_
        have hr := Option.some.inj hF
        subst hr
        exact rets (vs := [(.int .i64 y8)]) hQ rfl ⟨rv_tmp rfl, trivial⟩ ⟨rfl, hB5, hS6.sel [0, 1] rfl⟩
theorem C_laws_heldIntS (w0 : World) (x0 : (List Int)) (v0_0 : Value) (h0_0 : rdS ty_3 (· < w0.heap.size) w0 v0_0 x0) (x1 : Int) (r : Int) (hF : F_laws_heldIntS x0 x1 = some r) :
    Calls Try.prog 14 [v0_0, (.int .i64 x1)].toArray w0 fun e w' => e = .returned (.int .i64 r) ∧ Below w0.heap.size w0 w' := by
  refine calls_mk' Try.func14 rfl Try.ntmps14 rfl rfl fun Q hQ hP => ?_
  have hB : Below w0.heap.size w0 w0 := Below.refl _ _
  have hS : Sep w0.heap.size w0 [] := Sep.nil _ _
  unfold F_laws_heldIntS at hF
  refine W.seq fun K1 hK1 => ?_
  refine W.region ?_
  refine wl_assign rfl rfl ?_
  refine WL.nil ?_
  refine fun a ha => hK1 _ _ ?_ a ha
  refine W.seq fun K2 hK2 => ?_
  refine W.seq fun K3 hK3 => ?_
  refine W.region ?_
  refine wl_assign rfl rfl ?_
  refine WL.nil ?_
  refine fun a ha => hK3 _ _ ?_ a ha
  refine W.block ?_
  refine W.loopk (fun m a w4 => ∃ (y7 : Int) (y8 : Int), St 21 [(0, v0_0), (1, (.int .i64 y7)), (5, (.int .i64 y8))] a ∧ Below w0.heap.size w0 w4 ∧ Sep w0.heap.size w4 [] ∧ F_laws_heldIntS_L1 x0 m y7 y8 = some r) FU ?_ ?_
  ·
    exact fun a ha => ⟨x1, 0, ha.sub ⟨rfl, rfl, rfl, trivial⟩, hB, (hS.sel [] rfl), hF⟩
  ·
    rintro m11 a w4 ⟨y7, y8, ha, hB5, hS6, hF⟩ KL10 hKL10
    refine W.at ?_ ha
    cases m11 with
    | zero => exact noneE hF
    | succ m11 =>
      obtain ⟨nx9, hnx9⟩ : ∃ k, k = F_laws_heldIntS_L1 x0 m11 := ⟨_, rfl⟩
      rw [F_laws_heldIntS_L1, ← hnx9] at hF
      refine W.seq fun K12 hK12 => ?_
      refine W.seq fun K13 hK13 => ?_
      refine W.region ?_
      refine wl_move rfl rfl ?_
      refine wl_move rfl rfl ?_
      refine wl_lenr (e := ty_3) (l := x0) Try.underlying24 rfl rfl h0_0 ?_
      refine wl_lss rfl rfl rfl ?_
      refine WL.nil ?_
      refine fun a ha => hK13 _ _ ?_ a ha
      refine W.cond rfl (fun h14 => ?_) (fun h14 => ?_)
      · replace hF := ifP h14 hF
        refine W.skip ?_
        refine fun a ha => hK12 _ _ ?_ a ha
        refine W.seq fun K15 hK15 => ?_
        refine W.block ?_
        refine W.seq fun K16 hK16 => ?_
        refine W.seq fun K17 hK17 => ?_
        refine W.region ?_
        refine wl_move rfl rfl ?_
        refine wl_move rfl rfl ?_
        obtain ⟨u18, hu18, hF⟩ := bindE hF
        refine wl_index (e := ty_3) Try.underlying24 rfl rfl rfl h0_0 hu18 ?_
        rintro p19 _ rfl hp20
        refine wl_load_p (vs := [(.int .i64 u18)]) (v := (.int .i64 u18)) tf_3 rfl rfl (hp20.ro hB5) rfl rfl ?_
        refine wl_move rfl rfl ?_
        refine wl_neq rfl rfl rfl ?_
        refine WL.nil ?_
        refine fun a ha => hK17 _ _ ?_ a ha
        refine W.cond rfl (fun h21 => ?_) (fun h21 => ?_)
        · replace hF := ifP h21 hF
          refine W.seq fun K22 hK22 => ?_
          refine W.region ?_
          refine wl_assign rfl rfl ?_
          refine WL.nil ?_
          refine fun a ha => hK22 _ _ ?_ a ha
          refine W.ret ?_
          have hr := Option.some.inj hF
          subst hr
          exact rets (vs := [(.int .i64 (-1))]) hQ rfl ⟨rv_tmp rfl, trivial⟩ ⟨rfl, hB5⟩
        · replace hF := ifN h21 hF
          refine W.skip ?_
          refine fun a ha => hK16 _ _ ?_ a ha
          refine W.region ?_
          refine wl_move rfl rfl ?_
          refine wl_add rfl rfl rfl ?_
          refine wl_assign rfl rfl ?_
          refine WL.nil ?_
          refine fun a ha => hK15 _ _ ?_ a ha
          refine W.region ?_
          refine wl_move rfl rfl ?_
          refine wl_add rfl rfl rfl ?_
          refine wl_assign rfl rfl ?_
          refine WL.nil ?_
          rw [hnx9] at hF
          exact fun a ha => hKL10 a _ m11 (Nat.lt_succ_self m11) ⟨(w64 (y7 + 1)), (w64 (y8 + 1)), ha.sub ⟨rfl, rfl, rfl, trivial⟩, hB5, (hS6.sel [] rfl), hF⟩
      · replace hF := ifN h14 hF
        refine W.exit ?_
        refine fun a ha => hK2 _ _ ?_ a ha
        refine W.seq fun K23 hK23 => ?_
        refine W.region ?_
        refine wl_move rfl rfl ?_
        refine wl_assign rfl rfl ?_
        refine WL.nil ?_
        refine fun a ha => hK23 _ _ ?_ a ha
        refine W.ret ?_
        have hr := Option.some.inj hF
        subst hr
        exact rets (vs := [(.int .i64 y7)]) hQ rfl ⟨rv_tmp rfl, trivial⟩ ⟨rfl, hB5⟩
theorem C_laws_FnExactRankShows (w0 : World) (x0 : (List ((List (List (Int × Int))) × (List Int) × Int × Int))) (v0_0 : Value) (h0_0 : rdS ty_36 (· < w0.heap.size) w0 v0_0 x0) (r : Bool) (hF : F_laws_FnExactRankShows x0 = some r) :
    Calls Try.prog 3 [v0_0].toArray w0 fun e w' => e = .returned (.bool r) ∧ Below w0.heap.size w0 w' := by
  refine calls_mk' Try.func3 rfl Try.ntmps3 rfl rfl fun Q hQ hP => ?_
  have hB : Below w0.heap.size w0 w0 := Below.refl _ _
  have hS : Sep w0.heap.size w0 [] := Sep.nil _ _
  unfold F_laws_FnExactRankShows at hF
  refine W.seq fun K1 hK1 => ?_
  refine W.region ?_
  refine wl_assign rfl rfl ?_
  refine WL.nil ?_
  refine fun a ha => hK1 _ _ ?_ a ha
  refine W.seq fun K2 hK2 => ?_
  refine W.region ?_
  refine wl_assign rfl rfl ?_
  refine WL.nil ?_
  refine fun a ha => hK2 _ _ ?_ a ha
  refine W.seq fun K3 hK3 => ?_
  refine W.region ?_
  refine wl_move rfl rfl ?_
  refine wl_move rfl rfl ?_
  obtain ⟨u4, hu4, hF⟩ := bindE hF
  refine wl_call rfl Try.call6 (C_laws_szShowS w0 x0 v0_0 (h0_0.ro hB) 1048576 _ hu4) rfl ?_
  rintro _ w5 ⟨rfl, hb6⟩
  refine ⟨_, rfl, ?_⟩
  have hB7 := hB.trans (hb6.mono hB.size)
  have hS8 := hS.below hb6
  refine wl_assign rfl rfl ?_
  refine WL.nil ?_
  refine fun a ha => hK3 _ _ ?_ a ha
  refine W.seq fun K10 hK10 => ?_
  refine W.seq fun K11 hK11 => ?_
  refine W.region ?_
  refine wl_move rfl rfl ?_
  refine wl_lss rfl rfl rfl ?_
  refine WL.nil ?_
  refine fun a ha => hK11 _ _ ?_ a ha
  refine W.cond rfl (fun h12 => ?_) (fun h12 => ?_)
  · replace hF := ifP h12 hF
    refine W.seq fun K13 hK13 => ?_
    refine W.region ?_
    refine wl_assign rfl rfl ?_
    refine WL.nil ?_
    refine fun a ha => hK13 _ _ ?_ a ha
    refine W.ret ?_
    have hr := Option.some.inj hF
    subst hr
    exact rets (vs := [(.bool true)]) hQ rfl ⟨rv_tmp rfl, trivial⟩ ⟨rfl, hB7⟩
  · replace hF := ifN h12 hF
    refine W.skip ?_
    refine fun a ha => hK10 _ _ ?_ a ha
    refine W.seq fun K14 hK14 => ?_
    refine W.region ?_
    refine wl_move rfl rfl ?_
    obtain ⟨u15, hu15, hF⟩ := bindE hF
    refine wl_call rfl Try.call8 (C_laws_toShowS w5 x0 v0_0 (h0_0.ro hB7) _ hu15) rfl ?_
    rintro _ w18 ⟨v16, F17, rfl, hb19, hM22⟩
    refine ⟨_, rfl, ?_⟩
    have hB20 := hB7.trans (hb19.mono hB7.size)
    have hS21 := hS8.join hb19 hM22 hB7.size
    obtain ⟨u23, hu23, hF⟩ := bindE hF
    refine wl_call rfl Try.call7 (C_spec_RankShows w18 u15 v16 (hS21.own_ro (i := 0) rfl) _ hu23) rfl ?_
    rintro _ w26 ⟨v24, F25, rfl, hb27, hM30⟩
    refine ⟨_, rfl, ?_⟩
    have hB28 := hB20.trans (hb27.mono hB20.size)
    have hS29 := hS21.join hb27 hM30 hB20.size
    refine wl_move rfl rfl ?_
    refine wl_extract rfl rfl rfl ?_
    refine wl_extract rfl rfl rfl ?_
    refine wl_assign rfl rfl ?_
    refine wl_assign rfl rfl ?_
    refine WL.nil ?_
    refine fun a ha => hK14 _ _ ?_ a ha
    refine W.seq fun K31 hK31 => ?_
    refine W.region ?_
    refine wl_move rfl rfl ?_
    obtain ⟨u32, hu32, hF⟩ := bindE hF
    refine wl_call rfl Try.call8 (C_laws_toShowS w26 x0 v0_0 (h0_0.ro hB28) _ hu32) rfl ?_
    rintro _ w35 ⟨v33, F34, rfl, hb36, hM39⟩
    refine ⟨_, rfl, ?_⟩
    have hB37 := hB28.trans (hb36.mono hB28.size)
    have hS38 := hS29.join hb36 hM39 hB28.size
    refine wl_assign rfl rfl ?_
    refine WL.nil ?_
    refine fun a ha => hK31 _ _ ?_ a ha
    refine W.seq fun K40 hK40 => ?_
    refine W.region ?_
    refine wl_move rfl rfl ?_
    obtain ⟨u41, hu41, hF⟩ := bindE hF
    refine wl_call rfl Try.call9 (C_impl_RankShows w35 u32 v33 (hS38.own_ro (i := 0) rfl) _ hu41) rfl ?_
    rintro _ w44 ⟨v42, F43, rfl, hb45, hM48⟩
    refine ⟨_, rfl, ?_⟩
    have hB46 := hB37.trans (hb45.mono hB37.size)
    have hS47 := hS38.join hb45 hM48 hB37.size
    refine wl_move rfl rfl ?_
    refine wl_extract rfl rfl rfl ?_
    refine wl_extract rfl rfl rfl ?_
    refine wl_assign rfl rfl ?_
    refine wl_assign rfl rfl ?_
    refine WL.nil ?_
    refine fun a ha => hK40 _ _ ?_ a ha
    refine W.seq fun K49 hK49 => ?_
    refine W.seq fun K50 hK50 => ?_
    obtain ⟨k55, hk55, hF⟩ := jE1 hF
    have hJ56 : ∀ (y54 : Bool) (w51 : World) (_ : k55 y54 = some r) (_ : Below w0.heap.size w0 w51) (_ : Sep w0.heap.size w51 [R.own ty_3 F25 v24 u23.1, R.own ty_42 F34 v33 u32, R.own ty_3 F43 v42 u41.1]), ∀ a, St 96 [(0, v0_0), (4, v24), (5, (.bool u23.2)), (6, v33), (7, v42), (8, (.bool u41.2)), (40, (.bool y54))] a → K50 a w51 := by
      intro y54 w51 hF hB52 hS53
      subst hk55
      refine fun a ha => hK50 _ _ ?_ a ha
      refine W.cond rfl (fun h57 => ?_) (fun h57 => ?_)
      · replace hF := ifP h57 hF
        refine W.seq fun K58 hK58 => ?_
        refine W.region ?_
        refine wl_assign rfl rfl ?_
        refine WL.nil ?_
        refine fun a ha => hK58 _ _ ?_ a ha
        refine W.ret ?_
        have hr := Option.some.inj hF
        subst hr
        exact rets (vs := [(.bool false)]) hQ rfl ⟨rv_tmp rfl, trivial⟩ ⟨rfl, hB52⟩
      · replace hF := ifN h57 hF
        refine W.skip ?_
        refine fun a ha => hK49 _ _ ?_ a ha
        refine W.seq fun K59 hK59 => ?_
        refine W.seq fun K60 hK60 => ?_
        refine W.region ?_
        refine wl_move rfl rfl ?_
        refine wl_move rfl rfl ?_
        obtain ⟨u61, hu61, hF⟩ := bindE hF
        refine wl_call rfl Try.call8 (C_laws_toShowS w51 x0 v0_0 (h0_0.ro hB52) _ hu61) rfl ?_
        rintro _ w65 ⟨v62, F63, rfl, hb66, hM69⟩
        refine ⟨_, rfl, ?_⟩
        have hB67 := hB52.trans (hb66.mono hB52.size)
        have hS68 := hS53.join hb66 hM69 hB52.size
        obtain ⟨u70, hu70, hF⟩ := bindE hF
        refine wl_call rfl Try.call11 (C_laws_eqShowS w65 u32 v33 (hS68.own_ro (i := 2) rfl) u61 v62 (hS68.own_ro (i := 0) rfl) _ hu70) rfl ?_
        rintro _ w71 ⟨rfl, hb72⟩
        refine ⟨_, rfl, ?_⟩
        have hB73 := hB67.trans (hb72.mono hB67.size)
        have hS74 := hS68.below hb72
        refine wl_not rfl rfl ?_
        refine WL.nil ?_
        refine fun a ha => hK60 _ _ ?_ a ha
        refine W.cond rfl (fun h76 => ?_) (fun h76 => ?_)
        · replace hF := ifP h76 hF
          refine W.seq fun K77 hK77 => ?_
          refine W.region ?_
          refine wl_assign rfl rfl ?_
          refine WL.nil ?_
          refine fun a ha => hK77 _ _ ?_ a ha
          refine W.ret ?_
          have hr := Option.some.inj hF
          subst hr
          exact rets (vs := [(.bool false)]) hQ rfl ⟨rv_tmp rfl, trivial⟩ ⟨rfl, hB73⟩
        · replace hF := ifN h76 hF
          refine W.skip ?_
          refine fun a ha => hK59 _ _ ?_ a ha
          refine W.seq fun K78 hK78 => ?_
          refine W.region ?_
          refine wl_assign rfl rfl ?_
          refine WL.nil ?_
          refine fun a ha => hK78 _ _ ?_ a ha
          refine W.seq fun K79 hK79 => ?_
          refine W.region ?_
          refine wl_move rfl rfl ?_
          refine wl_move rfl rfl ?_
          obtain ⟨u80, hu80, hF⟩ := bindE hF
          refine wl_call rfl Try.call12 (C_laws_markShowS w71 u32 v33 F34 1 (hS74.sel [2] rfl).base0 _ hu80) rfl ?_
          rintro _ w81 ⟨rfl, hE82, hM83⟩
          refine ⟨_, rfl, ?_⟩
          have hB84 := hS74.mutB [2] rfl (M := [R.own ty_42 F34 v33 u32]) rfl (M' := [R.own ty_42 F34 v33 u80.2]) rfl hB73 hB73.size hE82 hM83
          have hS85 : Sep w0.heap.size w81 [R.own ty_42 F34 v33 u80.2, R.own ty_42 F63 v62 u61, R.own ty_3 F25 v24 u23.1, R.own ty_3 F43 v42 u41.1] := hS74.mut [2] [0, 1, 3] rfl (M := [R.own ty_42 F34 v33 u32]) rfl (M' := [R.own ty_42 F34 v33 u80.2]) rfl hM83
          refine wl_assign rfl rfl ?_
          refine WL.nil ?_
          refine fun a ha => hK79 _ _ ?_ a ha
          refine W.seq fun K86 hK86 => ?_
          refine W.seq fun K87 hK87 => ?_
          obtain ⟨k92, hk92, hF⟩ := jE1 hF
          have hJ93 : ∀ (y91 : Bool) (w88 : World) (_ : k92 y91 = some r) (_ : Below w0.heap.size w0 w88) (_ : Sep w0.heap.size w88 [R.own ty_3 F25 v24 u23.1, R.own ty_3 F43 v42 u41.1]), ∀ a, St 96 [(0, v0_0), (4, v24), (5, (.bool u23.2)), (7, v42), (61, (.bool y91))] a → K87 a w88 := by
            intro y91 w88 hF hB89 hS90
            subst hk92
            refine fun a ha => hK87 _ _ ?_ a ha
            refine W.cond rfl (fun h94 => ?_) (fun h94 => ?_)
            · replace hF := ifP h94 hF
              refine W.seq fun K95 hK95 => ?_
              refine W.region ?_
              refine wl_assign rfl rfl ?_
              refine WL.nil ?_
              refine fun a ha => hK95 _ _ ?_ a ha
              refine W.ret ?_
              have hr := Option.some.inj hF
              subst hr
              exact rets (vs := [(.bool false)]) hQ rfl ⟨rv_tmp rfl, trivial⟩ ⟨rfl, hB89⟩
            · replace hF := ifN h94 hF
              refine W.skip ?_
              refine fun a ha => hK86 _ _ ?_ a ha
              refine W.seq fun K96 hK96 => ?_
              refine W.region ?_
              refine wl_assign rfl rfl ?_
              refine WL.nil ?_
              refine fun a ha => hK96 _ _ ?_ a ha
              refine W.seq fun K97 hK97 => ?_
              refine W.region ?_
              refine wl_move rfl rfl ?_
              refine wl_move rfl rfl ?_
              obtain ⟨u98, hu98, hF⟩ := bindE hF
              refine wl_call rfl Try.call13 (C_laws_markIntS w88 u41.1 v42 F43 1 (hS90.sel [1] rfl).base0 _ hu98) rfl ?_
              rintro _ w99 ⟨rfl, hE100, hM101⟩
              refine ⟨_, rfl, ?_⟩
              have hB102 := hS90.mutB [1] rfl (M := [R.own ty_3 F43 v42 u41.1]) rfl (M' := [R.own ty_3 F43 v42 u98.2]) rfl hB89 hB89.size hE100 hM101
              have hS103 : Sep w0.heap.size w99 [R.own ty_3 F43 v42 u98.2, R.own ty_3 F25 v24 u23.1] := hS90.mut [1] [0] rfl (M := [R.own ty_3 F43 v42 u41.1]) rfl (M' := [R.own ty_3 F43 v42 u98.2]) rfl hM101
              refine wl_assign rfl rfl ?_
              refine WL.nil ?_
              refine fun a ha => hK97 _ _ ?_ a ha
              refine W.seq fun K104 hK104 => ?_
              refine W.region ?_
              refine wl_assign rfl rfl ?_
              refine WL.nil ?_
              refine fun a ha => hK104 _ _ ?_ a ha
              refine W.seq fun K105 hK105 => ?_
              refine W.region ?_
              refine wl_move rfl rfl ?_
              refine wl_move rfl rfl ?_
              obtain ⟨u106, hu106, hF⟩ := bindE hF
              refine wl_call rfl Try.call14 (C_laws_heldIntS w99 u98.2 v42 (hS103.own_ro (i := 0) rfl) 1 _ hu106) rfl ?_
              rintro _ w107 ⟨rfl, hb108⟩
              refine ⟨_, rfl, ?_⟩
              have hB109 := hB102.trans (hb108.mono hB102.size)
              have hS110 := hS103.below hb108
              refine wl_assign rfl rfl ?_
              refine WL.nil ?_
              refine fun a ha => hK105 _ _ ?_ a ha
              refine W.seq fun K112 hK112 => ?_
              refine W.seq fun K113 hK113 => ?_
              refine W.region ?_
              refine wl_move rfl rfl ?_
              refine wl_lss rfl rfl rfl ?_
              refine WL.nil ?_
              refine fun a ha => hK113 _ _ ?_ a ha
              refine W.cond rfl (fun h114 => ?_) (fun h114 => ?_)
              · replace hF := ifP h114 hF
                refine W.seq fun K115 hK115 => ?_
                refine W.region ?_
                refine wl_assign rfl rfl ?_
                refine WL.nil ?_
                refine fun a ha => hK115 _ _ ?_ a ha
                refine W.ret ?_
                have hr := Option.some.inj hF
                subst hr
                exact rets (vs := [(.bool false)]) hQ rfl ⟨rv_tmp rfl, trivial⟩ ⟨rfl, hB109⟩
              · replace hF := ifN h114 hF
                refine W.skip ?_
                refine fun a ha => hK112 _ _ ?_ a ha
                refine W.seq fun K116 hK116 => ?_
                refine W.seq fun K117 hK117 => ?_
                refine W.region ?_
                refine wl_move rfl rfl ?_
                refine wl_move rfl rfl ?_
                refine wl_neq rfl rfl rfl ?_
                refine WL.nil ?_
                refine fun a ha => hK117 _ _ ?_ a ha
                refine W.cond rfl (fun h118 => ?_) (fun h118 => ?_)
                · replace hF := ifP h118 hF
                  refine W.seq fun K119 hK119 => ?_
                  refine W.region ?_
                  refine wl_assign rfl rfl ?_
                  refine WL.nil ?_
                  refine fun a ha => hK119 _ _ ?_ a ha
                  refine W.ret ?_
                  have hr := Option.some.inj hF
                  subst hr
                  exact rets (vs := [(.bool false)]) hQ rfl ⟨rv_tmp rfl, trivial⟩ ⟨rfl, hB109⟩
                · replace hF := ifN h118 hF
                  refine W.skip ?_
                  refine fun a ha => hK116 _ _ ?_ a ha
                  refine W.seq fun K120 hK120 => ?_
                  refine W.region ?_
                  refine wl_move rfl rfl ?_
                  obtain ⟨u121, hu121, hF⟩ := bindE hF
                  refine wl_call rfl Try.call8 (C_laws_toShowS w107 x0 v0_0 (h0_0.ro hB109) _ hu121) rfl ?_
                  rintro _ w124 ⟨v122, F123, rfl, hb125, hM128⟩
                  refine ⟨_, rfl, ?_⟩
                  have hB126 := hB109.trans (hb125.mono hB109.size)
                  have hS127 := hS110.join hb125 hM128 hB109.size
                  obtain ⟨u129, hu129, hF⟩ := bindE hF
                  refine wl_call rfl Try.call9 (C_impl_RankShows w124 u121 v122 (hS127.own_ro (i := 0) rfl) _ hu129) rfl ?_
                  rintro _ w132 ⟨v130, F131, rfl, hb133, hM136⟩
                  refine ⟨_, rfl, ?_⟩
                  have hB134 := hB126.trans (hb133.mono hB126.size)
                  have hS135 := hS127.join hb133 hM136 hB126.size
                  refine wl_move rfl rfl ?_
                  refine wl_extract rfl rfl rfl ?_
                  refine wl_extract rfl rfl rfl ?_
                  refine wl_assign rfl rfl ?_
                  refine wl_assign rfl rfl ?_
                  refine WL.nil ?_
                  refine fun a ha => hK120 _ _ ?_ a ha
                  refine W.seq fun K137 hK137 => ?_
                  refine W.seq fun K138 hK138 => ?_
                  obtain ⟨k143, hk143, hF⟩ := jE1 hF
                  have hJ144 : ∀ (y142 : Bool) (w139 : World) (_ : k143 y142 = some r) (_ : Below w0.heap.size w0 w139) (_ : Sep w0.heap.size w139 [R.own ty_3 F43 v42 u98.2]), ∀ a, St 96 [(7, v42), (10, (.int .i64 u98.1)), (87, (.bool y142))] a → K138 a w139 := by
                    intro y142 w139 hF hB140 hS141
                    subst hk143
                    refine fun a ha => hK138 _ _ ?_ a ha
                    refine W.cond rfl (fun h145 => ?_) (fun h145 => ?_)
                    · replace hF := ifP h145 hF
                      refine W.seq fun K146 hK146 => ?_
                      refine W.region ?_
                      refine wl_assign rfl rfl ?_
                      refine WL.nil ?_
                      refine fun a ha => hK146 _ _ ?_ a ha
                      refine W.ret ?_
                      have hr := Option.some.inj hF
                      subst hr
                      exact rets (vs := [(.bool false)]) hQ rfl ⟨rv_tmp rfl, trivial⟩ ⟨rfl, hB140⟩
                    · replace hF := ifN h145 hF
                      refine W.skip ?_
                      refine fun a ha => hK137 _ _ ?_ a ha
                      refine W.seq fun K147 hK147 => ?_
                      refine W.region ?_
                      refine wl_assign rfl rfl ?_
                      refine WL.nil ?_
                      refine fun a ha => hK147 _ _ ?_ a ha
                      refine W.seq fun K148 hK148 => ?_
                      refine W.region ?_
                      refine wl_move rfl rfl ?_
                      refine wl_move rfl rfl ?_
                      obtain ⟨u149, hu149, hF⟩ := bindE hF
                      refine wl_call rfl Try.call14 (C_laws_heldIntS w139 u98.2 v42 (hS141.own_ro (i := 0) rfl) 1 _ hu149) rfl ?_
                      rintro _ w150 ⟨rfl, hb151⟩
                      refine ⟨_, rfl, ?_⟩
                      have hB152 := hB140.trans (hb151.mono hB140.size)
                      have hS153 := hS141.below hb151
                      refine wl_assign rfl rfl ?_
                      refine WL.nil ?_
                      refine fun a ha => hK148 _ _ ?_ a ha
                      refine W.seq fun K155 hK155 => ?_
                      refine W.seq fun K156 hK156 => ?_
                      refine W.region ?_
                      refine wl_move rfl rfl ?_
                      refine wl_lss rfl rfl rfl ?_
                      refine WL.nil ?_
                      refine fun a ha => hK156 _ _ ?_ a ha
                      refine W.cond rfl (fun h157 => ?_) (fun h157 => ?_)
                      · replace hF := ifP h157 hF
                        refine W.seq fun K158 hK158 => ?_
                        refine W.region ?_
                        refine wl_assign rfl rfl ?_
                        refine WL.nil ?_
                        refine fun a ha => hK158 _ _ ?_ a ha
                        refine W.ret ?_
                        have hr := Option.some.inj hF
                        subst hr
                        exact rets (vs := [(.bool false)]) hQ rfl ⟨rv_tmp rfl, trivial⟩ ⟨rfl, hB152⟩
                      · replace hF := ifN h157 hF
                        refine W.skip ?_
                        refine fun a ha => hK155 _ _ ?_ a ha
                        refine W.seq fun K159 hK159 => ?_
                        refine W.seq fun K160 hK160 => ?_
                        refine W.region ?_
                        refine wl_move rfl rfl ?_
                        refine wl_move rfl rfl ?_
                        refine wl_neq rfl rfl rfl ?_
                        refine WL.nil ?_
                        refine fun a ha => hK160 _ _ ?_ a ha
                        refine W.cond rfl (fun h161 => ?_) (fun h161 => ?_)
                        · replace hF := ifP h161 hF
                          refine W.seq fun K162 hK162 => ?_
                          refine W.region ?_
                          refine wl_assign rfl rfl ?_
                          refine WL.nil ?_
                          refine fun a ha => hK162 _ _ ?_ a ha
                          refine W.ret ?_
                          have hr := Option.some.inj hF
                          subst hr
                          exact rets (vs := [(.bool false)]) hQ rfl ⟨rv_tmp rfl, trivial⟩ ⟨rfl, hB152⟩
                        · replace hF := ifN h161 hF
                          refine W.skip ?_
                          refine fun a ha => hK159 _ _ ?_ a ha
                          refine W.seq fun K163 hK163 => ?_
                          refine W.region ?_
                          refine wl_assign rfl rfl ?_
                          refine WL.nil ?_
                          refine fun a ha => hK163 _ _ ?_ a ha
                          refine W.ret ?_
                          have hr := Option.some.inj hF
                          subst hr
                          exact rets (vs := [(.bool true)]) hQ rfl ⟨rv_tmp rfl, trivial⟩ ⟨rfl, hB152⟩
                  refine W.region ?_
                  refine wl_move rfl rfl ?_
                  refine wl_move rfl rfl ?_
                  obtain ⟨u164, hu164, hF⟩ := bindE hF
                  refine wl_call rfl Try.call10 (C_laws_eqIntS w132 u129.1 v130 (hS135.own_ro (i := 0) rfl) u23.1 v24 (hS135.own_ro (i := 3) rfl) _ hu164) rfl ?_
                  rintro _ w165 ⟨rfl, hb166⟩
                  refine ⟨_, rfl, ?_⟩
                  have hB167 := hB134.trans (hb166.mono hB134.size)
                  have hS168 := hS135.below hb166
                  refine wl_not rfl rfl ?_
                  refine wl_move rfl rfl ?_
                  rcases bE (!u164) with h170 | h170
                  · replace hF := ifP h170 hF
                    refine wl_off rfl rfl rfl h170 ?_
                    refine wl_off rfl rfl rfl h170 ?_
                    refine wl_off rfl rfl rfl h170 ?_
                    refine wl_pick_t rfl rfl h170 rfl ?_
                    refine WL.nil ?_
                    exact fun a ha => hJ144 (true) _ hF hB167 (hS168.sel [2] rfl) a (ha.sub ⟨rfl, rfl, rfl, trivial⟩)
                  · replace hF := ifN h170 hF
                    refine wl_on rfl rfl h170 ?_
                    refine wl_move rfl rfl ?_
                    refine wl_on rfl rfl h170 ?_
                    refine wl_move rfl rfl ?_
                    refine wl_on rfl rfl h170 ?_
                    refine wl_neqb Try.underlying4 rfl rfl rfl ?_
                    refine wl_pick_f rfl rfl h170 rfl ?_
                    refine WL.nil ?_
                    exact fun a ha => hJ144 ((u129.2 != u23.2)) _ hF hB167 (hS168.sel [2] rfl) a (ha.sub ⟨rfl, rfl, rfl, trivial⟩)
          refine W.region ?_
          refine wl_move rfl rfl ?_
          refine wl_lss rfl rfl rfl ?_
          refine wl_move rfl rfl ?_
          rcases bE (decide (u80.1 < 0)) with h171 | h171
          · replace hF := ifP h171 hF
            refine wl_off rfl rfl rfl h171 ?_
            refine wl_off rfl rfl rfl h171 ?_
            refine wl_off rfl rfl rfl h171 ?_
            refine wl_off rfl rfl rfl h171 ?_
            refine wl_pick_t rfl rfl h171 rfl ?_
            refine wl_move rfl rfl ?_
            refine wl_off rfl rfl rfl rfl ?_
            refine wl_off rfl rfl rfl rfl ?_
            refine wl_off rfl rfl rfl rfl ?_
            refine wl_pick_t rfl rfl rfl rfl ?_
            refine WL.nil ?_
            exact fun a ha => hJ93 (true) _ hF hB84 (hS85.sel [2, 3] rfl) a (ha.sub ⟨rfl, rfl, rfl, rfl, rfl, trivial⟩)
          · replace hF := ifN h171 hF
            refine wl_on rfl rfl h171 ?_
            refine wl_move rfl rfl ?_
            refine wl_on rfl rfl h171 ?_
            refine wl_move rfl rfl ?_
            refine wl_on rfl rfl h171 ?_
            obtain ⟨u172, hu172, hF⟩ := bindE hF
            refine wl_call rfl Try.call10 (C_laws_eqIntS w81 u41.1 v42 (hS85.own_ro (i := 3) rfl) u23.1 v24 (hS85.own_ro (i := 2) rfl) _ hu172) rfl ?_
            rintro _ w173 ⟨rfl, hb174⟩
            refine ⟨_, rfl, ?_⟩
            have hB175 := hB84.trans (hb174.mono hB84.size)
            have hS176 := hS85.below hb174
            refine wl_on rfl rfl h171 ?_
            refine wl_not rfl rfl ?_
            refine wl_pick_f rfl rfl h171 rfl ?_
            refine wl_move rfl rfl ?_
            rcases bE (!u172) with h178 | h178
            · replace hF := ifP h178 hF
              refine wl_off rfl rfl rfl h178 ?_
              refine wl_off rfl rfl rfl h178 ?_
              refine wl_off rfl rfl rfl h178 ?_
              refine wl_pick_t rfl rfl h178 rfl ?_
              refine WL.nil ?_
              exact fun a ha => hJ93 (true) _ hF hB175 (hS176.sel [2, 3] rfl) a (ha.sub ⟨rfl, rfl, rfl, rfl, rfl, trivial⟩)
            · replace hF := ifN h178 hF
              refine wl_on rfl rfl h178 ?_
              refine wl_move rfl rfl ?_
              refine wl_on rfl rfl h178 ?_
              refine wl_move rfl rfl ?_
              refine wl_on rfl rfl h178 ?_
              refine wl_neqb Try.underlying4 rfl rfl rfl ?_
              refine wl_pick_f rfl rfl h178 rfl ?_
              refine WL.nil ?_
              exact fun a ha => hJ93 ((u41.2 != u23.2)) _ hF hB175 (hS176.sel [2, 3] rfl) a (ha.sub ⟨rfl, rfl, rfl, rfl, rfl, trivial⟩)
    refine W.region ?_
    refine wl_move rfl rfl ?_
    refine wl_move rfl rfl ?_
    obtain ⟨u179, hu179, hF⟩ := bindE hF
    refine wl_call rfl Try.call10 (C_laws_eqIntS w44 u41.1 v42 (hS47.own_ro (i := 0) rfl) u23.1 v24 (hS47.own_ro (i := 2) rfl) _ hu179) rfl ?_
    rintro _ w180 ⟨rfl, hb181⟩
    refine ⟨_, rfl, ?_⟩
    have hB182 := hB46.trans (hb181.mono hB46.size)
    have hS183 := hS47.below hb181
    refine wl_not rfl rfl ?_
    refine wl_move rfl rfl ?_
    rcases bE (!u179) with h185 | h185
    · replace hF := ifP h185 hF
      refine wl_off rfl rfl rfl h185 ?_
      refine wl_off rfl rfl rfl h185 ?_
      refine wl_off rfl rfl rfl h185 ?_
      refine wl_pick_t rfl rfl h185 rfl ?_
      refine WL.nil ?_
      exact fun a ha => hJ56 (true) _ hF hB182 (hS183.sel [2, 1, 0] rfl) a (ha.sub ⟨rfl, rfl, rfl, rfl, rfl, rfl, rfl, trivial⟩)
    · replace hF := ifN h185 hF
      refine wl_on rfl rfl h185 ?_
      refine wl_move rfl rfl ?_
      refine wl_on rfl rfl h185 ?_
      refine wl_move rfl rfl ?_
      refine wl_on rfl rfl h185 ?_
      refine wl_neqb Try.underlying4 rfl rfl rfl ?_
      refine wl_pick_f rfl rfl h185 rfl ?_
      refine WL.nil ?_
      exact fun a ha => hJ56 ((u41.2 != u23.2)) _ hF hB182 (hS183.sel [2, 1, 0] rfl) a (ha.sub ⟨rfl, rfl, rfl, rfl, rfl, rfl, rfl, trivial⟩)
end Go.Proofs.Ytcndhhjolnebdaa
