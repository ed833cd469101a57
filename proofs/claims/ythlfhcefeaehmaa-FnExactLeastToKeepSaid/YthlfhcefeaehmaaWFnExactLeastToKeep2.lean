/-
  THE WALKS of functions of this seat, by program (gen.py).
-/
import Derived.Test.YthlfhcefeaehmaaH
import Derived.Test.YthlfhcefeaehmaaWFnExactLeastToKeep
set_option linter.unusedSimpArgs false
set_option linter.unusedVariables false
set_option maxRecDepth 100000
namespace Go.Proofs.Ythlfhcefeaehmaa
open Go Go.RowKit
theorem C_spec_LeastOfAll (w0 : World) (x0 : (List ((Int × Int) × (Int × Int) × Int))) (v0_0 : Value) (h0_0 : rdS ty_96 (· < w0.heap.size) w0 v0_0 x0) (r : (Int × Int × Bool)) (hF : F_spec_LeastOfAll x0 = some r) :
    Calls Try.prog 72 [v0_0].toArray w0 fun e w' => e = .returned (.tuple #[(.int .i64 r.1), (.int .i64 r.2.1), (.bool r.2.2)]) ∧ Below w0.heap.size w0 w' := by
  refine calls_mk' Try.func72 rfl Try.ntmps72 rfl rfl fun Q hQ hP => ?_
  have hB : Below w0.heap.size w0 w0 := Below.refl _ _
  have hS : Sep w0.heap.size w0 [] := Sep.nil _ _
  unfold F_spec_LeastOfAll at hF
  refine W.seq fun K1 hK1 => ?_
  refine W.region ?_
  refine wl_assign rfl rfl ?_
  refine wl_assign rfl rfl ?_
  refine wl_assign rfl rfl ?_
  refine WL.nil ?_
  refine fun a ha => hK1 _ _ ?_ a ha
  refine W.seq fun K2 hK2 => ?_
  refine W.seq fun K3 hK3 => ?_
  refine W.region ?_
  refine wl_move rfl rfl ?_
  obtain ⟨u4, hu4, hF⟩ := bindE hF
  refine wl_call rfl Try.call118 (C_spec_apList w0 x0 v0_0 (h0_0.ro hB) _ hu4) rfl ?_
  rintro _ w5 ⟨rfl, hb6⟩
  refine ⟨_, rfl, ?_⟩
  have hB7 := hB.trans (hb6.mono hB.size)
  have hS8 := hS.below hb6
  refine wl_not rfl rfl ?_
  refine WL.nil ?_
  refine fun a ha => hK3 _ _ ?_ a ha
  refine W.cond rfl (fun h10 => ?_) (fun h10 => ?_)
  · replace hF := ifP h10 hF
    refine W.seq fun K11 hK11 => ?_
    refine W.region ?_
    refine wl_assign rfl rfl ?_
    refine wl_assign rfl rfl ?_
    refine wl_assign rfl rfl ?_
    refine WL.nil ?_
    refine fun a ha => hK11 _ _ ?_ a ha
    refine W.ret ?_
    have hr := Option.some.inj hF
    subst hr
    exact rets (vs := [(.int .i64 0), (.int .i64 0), (.bool false)]) hQ rfl ⟨rv_tmp rfl, rv_tmp rfl, rv_tmp rfl, trivial⟩ ⟨rfl, hB7⟩
  · replace hF := ifN h10 hF
    refine W.skip ?_
    refine fun a ha => hK2 _ _ ?_ a ha
    refine W.seq fun K12 hK12 => ?_
    refine W.region ?_
    refine wl_move rfl rfl ?_
    obtain ⟨u13, hu13, hF⟩ := bindE hF
    refine wl_call rfl Try.call119 (C_spec_apClosest w5 x0 v0_0 (h0_0.ro hB7) _ hu13) rfl ?_
    rintro _ w14 ⟨rfl, hb15⟩
    refine ⟨_, rfl, ?_⟩
    have hB16 := hB7.trans (hb15.mono hB7.size)
    have hS17 := hS8.below hb15
    refine wl_move rfl rfl ?_
    refine wl_extract rfl rfl rfl ?_
    refine wl_extract rfl rfl rfl ?_
    refine wl_assign rfl rfl ?_
    refine wl_assign rfl rfl ?_
    refine WL.nil ?_
    refine fun a ha => hK12 _ _ ?_ a ha
    refine W.seq fun K19 hK19 => ?_
    refine W.regionH mixed_ [] hB16 hS17 ?_
    intro w20 hb21 hB22 hS23
    have hSW24 := KeepX.refl w20 []
    refine WH.takex (i := 0) rfl (by kernel_rfl) (by kernel_rfl) (by kernel_rfl) hP hSW24 ?_
    refine pr_move rfl rfl ?_
    refine WH.takex (i := 1) rfl (by kernel_rfl) (by kernel_rfl) (by kernel_rfl) hP hSW24 ?_
    refine pr_move rfl rfl ?_
    obtain ⟨u25, hu25, hF⟩ := bindE hF
    refine WH.takex (i := 2) rfl (by kernel_rfl) (by kernel_rfl) (by kernel_rfl) hP hSW24 ?_
    refine pr_index (e := ty_96) Try.underlying87 rfl rfl rfl h0_0 hu25 ?_
    rintro p26 _ rfl hp27
    refine WH.takex (i := 3) rfl (by kernel_rfl) (by kernel_rfl) (by kernel_rfl) hP hSW24 ?_
    refine pr_load_p (vs := [(.int .i64 u25.1.1), (.int .i64 u25.1.2), (.int .i64 u25.2.1.1), (.int .i64 u25.2.1.2), (.int .i64 u25.2.2)]) (v := (.agg #[(.int .i64 u25.1.1), (.int .i64 u25.1.2), (.int .i64 u25.2.1.1), (.int .i64 u25.2.1.2), (.int .i64 u25.2.2)])) tf_96 rfl rfl (hp27.kx hB22 (by simp)) rfl rfl ?_
    refine WH.takex (i := 4) rfl (by kernel_rfl) (by kernel_rfl) (by kernel_rfl) hP hSW24 ?_
    refine pr_move rfl rfl ?_
    refine WH.takex (i := 5) rfl (by kernel_rfl) (by kernel_rfl) (by kernel_rfl) hP hSW24 ?_
    refine pr_move rfl rfl ?_
    obtain ⟨u28, hu28, hF⟩ := bindE hF
    refine WH.takex (i := 6) rfl (by kernel_rfl) (by kernel_rfl) (by kernel_rfl) hP hSW24 ?_
    refine pr_index (e := ty_96) Try.underlying87 rfl rfl rfl h0_0 hu28 ?_
    rintro p29 _ rfl hp30
    refine WH.takex (i := 7) rfl (by kernel_rfl) (by kernel_rfl) (by kernel_rfl) hP hSW24 ?_
    refine pr_load_p (vs := [(.int .i64 u28.1.1), (.int .i64 u28.1.2), (.int .i64 u28.2.1.1), (.int .i64 u28.2.1.2), (.int .i64 u28.2.2)]) (v := (.agg #[(.int .i64 u28.1.1), (.int .i64 u28.1.2), (.int .i64 u28.2.1.1), (.int .i64 u28.2.1.2), (.int .i64 u28.2.2)])) tf_96 rfl rfl (hp30.kx hB22 (by simp)) rfl rfl ?_
    refine WH.one (i := 8) (by kernel_rfl) rfl ?_
    obtain ⟨u31, hu31, hF⟩ := bindE hF
    refine wl_call rfl Try.call120 (C_spec_apLeast w20 u25 u28 _ hu31) rfl ?_
    rintro _ w32 ⟨rfl, hb33⟩
    refine ⟨_, rfl, ?_⟩
    have hB34 := hB22.trans (hb33.mono hB22.size)
    have hS35 := hS23.below hb33
    have hSW37 := hSW24.ext hb33
    refine WL.nil (WH.ret hSW37 ?_)
    refine WH.takex (i := 9) rfl (by kernel_rfl) (by kernel_rfl) (by kernel_rfl) hP hSW37 ?_
    refine pr_move rfl rfl ?_
    refine WH.takex (i := 10) rfl (by kernel_rfl) (by kernel_rfl) (by kernel_rfl) hP hSW37 ?_
    refine pr_extract rfl rfl rfl ?_
    refine WH.takex (i := 11) rfl (by kernel_rfl) (by kernel_rfl) (by kernel_rfl) hP hSW37 ?_
    refine pr_extract rfl rfl rfl ?_
    refine WH.takex (i := 12) rfl (by kernel_rfl) (by kernel_rfl) (by kernel_rfl) hP hSW37 ?_
    refine pr_assign rfl rfl ?_
    refine WH.takex (i := 13) rfl (by kernel_rfl) (by kernel_rfl) (by kernel_rfl) hP hSW37 ?_
    refine pr_assign rfl rfl ?_
    refine WH.done (by kernel_rfl) ?_
    refine fun a ha => hK19 _ _ ?_ a ha
    refine W.seq fun K38 hK38 => ?_
    refine W.region ?_
    refine wl_move rfl rfl ?_
    refine wl_move rfl rfl ?_
    refine wl_assign rfl rfl ?_
    refine wl_assign rfl rfl ?_
    refine wl_assign rfl rfl ?_
    refine WL.nil ?_
    refine fun a ha => hK38 _ _ ?_ a ha
    refine W.ret ?_
    have hr := Option.some.inj hF
    subst hr
    exact rets (vs := [(.int .i64 u31.1), (.int .i64 u31.2), (.bool true)]) hQ rfl ⟨rv_tmp rfl, rv_tmp rfl, rv_tmp rfl, trivial⟩ ⟨rfl, hB34⟩
theorem C_spec_LeastOfShow (w0 : World) (x0 : ((List (List (Int × Int))) × (List Int) × Int × Int)) (v0_0 : Value) (h0_0 : rdS ty_70 (· < w0.heap.size) w0 v0_0 x0.1) (v0_1 : Value) (h0_1 : rdS ty_3 (· < w0.heap.size) w0 v0_1 x0.2.1) (r : (Int × Int × Bool)) (hF : F_spec_LeastOfShow x0 = some r) :
    Calls Try.prog 22 [(.agg #[v0_0, v0_1, (.int .i64 x0.2.2.1), (.int .i64 x0.2.2.2)])].toArray w0 fun e w' => e = .returned (.tuple #[(.int .i64 r.1), (.int .i64 r.2.1), (.bool r.2.2)]) ∧ Below w0.heap.size w0 w' := by
  refine calls_mk' Try.func22 rfl Try.ntmps22 rfl rfl fun Q hQ hP => ?_
  have hB : Below w0.heap.size w0 w0 := Below.refl _ _
  have hS : Sep w0.heap.size w0 [] := Sep.nil _ _
  unfold F_spec_LeastOfShow at hF
  refine W.seq fun K1 hK1 => ?_
  refine W.region ?_
  refine wl_box (cs := [v0_0, v0_1, (.int .i64 x0.2.2.1), (.int .i64 x0.2.2.2)]) rfl rfl rfl hB hS ?_
  intro b2 w3 hb4 hB5 hS6
  refine wl_assign rfl rfl ?_
  refine wl_assign rfl rfl ?_
  refine wl_assign rfl rfl ?_
  refine WL.nil ?_
  refine fun a ha => hK1 _ _ ?_ a ha
  refine W.seq fun K7 hK7 => ?_
  refine W.seq fun K8 hK8 => ?_
  obtain ⟨k13, hk13, hF⟩ := jE1 hF
  have hJ14 : ∀ (y12 : Bool) (w9 : World) (_ : k13 y12 = some r) (_ : Below w0.heap.size w0 w9) (_ : Sep w0.heap.size w9 [R.blk b2 31 [v0_0, v0_1, (.int .i64 x0.2.2.1), (.int .i64 x0.2.2.2)]]), ∀ a, St 50 [(1, (.pointer (some ⟨b2, 0, none⟩))), (21, (.bool y12))] a → K8 a w9 := by
    intro y12 w9 hF hB10 hS11
    subst hk13
    refine fun a ha => hK8 _ _ ?_ a ha
    refine W.cond rfl (fun h15 => ?_) (fun h15 => ?_)
    · replace hF := ifP h15 hF
      refine W.seq fun K16 hK16 => ?_
      refine W.region ?_
      refine wl_assign rfl rfl ?_
      refine wl_assign rfl rfl ?_
      refine wl_assign rfl rfl ?_
      refine WL.nil ?_
      refine fun a ha => hK16 _ _ ?_ a ha
      refine W.ret ?_
      have hr := Option.some.inj hF
      subst hr
      exact rets (vs := [(.int .i64 0), (.int .i64 0), (.bool false)]) hQ rfl ⟨rv_tmp rfl, rv_tmp rfl, rv_tmp rfl, trivial⟩ ⟨rfl, hB10⟩
    · replace hF := ifN h15 hF
      refine W.skip ?_
      refine fun a ha => hK7 _ _ ?_ a ha
      refine W.seq fun K17 hK17 => ?_
      refine W.region ?_
      refine wl_assign rfl rfl ?_
      refine wl_assign rfl rfl ?_
      refine WL.nil ?_
      refine fun a ha => hK17 _ _ ?_ a ha
      refine W.seq fun K18 hK18 => ?_
      refine W.seq fun K19 hK19 => ?_
      refine W.region ?_
      refine wl_field (o := 1) (off' := 1) ff_31_1 rfl rfl rfl ?_
      refine wl_load_blk (i := 0) (vs := [v0_1]) (v := v0_1) tf_23 rfl rfl hS11 rfl rfl rfl ?_
      refine wl_lenr (e := ty_3) (l := x0.2.1) Try.underlying23 rfl rfl h0_1 ?_
      refine wl_move rfl rfl ?_
      refine WL.nil ?_
      refine fun a ha => hK19 _ _ ?_ a ha
      refine W.block ?_
      refine W.loopk (fun m a w20 => ∃ (y23 : Int) (y24 : Int) (y25 : Int), St 50 [(1, (.pointer (some ⟨b2, 0, none⟩))), (5, (.int .i64 y23)), (6, (.int .i64 y24)), (24, (.int .i64 (List.length x0.2.1 : Int))), (25, (.int .i64 y25))] a ∧ Below w0.heap.size w0 w20 ∧ Sep w0.heap.size w20 [R.blk b2 31 [v0_0, v0_1, (.int .i64 x0.2.2.1), (.int .i64 x0.2.2.2)]] ∧ F_spec_LeastOfShow_L1 x0 m y23 y24 y25 = some r) FU ?_ ?_
      ·
        exact fun a ha => ⟨(-1), 1, 0, ha.sub ⟨rfl, rfl, rfl, rfl, rfl, trivial⟩, hB10, (hS11.sel [0] rfl), hF⟩
      ·
        rintro m28 a w20 ⟨y23, y24, y25, ha, hB21, hS22, hF⟩ KL27 hKL27
        refine W.at ?_ ha
        cases m28 with
        | zero => exact noneE hF
        | succ m28 =>
          obtain ⟨nx26, hnx26⟩ : ∃ k, k = F_spec_LeastOfShow_L1 x0 m28 := ⟨_, rfl⟩
          rw [F_spec_LeastOfShow_L1, ← hnx26] at hF
          refine W.seq fun K29 hK29 => ?_
          refine W.region ?_
          refine wl_lss rfl rfl rfl ?_
          refine WL.nil ?_
          refine fun a ha => hK29 _ _ ?_ a ha
          refine W.seq fun K30 hK30 => ?_
          refine W.cond rfl (fun h31 => ?_) (fun h31 => ?_)
          · replace hF := ifP h31 hF
            refine W.skip ?_
            refine fun a ha => hK30 _ _ ?_ a ha
            refine W.seq fun K32 hK32 => ?_
            obtain ⟨k38, hk38, hF⟩ := jE2 hF
            have hJ39 : ∀ (y36 : Int) (y37 : Int) (w33 : World) (_ : k38 y36 y37 = some r) (_ : Below w0.heap.size w0 w33) (_ : Sep w0.heap.size w33 [R.blk b2 31 [v0_0, v0_1, (.int .i64 x0.2.2.1), (.int .i64 x0.2.2.2)]]), ∀ a, St 50 [(1, (.pointer (some ⟨b2, 0, none⟩))), (5, (.int .i64 y36)), (6, (.int .i64 y37)), (24, (.int .i64 (List.length x0.2.1 : Int))), (25, (.int .i64 y25))] a → K32 a w33 := by
              intro y36 y37 w33 hF hB34 hS35
              subst hk38
              refine fun a ha => hK32 _ _ ?_ a ha
              refine W.region ?_
              refine wl_add rfl rfl rfl ?_
              refine wl_move rfl rfl ?_
              refine WL.nil ?_
              rw [hnx26] at hF
              exact fun a ha => hKL27 a _ m28 (Nat.lt_succ_self m28) ⟨y36, y37, (w64 (y25 + 1)), ha.sub ⟨rfl, rfl, rfl, rfl, rfl, trivial⟩, hB34, (hS35.sel [0] rfl), hF⟩
            refine W.block ?_
            refine W.seq fun K40 hK40 => ?_
            refine W.region ?_
            refine wl_move rfl rfl ?_
            refine wl_assign rfl rfl ?_
            refine WL.nil ?_
            refine fun a ha => hK40 _ _ ?_ a ha
            refine W.seq fun K41 hK41 => ?_
            refine W.region ?_
            refine wl_load_blk (i := 0) (vs := [v0_0, v0_1, (.int .i64 x0.2.2.1), (.int .i64 x0.2.2.2)]) (v := (.agg #[v0_0, v0_1, (.int .i64 x0.2.2.1), (.int .i64 x0.2.2.2)])) tf_31 rfl rfl hS22 rfl rfl rfl ?_
            refine wl_move rfl rfl ?_
            obtain ⟨u42, hu42, hF⟩ := bindE hF
            refine wl_call rfl Try.call73 (C_spec_swMoves w20 x0 v0_0 (h0_0.ro hB21) v0_1 (h0_1.ro hB21) y25 _ hu42) rfl ?_
            rintro _ w45 ⟨v43, F44, rfl, hb46, hM49⟩
            refine ⟨_, rfl, ?_⟩
            have hB47 := hB21.trans (hb46.mono hB21.size)
            have hS48 := hS22.join hb46 hM49 hB21.size
            obtain ⟨u50, hu50, hF⟩ := bindE hF
            refine wl_call rfl Try.call72 (C_spec_LeastOfAll w45 u42 v43 (hS48.own_ro (i := 0) rfl) _ hu50) rfl ?_
            rintro _ w51 ⟨rfl, hb52⟩
            refine ⟨_, rfl, ?_⟩
            have hB53 := hB47.trans (hb52.mono hB47.size)
            have hS54 := hS48.below hb52
            refine wl_move rfl rfl ?_
            refine wl_extract rfl rfl rfl ?_
            refine wl_extract rfl rfl rfl ?_
            refine wl_extract rfl rfl rfl ?_
            refine wl_assign rfl rfl ?_
            refine wl_assign rfl rfl ?_
            refine wl_assign rfl rfl ?_
            refine WL.nil ?_
            refine fun a ha => hK41 _ _ ?_ a ha
            refine W.seq fun K56 hK56 => ?_
            obtain ⟨k61, hk61, hF⟩ := jE1 hF
            have hJ62 : ∀ (y60 : Bool) (w57 : World) (_ : k61 y60 = some r) (_ : Below w0.heap.size w0 w57) (_ : Sep w0.heap.size w57 [R.blk b2 31 [v0_0, v0_1, (.int .i64 x0.2.2.1), (.int .i64 x0.2.2.2)]]), ∀ a, St 50 [(1, (.pointer (some ⟨b2, 0, none⟩))), (5, (.int .i64 y23)), (6, (.int .i64 y24)), (8, (.int .i64 u50.1)), (9, (.int .i64 u50.2.1)), (24, (.int .i64 (List.length x0.2.1 : Int))), (25, (.int .i64 y25)), (44, (.bool y60))] a → K56 a w57 := by
              intro y60 w57 hF hB58 hS59
              subst hk61
              refine fun a ha => hK56 _ _ ?_ a ha
              refine W.cond rfl (fun h63 => ?_) (fun h63 => ?_)
              · replace hF := ifP h63 hF
                refine W.seq fun K64 hK64 => ?_
                refine W.region ?_
                refine wl_move rfl rfl ?_
                refine wl_assign rfl rfl ?_
                refine WL.nil ?_
                refine fun a ha => hK64 _ _ ?_ a ha
                refine W.region ?_
                refine wl_move rfl rfl ?_
                refine wl_assign rfl rfl ?_
                refine WL.nil ?_
                exact fun a ha => hJ39 (u50.1) (u50.2.1) _ hF hB58 (hS59.sel [0] rfl) a (ha.sub ⟨rfl, rfl, rfl, rfl, rfl, trivial⟩)
              · replace hF := ifN h63 hF
                refine W.skip ?_
                exact fun a ha => hJ39 (y23) (y24) _ hF hB58 (hS59.sel [0] rfl) a (ha.sub ⟨rfl, rfl, rfl, rfl, rfl, trivial⟩)
            refine W.region ?_
            refine wl_move rfl rfl ?_
            refine wl_lss rfl rfl rfl ?_
            refine wl_move rfl rfl ?_
            rcases bE (decide (y23 < 0)) with h65 | h65
            · replace hF := ifP h65 hF
              refine wl_off rfl rfl rfl h65 ?_
              refine wl_off rfl rfl rfl h65 ?_
              refine wl_off rfl rfl rfl h65 ?_
              refine wl_off rfl rfl rfl h65 ?_
              refine wl_off rfl rfl rfl h65 ?_
              refine wl_pick_t rfl rfl h65 rfl ?_
              refine WL.nil ?_
              exact fun a ha => hJ62 (true) _ hF hB53 (hS54.sel [1] rfl) a (ha.sub ⟨rfl, rfl, rfl, rfl, rfl, rfl, rfl, rfl, trivial⟩)
            · replace hF := ifN h65 hF
              refine wl_on rfl rfl h65 ?_
              refine wl_move rfl rfl ?_
              refine wl_on rfl rfl h65 ?_
              refine wl_move rfl rfl ?_
              refine wl_on rfl rfl h65 ?_
              refine wl_move rfl rfl ?_
              refine wl_on rfl rfl h65 ?_
              refine wl_move rfl rfl ?_
              refine wl_on rfl rfl h65 ?_
              obtain ⟨u66, hu66, hF⟩ := bindE hF
              refine wl_call rfl Try.call74 (C_spec_apLess w51 u50.1 u50.2.1 y23 y24 _ hu66) rfl ?_
              rintro _ w67 ⟨rfl, hb68⟩
              refine ⟨_, rfl, ?_⟩
              have hB69 := hB53.trans (hb68.mono hB53.size)
              have hS70 := hS54.below hb68
              refine wl_pick_f rfl rfl h65 rfl ?_
              refine WL.nil ?_
              exact fun a ha => hJ62 (u66) _ hF hB69 (hS70.sel [1] rfl) a (ha.sub ⟨rfl, rfl, rfl, rfl, rfl, rfl, rfl, rfl, trivial⟩)
          · replace hF := ifN h31 hF
            refine W.exit ?_
            refine fun a ha => hK18 _ _ ?_ a ha
            refine W.seq fun K72 hK72 => ?_
            refine W.region ?_
            refine wl_move rfl rfl ?_
            refine wl_move rfl rfl ?_
            refine wl_assign rfl rfl ?_
            refine wl_assign rfl rfl ?_
            refine wl_assign rfl rfl ?_
            refine WL.nil ?_
            refine fun a ha => hK72 _ _ ?_ a ha
            refine W.ret ?_
            have hr := Option.some.inj hF
            subst hr
            exact rets (vs := [(.int .i64 y23), (.int .i64 y24), (.bool true)]) hQ rfl ⟨rv_tmp rfl, rv_tmp rfl, rv_tmp rfl, trivial⟩ ⟨rfl, hB21⟩
  refine W.region ?_
  refine wl_load_blk (i := 0) (vs := [v0_0, v0_1, (.int .i64 x0.2.2.1), (.int .i64 x0.2.2.2)]) (v := (.agg #[v0_0, v0_1, (.int .i64 x0.2.2.1), (.int .i64 x0.2.2.2)])) tf_31 rfl rfl hS6 rfl rfl rfl ?_
  obtain ⟨u73, hu73, hF⟩ := bindE hF
  refine wl_call rfl Try.call63 (C_spec_swGood w3 x0 v0_0 (h0_0.ro hB5) v0_1 (h0_1.ro hB5) _ hu73) rfl ?_
  rintro _ w74 ⟨rfl, hb75⟩
  refine ⟨_, rfl, ?_⟩
  have hB76 := hB5.trans (hb75.mono hB5.size)
  have hS77 := hS6.below hb75
  refine wl_not rfl rfl ?_
  refine wl_move rfl rfl ?_
  rcases bE (!u73) with h79 | h79
  · replace hF := ifP h79 hF
    refine wl_off rfl rfl rfl h79 ?_
    refine wl_off rfl rfl rfl h79 ?_
    refine wl_off rfl rfl rfl h79 ?_
    refine wl_off rfl rfl rfl h79 ?_
    refine wl_off rfl rfl rfl h79 ?_
    refine wl_off rfl rfl rfl h79 ?_
    refine wl_pick_t rfl rfl h79 rfl ?_
    refine WL.nil ?_
    exact fun a ha => hJ14 (true) _ hF hB76 (hS77.sel [0] rfl) a (ha.sub ⟨rfl, rfl, trivial⟩)
  · replace hF := ifN h79 hF
    refine wl_on rfl rfl h79 ?_
    refine wl_field (o := 0) (off' := 0) ff_31_0 rfl rfl rfl ?_
    refine wl_on rfl rfl h79 ?_
    refine wl_load_blk (i := 0) (vs := [v0_0]) (v := v0_0) tf_29 rfl rfl hS77 rfl rfl rfl ?_
    refine wl_on rfl rfl h79 ?_
    obtain ⟨u80, hu80, hF⟩ := bindE hF
    refine wl_index (e := ty_70) Try.underlying29 rfl rfl rfl h0_0 hu80 ?_
    rintro p81 _ ⟨v83, rfl, hv84⟩ hp82
    refine wl_on rfl rfl h79 ?_
    refine wl_load_p (vs := [v83]) (v := v83) tf_70 rfl rfl (hp82.ro hB76) rfl rfl ?_
    refine wl_on rfl rfl h79 ?_
    refine wl_lenr (e := ty_54) (l := u80) Try.underlying70 rfl rfl hv84 ?_
    refine wl_on rfl rfl h79 ?_
    refine wl_lss rfl rfl rfl ?_
    refine wl_pick_f rfl rfl h79 rfl ?_
    refine WL.nil ?_
    exact fun a ha => hJ14 ((decide ((List.length u80 : Int) < 2))) _ hF hB76 (hS77.sel [0] rfl) a (ha.sub ⟨rfl, rfl, trivial⟩)
theorem C_spec_LeastToKeep (w0 : World) (x0 : ((List (List (Int × Int))) × (List Int) × Int × Int)) (v0_0 : Value) (h0_0 : rdS ty_70 (· < w0.heap.size) w0 v0_0 x0.1) (v0_1 : Value) (h0_1 : rdS ty_3 (· < w0.heap.size) w0 v0_1 x0.2.1) (r : (Int × Bool)) (hF : F_spec_LeastToKeep x0 = some r) :
    Calls Try.prog 20 [(.agg #[v0_0, v0_1, (.int .i64 x0.2.2.1), (.int .i64 x0.2.2.2)])].toArray w0 fun e w' => e = .returned (.tuple #[(.int .i64 r.1), (.bool r.2)]) ∧ Below w0.heap.size w0 w' := by
  refine calls_mk' Try.func20 rfl Try.ntmps20 rfl rfl fun Q hQ hP => ?_
  have hB : Below w0.heap.size w0 w0 := Below.refl _ _
  have hS : Sep w0.heap.size w0 [] := Sep.nil _ _
  unfold F_spec_LeastToKeep at hF
  refine W.seq fun K1 hK1 => ?_
  refine W.region ?_
  refine wl_box (cs := [v0_0, v0_1, (.int .i64 x0.2.2.1), (.int .i64 x0.2.2.2)]) rfl rfl rfl hB hS ?_
  intro b2 w3 hb4 hB5 hS6
  refine wl_assign rfl rfl ?_
  refine wl_assign rfl rfl ?_
  refine WL.nil ?_
  refine fun a ha => hK1 _ _ ?_ a ha
  refine W.seq fun K7 hK7 => ?_
  refine W.seq fun K8 hK8 => ?_
  refine W.region ?_
  refine wl_load_blk (i := 0) (vs := [v0_0, v0_1, (.int .i64 x0.2.2.1), (.int .i64 x0.2.2.2)]) (v := (.agg #[v0_0, v0_1, (.int .i64 x0.2.2.1), (.int .i64 x0.2.2.2)])) tf_31 rfl rfl hS6 rfl rfl rfl ?_
  obtain ⟨u9, hu9, hF⟩ := bindE hF
  refine wl_call rfl Try.call63 (C_spec_swGood w3 x0 v0_0 (h0_0.ro hB5) v0_1 (h0_1.ro hB5) _ hu9) rfl ?_
  rintro _ w10 ⟨rfl, hb11⟩
  refine ⟨_, rfl, ?_⟩
  have hB12 := hB5.trans (hb11.mono hB5.size)
  have hS13 := hS6.below hb11
  refine wl_not rfl rfl ?_
  refine WL.nil ?_
  refine fun a ha => hK8 _ _ ?_ a ha
  refine W.cond rfl (fun h15 => ?_) (fun h15 => ?_)
  · replace hF := ifP h15 hF
    refine W.seq fun K16 hK16 => ?_
    refine W.region ?_
    refine wl_assign rfl rfl ?_
    refine wl_assign rfl rfl ?_
    refine WL.nil ?_
    refine fun a ha => hK16 _ _ ?_ a ha
    refine W.ret ?_
    have hr := Option.some.inj hF
    subst hr
    exact rets (vs := [(.int .i64 0), (.bool false)]) hQ rfl ⟨rv_tmp rfl, rv_tmp rfl, trivial⟩ ⟨rfl, hB12⟩
  · replace hF := ifN h15 hF
    refine W.skip ?_
    refine fun a ha => hK7 _ _ ?_ a ha
    refine W.seq fun K17 hK17 => ?_
    refine W.seq fun K18 hK18 => ?_
    refine W.region ?_
    refine wl_field (o := 0) (off' := 0) ff_31_0 rfl rfl rfl ?_
    refine wl_load_blk (i := 0) (vs := [v0_0]) (v := v0_0) tf_29 rfl rfl hS13 rfl rfl rfl ?_
    obtain ⟨u19, hu19, hF⟩ := bindE hF
    refine wl_index (e := ty_70) Try.underlying29 rfl rfl rfl h0_0 hu19 ?_
    rintro p20 _ ⟨v22, rfl, hv23⟩ hp21
    refine wl_load_p (vs := [v22]) (v := v22) tf_70 rfl rfl (hp21.ro hB12) rfl rfl ?_
    refine wl_lenr (e := ty_54) (l := u19) Try.underlying70 rfl rfl hv23 ?_
    refine wl_lss rfl rfl rfl ?_
    refine WL.nil ?_
    refine fun a ha => hK18 _ _ ?_ a ha
    refine W.cond rfl (fun h24 => ?_) (fun h24 => ?_)
    · replace hF := ifP h24 hF
      refine W.seq fun K25 hK25 => ?_
      refine W.region ?_
      refine wl_assign rfl rfl ?_
      refine wl_assign rfl rfl ?_
      refine WL.nil ?_
      refine fun a ha => hK25 _ _ ?_ a ha
      refine W.ret ?_
      have hr := Option.some.inj hF
      subst hr
      exact rets (vs := [(.int .i64 80), (.bool true)]) hQ rfl ⟨rv_tmp rfl, rv_tmp rfl, trivial⟩ ⟨rfl, hB12⟩
    · replace hF := ifN h24 hF
      refine W.skip ?_
      refine fun a ha => hK17 _ _ ?_ a ha
      refine W.seq fun K26 hK26 => ?_
      refine W.region ?_
      refine wl_load_blk (i := 0) (vs := [v0_0, v0_1, (.int .i64 x0.2.2.1), (.int .i64 x0.2.2.2)]) (v := (.agg #[v0_0, v0_1, (.int .i64 x0.2.2.1), (.int .i64 x0.2.2.2)])) tf_31 rfl rfl hS13 rfl rfl rfl ?_
      obtain ⟨u27, hu27, hF⟩ := bindE hF
      refine wl_call rfl Try.call22 (C_spec_LeastOfShow w10 x0 v0_0 (h0_0.ro hB12) v0_1 (h0_1.ro hB12) _ hu27) rfl ?_
      rintro _ w28 ⟨rfl, hb29⟩
      refine ⟨_, rfl, ?_⟩
      have hB30 := hB12.trans (hb29.mono hB12.size)
      have hS31 := hS13.below hb29
      refine wl_move rfl rfl ?_
      refine wl_extract rfl rfl rfl ?_
      refine wl_extract rfl rfl rfl ?_
      refine wl_extract rfl rfl rfl ?_
      refine wl_assign rfl rfl ?_
      refine wl_assign rfl rfl ?_
      refine wl_assign rfl rfl ?_
      refine WL.nil ?_
      refine fun a ha => hK26 _ _ ?_ a ha
      refine W.seq fun K33 hK33 => ?_
      refine W.region ?_
      refine wl_assign rfl rfl ?_
      refine WL.nil ?_
      refine fun a ha => hK33 _ _ ?_ a ha
      refine W.seq fun K34 hK34 => ?_
      refine W.block ?_
      refine W.loopk (fun m a w35 => ∃ (y38 : Int), St 33 [(4, (.int .i64 u27.1)), (5, (.int .i64 u27.2.1)), (7, (.int .i64 y38))] a ∧ Below w0.heap.size w0 w35 ∧ Sep w0.heap.size w35 [] ∧ F_spec_LeastToKeep_L1 u27 m y38 = some r) FU ?_ ?_
      ·
        exact fun a ha => ⟨80, ha.sub ⟨rfl, rfl, rfl, trivial⟩, hB30, (hS31.sel [] rfl), hF⟩
      ·
        rintro m41 a w35 ⟨y38, ha, hB36, hS37, hF⟩ KL40 hKL40
        refine W.at ?_ ha
        cases m41 with
        | zero => exact noneE hF
        | succ m41 =>
          obtain ⟨nx39, hnx39⟩ : ∃ k, k = F_spec_LeastToKeep_L1 u27 m41 := ⟨_, rfl⟩
          rw [F_spec_LeastToKeep_L1, ← hnx39] at hF
          refine W.seq fun K42 hK42 => ?_
          refine W.seq fun K43 hK43 => ?_
          refine W.region ?_
          refine wl_move rfl rfl ?_
          refine wl_move rfl rfl ?_
          refine wl_mul rfl rfl rfl ?_
          refine wl_move rfl rfl ?_
          refine wl_mul rfl rfl rfl ?_
          refine wl_move rfl rfl ?_
          refine wl_gtr rfl rfl rfl ?_
          refine WL.nil ?_
          refine fun a ha => hK43 _ _ ?_ a ha
          refine W.cond rfl (fun h44 => ?_) (fun h44 => ?_)
          · replace hF := ifP h44 hF
            refine W.skip ?_
            refine fun a ha => hK42 _ _ ?_ a ha
            refine W.block ?_
            refine W.region ?_
            refine wl_move rfl rfl ?_
            refine wl_sub rfl rfl rfl ?_
            refine wl_assign rfl rfl ?_
            refine WL.nil ?_
            rw [hnx39] at hF
            exact fun a ha => hKL40 a _ m41 (Nat.lt_succ_self m41) ⟨(w64 (y38 - 1)), ha.sub ⟨rfl, rfl, rfl, trivial⟩, hB36, (hS37.sel [] rfl), hF⟩
          · replace hF := ifN h44 hF
            refine W.exit ?_
            refine fun a ha => hK34 _ _ ?_ a ha
            refine W.seq fun K45 hK45 => ?_
            refine W.region ?_
            refine wl_move rfl rfl ?_
            refine wl_assign rfl rfl ?_
            refine wl_assign rfl rfl ?_
            refine WL.nil ?_
            refine fun a ha => hK45 _ _ ?_ a ha
            refine W.ret ?_
            have hr := Option.some.inj hF
            subst hr
            exact rets (vs := [(.int .i64 y38), (.bool true)]) hQ rfl ⟨rv_tmp rfl, rv_tmp rfl, trivial⟩ ⟨rfl, hB36⟩
theorem C_impl_LeastToKeep (w0 : World) (x0 : ((List (List (Int × Int))) × (List Int) × Int × Int)) (v0_0 : Value) (h0_0 : rdS ty_70 (· < w0.heap.size) w0 v0_0 x0.1) (v0_1 : Value) (h0_1 : rdS ty_3 (· < w0.heap.size) w0 v0_1 x0.2.1) (r : (Int × Bool)) (hF : F_impl_LeastToKeep x0 = some r) :
    Calls Try.prog 21 [(.agg #[v0_0, v0_1, (.int .i64 x0.2.2.1), (.int .i64 x0.2.2.2)])].toArray w0 fun e w' => e = .returned (.tuple #[(.int .i64 r.1), (.bool r.2)]) ∧ Below w0.heap.size w0 w' := by
  refine calls_mk' Try.func21 rfl Try.ntmps21 rfl rfl fun Q hQ hP => ?_
  have hB : Below w0.heap.size w0 w0 := Below.refl _ _
  have hS : Sep w0.heap.size w0 [] := Sep.nil _ _
  unfold F_impl_LeastToKeep at hF
  refine W.seq fun K1 hK1 => ?_
  refine W.region ?_
  refine wl_box (cs := [v0_0, v0_1, (.int .i64 x0.2.2.1), (.int .i64 x0.2.2.2)]) rfl rfl rfl hB hS ?_
  intro b2 w3 hb4 hB5 hS6
  refine wl_assign rfl rfl ?_
  refine wl_assign rfl rfl ?_
  refine WL.nil ?_
  refine fun a ha => hK1 _ _ ?_ a ha
  refine W.seq fun K7 hK7 => ?_
  refine W.seq fun K8 hK8 => ?_
  refine W.region ?_
  refine wl_load_blk (i := 0) (vs := [v0_0, v0_1, (.int .i64 x0.2.2.1), (.int .i64 x0.2.2.2)]) (v := (.agg #[v0_0, v0_1, (.int .i64 x0.2.2.1), (.int .i64 x0.2.2.2)])) tf_31 rfl rfl hS6 rfl rfl rfl ?_
  obtain ⟨u9, hu9, hF⟩ := bindE hF
  refine wl_call rfl Try.call67 (C_impl_IsShow w3 x0 v0_0 (h0_0.ro hB5) v0_1 (h0_1.ro hB5) _ hu9) rfl ?_
  rintro _ w10 ⟨rfl, hb11⟩
  refine ⟨_, rfl, ?_⟩
  have hB12 := hB5.trans (hb11.mono hB5.size)
  have hS13 := hS6.below hb11
  refine wl_not rfl rfl ?_
  refine WL.nil ?_
  refine fun a ha => hK8 _ _ ?_ a ha
  refine W.cond rfl (fun h15 => ?_) (fun h15 => ?_)
  · replace hF := ifP h15 hF
    refine W.seq fun K16 hK16 => ?_
    refine W.region ?_
    refine wl_assign rfl rfl ?_
    refine wl_assign rfl rfl ?_
    refine WL.nil ?_
    refine fun a ha => hK16 _ _ ?_ a ha
    refine W.ret ?_
    have hr := Option.some.inj hF
    subst hr
    exact rets (vs := [(.int .i64 0), (.bool false)]) hQ rfl ⟨rv_tmp rfl, rv_tmp rfl, trivial⟩ ⟨rfl, hB12⟩
  · replace hF := ifN h15 hF
    refine W.skip ?_
    refine fun a ha => hK7 _ _ ?_ a ha
    refine W.seq fun K17 hK17 => ?_
    refine W.region ?_
    refine wl_assign rfl rfl ?_
    refine WL.nil ?_
    refine fun a ha => hK17 _ _ ?_ a ha
    refine W.seq fun K18 hK18 => ?_
    refine W.seq fun K19 hK19 => ?_
    refine W.region ?_
    refine wl_field (o := 1) (off' := 1) ff_31_1 rfl rfl rfl ?_
    refine wl_load_blk (i := 0) (vs := [v0_1]) (v := v0_1) tf_23 rfl rfl hS13 rfl rfl rfl ?_
    refine wl_lenr (e := ty_3) (l := x0.2.1) Try.underlying23 rfl rfl h0_1 ?_
    refine wl_move rfl rfl ?_
    refine WL.nil ?_
    refine fun a ha => hK19 _ _ ?_ a ha
    refine W.block ?_
    refine W.loopk (fun m a w20 => ∃ (y23 : Int) (y24 : Int), St 28 [(1, (.pointer (some ⟨b2, 0, none⟩))), (4, (.int .i64 y23)), (12, (.int .i64 (List.length x0.2.1 : Int))), (13, (.int .i64 y24))] a ∧ Below w0.heap.size w0 w20 ∧ Sep w0.heap.size w20 [R.blk b2 31 [v0_0, v0_1, (.int .i64 x0.2.2.1), (.int .i64 x0.2.2.2)]] ∧ F_impl_LeastToKeep_L1 x0 m y23 y24 = some r) FU ?_ ?_
    ·
      exact fun a ha => ⟨80, 0, ha.sub ⟨rfl, rfl, rfl, rfl, trivial⟩, hB12, (hS13.sel [0] rfl), hF⟩
    ·
      rintro m27 a w20 ⟨y23, y24, ha, hB21, hS22, hF⟩ KL26 hKL26
      refine W.at ?_ ha
      cases m27 with
      | zero => exact noneE hF
      | succ m27 =>
        obtain ⟨nx25, hnx25⟩ : ∃ k, k = F_impl_LeastToKeep_L1 x0 m27 := ⟨_, rfl⟩
        rw [F_impl_LeastToKeep_L1, ← hnx25] at hF
        refine W.seq fun K28 hK28 => ?_
        refine W.region ?_
        refine wl_lss rfl rfl rfl ?_
        refine WL.nil ?_
        refine fun a ha => hK28 _ _ ?_ a ha
        refine W.seq fun K29 hK29 => ?_
        refine W.cond rfl (fun h30 => ?_) (fun h30 => ?_)
        · replace hF := ifP h30 hF
          refine W.skip ?_
          refine fun a ha => hK29 _ _ ?_ a ha
          refine W.seq fun K31 hK31 => ?_
          refine W.block ?_
          refine W.seq fun K32 hK32 => ?_
          refine W.region ?_
          refine wl_move rfl rfl ?_
          refine wl_assign rfl rfl ?_
          refine WL.nil ?_
          refine fun a ha => hK32 _ _ ?_ a ha
          refine W.seq fun K33 hK33 => ?_
          refine W.region ?_
          refine wl_load_blk (i := 0) (vs := [v0_0, v0_1, (.int .i64 x0.2.2.1), (.int .i64 x0.2.2.2)]) (v := (.agg #[v0_0, v0_1, (.int .i64 x0.2.2.1), (.int .i64 x0.2.2.2)])) tf_31 rfl rfl hS22 rfl rfl rfl ?_
          refine wl_move rfl rfl ?_
          obtain ⟨u34, hu34, hF⟩ := bindE hF
          refine wl_call rfl Try.call70 (C_impl_showMoves w20 x0 v0_0 (h0_0.ro hB21) v0_1 (h0_1.ro hB21) y24 _ hu34) rfl ?_
          rintro _ w37 ⟨v35, F36, rfl, hb38, hM41⟩
          refine ⟨_, rfl, ?_⟩
          have hB39 := hB21.trans (hb38.mono hB21.size)
          have hS40 := hS22.join hb38 hM41 hB21.size
          refine wl_assign rfl rfl ?_
          refine WL.nil ?_
          refine fun a ha => hK33 _ _ ?_ a ha
          refine W.block ?_
          refine W.loopk (fun m a w42 => ∃ (y45 : Int), St 28 [(1, (.pointer (some ⟨b2, 0, none⟩))), (4, (.int .i64 y45)), (6, v35), (12, (.int .i64 (List.length x0.2.1 : Int))), (13, (.int .i64 y24))] a ∧ Below w0.heap.size w0 w42 ∧ Sep w0.heap.size w42 [R.blk b2 31 [v0_0, v0_1, (.int .i64 x0.2.2.1), (.int .i64 x0.2.2.2)], R.own ty_96 F36 v35 u34] ∧ F_impl_LeastToKeep_L2 u34 nx25 y24 m y45 = some r) FU ?_ ?_
          ·
            exact fun a ha => ⟨y23, ha.sub ⟨rfl, rfl, rfl, rfl, rfl, trivial⟩, hB39, (hS40.sel [1, 0] rfl), hF⟩
          ·
            rintro m48 a w42 ⟨y45, ha, hB43, hS44, hF⟩ KL47 hKL47
            refine W.at ?_ ha
            cases m48 with
            | zero => exact noneE hF
            | succ m48 =>
              obtain ⟨nx46, hnx46⟩ : ∃ k, k = F_impl_LeastToKeep_L2 u34 nx25 y24 m48 := ⟨_, rfl⟩
              rw [F_impl_LeastToKeep_L2, ← hnx46] at hF
              refine W.seq fun K49 hK49 => ?_
              refine W.seq fun K50 hK50 => ?_
              refine W.region ?_
              refine wl_move rfl rfl ?_
              refine wl_move rfl rfl ?_
              obtain ⟨u51, hu51, hF⟩ := bindE hF
              refine wl_call rfl Try.call71 (C_impl_pairsTooClose w42 u34 v35 (hS44.own_ro (i := 1) rfl) y45 _ hu51) rfl ?_
              rintro _ w54 ⟨v52, F53, rfl, hb55, hM58⟩
              refine ⟨_, rfl, ?_⟩
              have hB56 := hB43.trans (hb55.mono hB43.size)
              have hS57 := hS44.join hb55 hM58 hB43.size
              refine wl_lenr (e := ty_23) (l := u51) Try.underlying39 rfl rfl (hS57.own_ro (i := 0) rfl) ?_
              refine wl_gtr rfl rfl rfl ?_
              refine WL.nil ?_
              refine fun a ha => hK50 _ _ ?_ a ha
              refine W.cond rfl (fun h59 => ?_) (fun h59 => ?_)
              · replace hF := ifP h59 hF
                refine W.skip ?_
                refine fun a ha => hK49 _ _ ?_ a ha
                refine W.block ?_
                refine W.region ?_
                refine wl_move rfl rfl ?_
                refine wl_sub rfl rfl rfl ?_
                refine wl_assign rfl rfl ?_
                refine WL.nil ?_
                rw [hnx46] at hF
                exact fun a ha => hKL47 a _ m48 (Nat.lt_succ_self m48) ⟨(w64 (y45 - 1)), ha.sub ⟨rfl, rfl, rfl, rfl, rfl, trivial⟩, hB56, (hS57.sel [1, 2] rfl), hF⟩
              · replace hF := ifN h59 hF
                refine W.exit ?_
                refine fun a ha => hK31 _ _ ?_ a ha
                refine W.region ?_
                refine wl_add rfl rfl rfl ?_
                refine wl_move rfl rfl ?_
                refine WL.nil ?_
                rw [hnx25] at hF
                exact fun a ha => hKL26 a _ m27 (Nat.lt_succ_self m27) ⟨y45, (w64 (y24 + 1)), ha.sub ⟨rfl, rfl, rfl, rfl, trivial⟩, hB56, (hS57.sel [1] rfl), hF⟩
        · replace hF := ifN h30 hF
          refine W.exit ?_
          refine fun a ha => hK18 _ _ ?_ a ha
          refine W.seq fun K60 hK60 => ?_
          refine W.region ?_
          refine wl_move rfl rfl ?_
          refine wl_assign rfl rfl ?_
          refine wl_assign rfl rfl ?_
          refine WL.nil ?_
          refine fun a ha => hK60 _ _ ?_ a ha
          refine W.ret ?_
          have hr := Option.some.inj hF
          subst hr
          exact rets (vs := [(.int .i64 y23), (.bool true)]) hQ rfl ⟨rv_tmp rfl, rv_tmp rfl, trivial⟩ ⟨rfl, hB21⟩
theorem C_laws_FnExactLeastToKeep (w0 : World) (x0 : ((List (List (Int × Int))) × (List Int) × Int × Int)) (v0_0 : Value) (h0_0 : rdS ty_119 (· < w0.heap.size) w0 v0_0 x0.1) (v0_1 : Value) (h0_1 : rdS ty_3 (· < w0.heap.size) w0 v0_1 x0.2.1) (r : Bool) (hF : F_laws_FnExactLeastToKeep x0 = some r) :
    Calls Try.prog 4 [(.agg #[v0_0, v0_1, (.int .i64 x0.2.2.1), (.int .i64 x0.2.2.2)])].toArray w0 fun e w' => e = .returned (.bool r) ∧ Below w0.heap.size w0 w' := by
  refine calls_mk' Try.func4 rfl Try.ntmps4 rfl rfl fun Q hQ hP => ?_
  have hB : Below w0.heap.size w0 w0 := Below.refl _ _
  have hS : Sep w0.heap.size w0 [] := Sep.nil _ _
  unfold F_laws_FnExactLeastToKeep at hF
  refine W.seq fun K1 hK1 => ?_
  refine W.region ?_
  refine wl_box (cs := [v0_0, v0_1, (.int .i64 x0.2.2.1), (.int .i64 x0.2.2.2)]) rfl rfl rfl hB hS ?_
  intro b2 w3 hb4 hB5 hS6
  refine wl_assign rfl rfl ?_
  refine WL.nil ?_
  refine fun a ha => hK1 _ _ ?_ a ha
  refine W.seq fun K7 hK7 => ?_
  refine W.region ?_
  refine wl_assign rfl rfl ?_
  refine WL.nil ?_
  refine fun a ha => hK7 _ _ ?_ a ha
  refine W.seq fun K8 hK8 => ?_
  refine W.region ?_
  refine wl_load_blk (i := 0) (vs := [v0_0, v0_1, (.int .i64 x0.2.2.1), (.int .i64 x0.2.2.2)]) (v := (.agg #[v0_0, v0_1, (.int .i64 x0.2.2.1), (.int .i64 x0.2.2.2)])) tf_25 rfl rfl hS6 rfl rfl rfl ?_
  refine wl_move rfl rfl ?_
  obtain ⟨u9, hu9, hF⟩ := bindE hF
  refine wl_call rfl Try.call15 (C_laws_szShow w3 x0 v0_0 (h0_0.ro hB5) v0_1 (h0_1.ro hB5) 1048576 _ hu9) rfl ?_
  rintro _ w10 ⟨rfl, hb11⟩
  refine ⟨_, rfl, ?_⟩
  have hB12 := hB5.trans (hb11.mono hB5.size)
  have hS13 := hS6.below hb11
  refine wl_assign rfl rfl ?_
  refine WL.nil ?_
  refine fun a ha => hK8 _ _ ?_ a ha
  refine W.seq fun K15 hK15 => ?_
  refine W.seq fun K16 hK16 => ?_
  refine W.region ?_
  refine wl_move rfl rfl ?_
  refine wl_lss rfl rfl rfl ?_
  refine WL.nil ?_
  refine fun a ha => hK16 _ _ ?_ a ha
  refine W.cond rfl (fun h17 => ?_) (fun h17 => ?_)
  · replace hF := ifP h17 hF
    refine W.seq fun K18 hK18 => ?_
    refine W.region ?_
    refine wl_assign rfl rfl ?_
    refine WL.nil ?_
    refine fun a ha => hK18 _ _ ?_ a ha
    refine W.ret ?_
    have hr := Option.some.inj hF
    subst hr
    exact rets (vs := [(.bool true)]) hQ rfl ⟨rv_tmp rfl, trivial⟩ ⟨rfl, hB12⟩
  · replace hF := ifN h17 hF
    refine W.skip ?_
    refine fun a ha => hK15 _ _ ?_ a ha
    refine W.seq fun K19 hK19 => ?_
    refine W.region ?_
    refine wl_load_blk (i := 0) (vs := [v0_0, v0_1, (.int .i64 x0.2.2.1), (.int .i64 x0.2.2.2)]) (v := (.agg #[v0_0, v0_1, (.int .i64 x0.2.2.1), (.int .i64 x0.2.2.2)])) tf_25 rfl rfl hS13 rfl rfl rfl ?_
    obtain ⟨u20, hu20, hF⟩ := bindE hF
    refine wl_call rfl Try.call17 (C_laws_toShow w10 x0 v0_0 (h0_0.ro hB12) v0_1 (h0_1.ro hB12) _ hu20) rfl ?_
    rintro _ w25 ⟨v21, F22, v23, F24, rfl, hb26, hM29⟩
    refine ⟨_, rfl, ?_⟩
    have hB27 := hB12.trans (hb26.mono hB12.size)
    have hS28 := hS13.join hb26 hM29 hB12.size
    obtain ⟨u30, hu30, hF⟩ := bindE hF
    refine wl_call rfl Try.call20 (C_spec_LeastToKeep w25 u20 v21 (hS28.own_ro (i := 0) rfl) v23 (hS28.own_ro (i := 1) rfl) _ hu30) rfl ?_
    rintro _ w31 ⟨rfl, hb32⟩
    refine ⟨_, rfl, ?_⟩
    have hB33 := hB27.trans (hb32.mono hB27.size)
    have hS34 := hS28.below hb32
    refine wl_move rfl rfl ?_
    refine wl_extract rfl rfl rfl ?_
    refine wl_extract rfl rfl rfl ?_
    refine wl_assign rfl rfl ?_
    refine wl_assign rfl rfl ?_
    refine WL.nil ?_
    refine fun a ha => hK19 _ _ ?_ a ha
    refine W.seq fun K36 hK36 => ?_
    refine W.region ?_
    refine wl_load_blk (i := 2) (vs := [v0_0, v0_1, (.int .i64 x0.2.2.1), (.int .i64 x0.2.2.2)]) (v := (.agg #[v0_0, v0_1, (.int .i64 x0.2.2.1), (.int .i64 x0.2.2.2)])) tf_25 rfl rfl hS34 rfl rfl rfl ?_
    obtain ⟨u37, hu37, hF⟩ := bindE hF
    refine wl_call rfl Try.call17 (C_laws_toShow w31 x0 v0_0 (h0_0.ro hB33) v0_1 (h0_1.ro hB33) _ hu37) rfl ?_
    rintro _ w42 ⟨v38, F39, v40, F41, rfl, hb43, hM46⟩
    refine ⟨_, rfl, ?_⟩
    have hB44 := hB33.trans (hb43.mono hB33.size)
    have hS45 := hS34.join hb43 hM46 hB33.size
    refine wl_alloc (cs := [(.slice none 0 0), (.slice none 0 0), (.int .i64 0), (.int .i64 0)]) tf_31 rfl rfl hB44 hS45 ?_
    intro b47 w48 hb49 hB50 hS51
    refine wl_store_blk (i := 0) (vs := [v38, v40, (.int .i64 u37.2.2.1), (.int .i64 u37.2.2.2)]) (cs' := [v38, v40, (.int .i64 u37.2.2.1), (.int .i64 u37.2.2.2)]) tf_31 rfl rfl rfl rfl hB50 hS51 rfl rfl ⟨(hS51.own_ro (i := 1) rfl).one, (hS51.own_ro (i := 2) rfl).one, rfl, rfl, trivial⟩ rfl ?_
    intro w52 hk55 hB53 hS54
    refine WL.nil ?_
    refine fun a ha => hK36 _ _ ?_ a ha
    refine W.seq fun K56 hK56 => ?_
    refine W.region ?_
    refine wl_load_blk (i := 0) (vs := [v38, v40, (.int .i64 u37.2.2.1), (.int .i64 u37.2.2.2)]) (v := (.agg #[v38, v40, (.int .i64 u37.2.2.1), (.int .i64 u37.2.2.2)])) tf_31 rfl rfl hS54 rfl rfl rfl ?_
    obtain ⟨u57, hu57, hF⟩ := bindE hF
    refine wl_call rfl Try.call21 (C_impl_LeastToKeep w52 u37 v38 (hS54.own_ro (i := 1) rfl) v40 (hS54.own_ro (i := 2) rfl) _ hu57) rfl ?_
    rintro _ w58 ⟨rfl, hb59⟩
    refine ⟨_, rfl, ?_⟩
    have hB60 := hB53.trans (hb59.mono hB53.size)
    have hS61 := hS54.below hb59
    refine wl_move rfl rfl ?_
    refine wl_extract rfl rfl rfl ?_
    refine wl_extract rfl rfl rfl ?_
    refine wl_assign rfl rfl ?_
    refine wl_assign rfl rfl ?_
    refine WL.nil ?_
    refine fun a ha => hK56 _ _ ?_ a ha
    refine W.seq fun K63 hK63 => ?_
    refine W.seq fun K64 hK64 => ?_
    obtain ⟨k69, hk69, hF⟩ := jE1 hF
    have hJ70 : ∀ (y68 : Bool) (w65 : World) (_ : k69 y68 = some r) (_ : Below w0.heap.size w0 w65) (_ : Sep w0.heap.size w65 [R.blk b2 25 [v0_0, v0_1, (.int .i64 x0.2.2.1), (.int .i64 x0.2.2.2)], R.own ty_70 F39 v38 u37.1, R.own ty_3 F41 v40 u37.2.1, R.blk b47 31 [v38, v40, (.int .i64 u37.2.2.1), (.int .i64 u37.2.2.2)]]), ∀ a, St 40 [(1, (.pointer (some ⟨b2, 0, none⟩))), (6, (.pointer (some ⟨b47, 0, none⟩))), (34, (.bool y68))] a → K64 a w65 := by
      intro y68 w65 hF hB66 hS67
      subst hk69
      refine fun a ha => hK64 _ _ ?_ a ha
      refine W.cond rfl (fun h71 => ?_) (fun h71 => ?_)
      · replace hF := ifP h71 hF
        refine W.seq fun K72 hK72 => ?_
        refine W.region ?_
        refine wl_assign rfl rfl ?_
        refine WL.nil ?_
        refine fun a ha => hK72 _ _ ?_ a ha
        refine W.ret ?_
        have hr := Option.some.inj hF
        subst hr
        exact rets (vs := [(.bool false)]) hQ rfl ⟨rv_tmp rfl, trivial⟩ ⟨rfl, hB66⟩
      · replace hF := ifN h71 hF
        refine W.skip ?_
        refine fun a ha => hK63 _ _ ?_ a ha
        refine W.seq fun K73 hK73 => ?_
        refine W.seq fun K74 hK74 => ?_
        refine W.regionH mixed_ [] hB66 hS67 ?_
        intro w75 hb76 hB77 hS78
        have hSW79 := KeepX.refl w75 []
        refine WH.takex (i := 0) rfl (by kernel_rfl) (by kernel_rfl) (by kernel_rfl) hP hSW79 ?_
        refine pr_load_blk (i := 3) (vs := [v38, v40, (.int .i64 u37.2.2.1), (.int .i64 u37.2.2.2)]) (v := (.agg #[v38, v40, (.int .i64 u37.2.2.1), (.int .i64 u37.2.2.2)])) tf_31 rfl rfl hS78 rfl rfl rfl (by simp) ?_
        refine WH.takex (i := 1) rfl (by kernel_rfl) (by kernel_rfl) (by kernel_rfl) hP hSW79 ?_
        refine pr_load_blk (i := 0) (vs := [v0_0, v0_1, (.int .i64 x0.2.2.1), (.int .i64 x0.2.2.2)]) (v := (.agg #[v0_0, v0_1, (.int .i64 x0.2.2.1), (.int .i64 x0.2.2.2)])) tf_25 rfl rfl hS78 rfl rfl rfl (by simp) ?_
        refine WH.one (i := 2) (by kernel_rfl) rfl ?_
        obtain ⟨u80, hu80, hF⟩ := bindE hF
        refine wl_call rfl Try.call17 (C_laws_toShow w75 x0 v0_0 (h0_0.ro hB77) v0_1 (h0_1.ro hB77) _ hu80) rfl ?_
        rintro _ w85 ⟨v81, F82, v83, F84, rfl, hb86, hM89⟩
        refine ⟨_, rfl, ?_⟩
        have hB87 := hB77.trans (hb86.mono hB77.size)
        have hS88 := hS78.join hb86 hM89 hB77.size
        have hSW90 := hSW79.ext hb86
        refine WL.nil (WH.ret hSW90 ?_)
        refine WH.one (i := 3) (by kernel_rfl) rfl ?_
        obtain ⟨u91, hu91, hF⟩ := bindE hF
        refine wl_call rfl Try.call19 (C_laws_eqShow w85 u37 v38 (hS88.own_ro (i := 3) rfl) v40 (hS88.own_ro (i := 4) rfl) u80 v81 (hS88.own_ro (i := 0) rfl) v83 (hS88.own_ro (i := 1) rfl) _ hu91) rfl ?_
        rintro _ w92 ⟨rfl, hb93⟩
        refine ⟨_, rfl, ?_⟩
        have hB94 := hB87.trans (hb93.mono hB87.size)
        have hS95 := hS88.below hb93
        have hSW97 := hSW90.ext hb93
        refine WL.nil (WH.ret hSW97 ?_)
        refine WH.takex (i := 4) rfl (by kernel_rfl) (by kernel_rfl) (by kernel_rfl) hP hSW97 ?_
        refine pr_not rfl rfl ?_
        refine WH.done (by kernel_rfl) ?_
        refine fun a ha => hK74 _ _ ?_ a ha
        refine W.cond rfl (fun h98 => ?_) (fun h98 => ?_)
        · replace hF := ifP h98 hF
          refine W.seq fun K99 hK99 => ?_
          refine W.region ?_
          refine wl_assign rfl rfl ?_
          refine WL.nil ?_
          refine fun a ha => hK99 _ _ ?_ a ha
          refine W.ret ?_
          have hr := Option.some.inj hF
          subst hr
          exact rets (vs := [(.bool false)]) hQ rfl ⟨rv_tmp rfl, trivial⟩ ⟨rfl, hB94⟩
        · replace hF := ifN h98 hF
          refine W.skip ?_
          refine fun a ha => hK73 _ _ ?_ a ha
          refine W.seq fun K100 hK100 => ?_
          refine W.region ?_
          refine wl_assign rfl rfl ?_
          refine WL.nil ?_
          refine fun a ha => hK100 _ _ ?_ a ha
          refine W.ret ?_
          have hr := Option.some.inj hF
          subst hr
          exact rets (vs := [(.bool true)]) hQ rfl ⟨rv_tmp rfl, trivial⟩ ⟨rfl, hB94⟩
    refine W.region ?_
    refine wl_move rfl rfl ?_
    refine wl_move rfl rfl ?_
    refine wl_neq rfl rfl rfl ?_
    refine wl_move rfl rfl ?_
    rcases bE (u57.1 != u30.1) with h101 | h101
    · replace hF := ifP h101 hF
      refine wl_off rfl rfl rfl h101 ?_
      refine wl_off rfl rfl rfl h101 ?_
      refine wl_off rfl rfl rfl h101 ?_
      refine wl_pick_t rfl rfl h101 rfl ?_
      refine WL.nil ?_
      exact fun a ha => hJ70 (true) _ hF hB60 (hS61.sel [5, 1, 2, 0] rfl) a (ha.sub ⟨rfl, rfl, rfl, trivial⟩)
    · replace hF := ifN h101 hF
      refine wl_on rfl rfl h101 ?_
      refine wl_move rfl rfl ?_
      refine wl_on rfl rfl h101 ?_
      refine wl_move rfl rfl ?_
      refine wl_on rfl rfl h101 ?_
      refine wl_neqb Try.underlying4 rfl rfl rfl ?_
      refine wl_pick_f rfl rfl h101 rfl ?_
      refine WL.nil ?_
      exact fun a ha => hJ70 ((u57.2 != u30.2)) _ hF hB60 (hS61.sel [5, 1, 2, 0] rfl) a (ha.sub ⟨rfl, rfl, rfl, trivial⟩)
end Go.Proofs.Ythlfhcefeaehmaa
