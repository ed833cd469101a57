/-
  THE WALKS of functions of this seat, by program (gen.py, prune.py).
-/
import Derived.Test.YtcndhhjolnebdaaWXFnExactHaltPerformerb
set_option linter.unusedSimpArgs false
set_option linter.unusedVariables false
set_option maxRecDepth 100000
namespace Go.Proofs.Ytcndhhjolnebdaa
open Go Go.RowKit
theorem C_slices_insertionSortOrdered_int__mut (w0 : World) (x0 : (List Int)) (v0_0 : Value) (B0_0 : List Nat) (x1 : Int) (x2 : Int) (hS0 : Sep 0 w0 [R.own ty_3 B0_0 v0_0 x0]) (r : (List Int)) (hF : F_slices_insertionSortOrdered_int__mut x0 x1 x2 = some r) :
    Calls Try.prog 103 [v0_0, (.int .i64 x1), (.int .i64 x2)].toArray w0 fun e w' => e = .returned (.tuple #[]) ∧ Below 0 (wE w0) w' ∧ Sep 0 w' [R.rest w0 (fps [R.own ty_3 B0_0 v0_0 x0]), R.own ty_3 B0_0 v0_0 r] := by
  refine calls_mkn' Try.func103 rfl Try.ntmps103 rfl rfl fun Q hQn hQ hP => ?_
  have hB : Below (wE w0).heap.size (wE w0) w0 := wE_below w0
  have hS : Sep (wE w0).heap.size w0 [R.rest w0 (fps [R.own ty_3 B0_0 v0_0 x0]), R.own ty_3 B0_0 v0_0 x0] := hS0.rest
  unfold F_slices_insertionSortOrdered_int__mut at hF
  refine W.seq fun K1 hK1 => ?_
  refine W.region ?_
  refine wl_move rfl rfl ?_
  refine wl_add rfl rfl rfl ?_
  refine wl_assign rfl rfl ?_
  refine WL.nil ?_
  refine fun a ha => hK1 _ _ ?_ a ha
  refine W.block ?_
  refine W.loopk (fun m a w2 => ∃ (l5 : (List Int)) (y6 : Int), St 49 [(0, v0_0), (1, (.int .i64 x1)), (2, (.int .i64 x2)), (6, (.int .i64 y6))] a ∧ Below (wE w0).heap.size (wE w0) w2 ∧ Sep (wE w0).heap.size w2 [R.rest w0 (fps [R.own ty_3 B0_0 v0_0 x0]), R.own ty_3 B0_0 v0_0 l5] ∧ F_slices_insertionSortOrdered_int__mut_L1 x2 x1 m l5 y6 = some r) FU ?_ ?_
  ·
    exact fun a ha => ⟨x0, (w64 (x1 + 1)), ha.sub ⟨rfl, rfl, rfl, rfl, trivial⟩, hB, (hS.sel [0, 1] rfl), hF⟩
  ·
    rintro m9 a w2 ⟨l5, y6, ha, hB3, hS4, hF⟩ KL8 hKL8
    refine W.at ?_ ha
    cases m9 with
    | zero => exact noneE hF
    | succ m9 =>
      obtain ⟨nx7, hnx7⟩ : ∃ k, k = F_slices_insertionSortOrdered_int__mut_L1 x2 x1 m9 := ⟨_, rfl⟩
      rw [F_slices_insertionSortOrdered_int__mut_L1, ← hnx7] at hF
      refine W.seq fun K10 hK10 => ?_
      refine W.seq fun K11 hK11 => ?_
      refine W.region ?_
      refine wl_move rfl rfl ?_
      refine wl_move rfl rfl ?_
      refine wl_lss rfl rfl rfl ?_
      refine WL.nil ?_
      refine fun a ha => hK11 _ _ ?_ a ha
      refine W.cond rfl (fun h12 => ?_) (fun h12 => ?_)
      · replace hF := ifP h12 hF
        refine W.skip ?_
        refine fun a ha => hK10 _ _ ?_ a ha
        refine W.seq fun K13 hK13 => ?_
        refine W.block ?_
        refine W.seq fun K14 hK14 => ?_
        refine W.region ?_
        refine wl_move rfl rfl ?_
        refine wl_assign rfl rfl ?_
        refine WL.nil ?_
        refine fun a ha => hK14 _ _ ?_ a ha
        refine W.block ?_
        refine W.loopk (fun m a w15 => ∃ (l18 : (List Int)) (y19 : Int), St 49 [(0, v0_0), (1, (.int .i64 x1)), (2, (.int .i64 x2)), (6, (.int .i64 y6)), (7, (.int .i64 y19))] a ∧ Below (wE w0).heap.size (wE w0) w15 ∧ Sep (wE w0).heap.size w15 [R.rest w0 (fps [R.own ty_3 B0_0 v0_0 x0]), R.own ty_3 B0_0 v0_0 l18] ∧ F_slices_insertionSortOrdered_int__mut_L2 nx7 y6 x1 m l18 y19 = some r) FU ?_ ?_
        ·
          exact fun a ha => ⟨l5, y6, ha.sub ⟨rfl, rfl, rfl, rfl, rfl, trivial⟩, hB3, (hS4.sel [0, 1] rfl), hF⟩
        ·
          rintro m22 a w15 ⟨l18, y19, ha, hB16, hS17, hF⟩ KL21 hKL21
          refine W.at ?_ ha
          cases m22 with
          | zero => exact noneE hF
          | succ m22 =>
            obtain ⟨nx20, hnx20⟩ : ∃ k, k = F_slices_insertionSortOrdered_int__mut_L2 nx7 y6 x1 m22 := ⟨_, rfl⟩
            rw [F_slices_insertionSortOrdered_int__mut_L2, ← hnx20] at hF
            refine W.seq fun K23 hK23 => ?_
            refine W.seq fun K24 hK24 => ?_
            obtain ⟨k29, hk29, hF⟩ := jE1 hF
            have hJ30 : ∀ (y28 : Bool) (w25 : World) (_ : k29 y28 = some r) (_ : Below (wE w0).heap.size (wE w0) w25) (_ : Sep (wE w0).heap.size w25 [R.rest w0 (fps [R.own ty_3 B0_0 v0_0 x0]), R.own ty_3 B0_0 v0_0 l18]), ∀ a, St 49 [(0, v0_0), (1, (.int .i64 x1)), (2, (.int .i64 x2)), (6, (.int .i64 y6)), (7, (.int .i64 y19)), (30, (.bool y28))] a → K24 a w25 := by
              intro y28 w25 hF hB26 hS27
              subst hk29
              refine fun a ha => hK24 _ _ ?_ a ha
              refine W.cond rfl (fun h31 => ?_) (fun h31 => ?_)
              · replace hF := ifP h31 hF
                refine W.skip ?_
                refine fun a ha => hK23 _ _ ?_ a ha
                refine W.seq fun K32 hK32 => ?_
                obtain ⟨k37, hk37, hF⟩ := jE1 hF
                have hJ38 : ∀ (l36 : (List Int)) (w33 : World) (_ : k37 l36 = some r) (_ : Below (wE w0).heap.size (wE w0) w33) (_ : Sep (wE w0).heap.size w33 [R.rest w0 (fps [R.own ty_3 B0_0 v0_0 x0]), R.own ty_3 B0_0 v0_0 l36]), ∀ a, St 49 [(0, v0_0), (1, (.int .i64 x1)), (2, (.int .i64 x2)), (6, (.int .i64 y6)), (7, (.int .i64 y19))] a → K32 a w33 := by
                  intro l36 w33 hF hB34 hS35
                  subst hk37
                  refine fun a ha => hK32 _ _ ?_ a ha
                  refine W.region ?_
                  refine wl_move rfl rfl ?_
                  refine wl_sub rfl rfl rfl ?_
                  refine wl_assign rfl rfl ?_
                  refine WL.nil ?_
                  rw [hnx20] at hF
                  exact fun a ha => hKL21 a _ m22 (Nat.lt_succ_self m22) ⟨l36, (w64 (y19 - 1)), ha.sub ⟨rfl, rfl, rfl, rfl, rfl, trivial⟩, hB34, (hS35.sel [0, 1] rfl), hF⟩
                refine W.block ?_
                refine W.regionH mixed_ B0_0 hB26 hS27 ?_
                intro w39 hb40 hB41 hS42
                have hSW43 := KeepX.refl w39 B0_0
                refine WH.takex (i := 0) rfl (by kernel_rfl) (by kernel_rfl) (by kernel_rfl) hP hSW43 ?_
                refine pr_move rfl rfl ?_
                refine WH.takex (i := 1) rfl (by kernel_rfl) (by kernel_rfl) (by kernel_rfl) hP hSW43 ?_
                refine pr_move rfl rfl ?_
                refine WH.takex (i := 2) rfl (by kernel_rfl) (by kernel_rfl) (by kernel_rfl) hP hSW43 ?_
                refine pr_move rfl rfl ?_
                refine WH.takex (i := 3) rfl (by kernel_rfl) (by kernel_rfl) (by kernel_rfl) hP hSW43 ?_
                refine pr_move rfl rfl ?_
                refine WH.takex (i := 4) rfl (by kernel_rfl) (by kernel_rfl) (by kernel_rfl) hP hSW43 ?_
                refine pr_sub rfl rfl rfl ?_
                refine WH.takex (i := 5) rfl (by kernel_rfl) (by kernel_rfl) (by kernel_rfl) hP hSW43 ?_
                refine pr_move rfl rfl ?_
                refine WH.takex (i := 6) rfl (by kernel_rfl) (by kernel_rfl) (by kernel_rfl) hP hSW43 ?_
                refine pr_move rfl rfl ?_
                refine WH.takex (i := 7) rfl (by kernel_rfl) (by kernel_rfl) (by kernel_rfl) hP hSW43 ?_
                refine pr_sub rfl rfl rfl ?_
                obtain ⟨u44, hu44, hF⟩ := bindE hF
                refine WH.takex (i := 8) rfl (by kernel_rfl) (by kernel_rfl) (by kernel_rfl) hP hSW43 ?_
                refine pr_indexo (e := ty_3) (i := 1) Try.underlying24 rfl rfl rfl hS42 rfl hu44 ?_
                rintro p45 _ rfl hp46 ho47
                refine WH.takex (i := 10) rfl (by kernel_rfl) (by kernel_rfl) (by kernel_rfl) hP hSW43 ?_
                refine pr_move rfl rfl ?_
                refine WH.takex (i := 11) rfl (by kernel_rfl) (by kernel_rfl) (by kernel_rfl) hP hSW43 ?_
                refine pr_move rfl rfl ?_
                obtain ⟨u48, hu48, hF⟩ := bindE hF
                refine WH.takex (i := 12) rfl (by kernel_rfl) (by kernel_rfl) (by kernel_rfl) hP hSW43 ?_
                refine pr_indexo (e := ty_3) (i := 1) Try.underlying24 rfl rfl rfl hS42 rfl hu48 ?_
                rintro p49 _ rfl hp50 ho51
                refine WH.many (is := [9, 13]) (by kernel_rfl) rfl ?_
                refine List.forall_mem_cons.2 ⟨⟨_, rfl, ?_⟩, List.forall_mem_cons.2 ⟨⟨_, rfl, ?_⟩, fun _ h => by cases h⟩⟩
                ·
                  refine wl_load_p (vs := [(.int .i64 u44)]) (v := (.int .i64 u44)) tf_3 rfl rfl hp46 rfl rfl ?_
                  refine WL.nil (WH.ret hSW43 ?_)
                  refine WH.one (i := 13) (by kernel_rfl) rfl ?_
                  refine wl_load_p (vs := [(.int .i64 u48)]) (v := (.int .i64 u48)) tf_3 rfl rfl hp50 rfl rfl ?_
                  refine WL.nil (WH.ret hSW43 ?_)
                  obtain ⟨u52, hu52, hF⟩ := bindE hF
                  refine WH.takex (i := 14) rfl (by kernel_rfl) (by kernel_rfl) (by kernel_rfl) hP hSW43 ?_
                  refine pr_indexo (e := ty_3) (i := 1) Try.underlying24 rfl rfl rfl hS42 rfl hu52 ?_
                  rintro p53 _ rfl hp54 ho55
                  refine WH.one (i := 15) (by kernel_rfl) rfl ?_
                  refine wl_storeo (i := 1) (o := 0) (vs := [(.int .i64 u44)]) (u' := u44) fl_3 tf_3 rfl rfl rfl rfl ho55 hu52 hB41 hS42 rfl rfl ⟨rfl, trivial⟩ rfl ?_
                  intro w56 hk59 hB57 hS58
                  have hSW60 := hSW43.wr' hk59.1 hk59.2.1 (fun _ _ h => h)
                  refine WL.nil (WH.ret hSW60 ?_)
                  refine WH.one (i := 16) (by kernel_rfl) rfl ?_
                  obtain ⟨u61, hu61, hF⟩ := bindE hF
                  refine wl_indexo (e := ty_3) (i := 1) Try.underlying24 rfl rfl rfl hS58 rfl hu61 ?_
                  rintro p62 _ rfl hp63 ho64
                  refine WL.nil (WH.ret hSW60 ?_)
                  refine WH.one (i := 17) (by kernel_rfl) rfl ?_
                  refine wl_storeo (i := 1) (o := 0) (vs := [(.int .i64 u48)]) (u' := u48) fl_3 tf_3 rfl rfl rfl rfl ho64 hu61 hB57 hS58 rfl rfl ⟨rfl, trivial⟩ rfl ?_
                  intro w65 hk68 hB66 hS67
                  have hSW69 := hSW60.wr' hk68.1 hk68.2.1 (fun b hlt hb => (hk59.2.2 b hb).elim ((fun _ _ h => h) b hlt) (fun h => absurd hlt (Nat.not_lt.2 (Nat.le_trans hSW43.size h))))
                  refine WL.nil (WH.ret hSW69 ?_)
                  refine WH.done (by kernel_rfl) ?_
                  exact fun a ha => hJ38 ((seti (seti l18 y19 u44) (w64 (y19 - 1)) u48)) _ hF hB66 (hS67.sel [0, 1] rfl) a (ha.sub ⟨rfl, rfl, rfl, rfl, rfl, trivial⟩)
                ·
                  refine wl_load_p (vs := [(.int .i64 u48)]) (v := (.int .i64 u48)) tf_3 rfl rfl hp50 rfl rfl ?_
                  refine WL.nil (WH.ret hSW43 ?_)
                  refine WH.one (i := 9) (by kernel_rfl) rfl ?_
                  refine wl_load_p (vs := [(.int .i64 u44)]) (v := (.int .i64 u44)) tf_3 rfl rfl hp46 rfl rfl ?_
                  refine WL.nil (WH.ret hSW43 ?_)
                  obtain ⟨u70, hu70, hF⟩ := bindE hF
                  refine WH.takex (i := 14) rfl (by kernel_rfl) (by kernel_rfl) (by kernel_rfl) hP hSW43 ?_
                  refine pr_indexo (e := ty_3) (i := 1) Try.underlying24 rfl rfl rfl hS42 rfl hu70 ?_
                  rintro p71 _ rfl hp72 ho73
                  refine WH.one (i := 15) (by kernel_rfl) rfl ?_
                  refine wl_storeo (i := 1) (o := 0) (vs := [(.int .i64 u44)]) (u' := u44) fl_3 tf_3 rfl rfl rfl rfl ho73 hu70 hB41 hS42 rfl rfl ⟨rfl, trivial⟩ rfl ?_
                  intro w74 hk77 hB75 hS76
                  have hSW78 := hSW43.wr' hk77.1 hk77.2.1 (fun _ _ h => h)
                  refine WL.nil (WH.ret hSW78 ?_)
                  refine WH.one (i := 16) (by kernel_rfl) rfl ?_
                  obtain ⟨u79, hu79, hF⟩ := bindE hF
                  refine wl_indexo (e := ty_3) (i := 1) Try.underlying24 rfl rfl rfl hS76 rfl hu79 ?_
                  rintro p80 _ rfl hp81 ho82
                  refine WL.nil (WH.ret hSW78 ?_)
                  refine WH.one (i := 17) (by kernel_rfl) rfl ?_
                  refine wl_storeo (i := 1) (o := 0) (vs := [(.int .i64 u48)]) (u' := u48) fl_3 tf_3 rfl rfl rfl rfl ho82 hu79 hB75 hS76 rfl rfl ⟨rfl, trivial⟩ rfl ?_
                  intro w83 hk86 hB84 hS85
                  have hSW87 := hSW78.wr' hk86.1 hk86.2.1 (fun b hlt hb => (hk77.2.2 b hb).elim ((fun _ _ h => h) b hlt) (fun h => absurd hlt (Nat.not_lt.2 (Nat.le_trans hSW43.size h))))
                  refine WL.nil (WH.ret hSW87 ?_)
                  refine WH.done (by kernel_rfl) ?_
                  exact fun a ha => hJ38 ((seti (seti l18 y19 u44) (w64 (y19 - 1)) u48)) _ hF hB84 (hS85.sel [0, 1] rfl) a (ha.sub ⟨rfl, rfl, rfl, rfl, rfl, trivial⟩)
              · replace hF := ifN h31 hF
                refine W.exit ?_
                refine fun a ha => hK13 _ _ ?_ a ha
                refine W.region ?_
                refine wl_move rfl rfl ?_
                refine wl_add rfl rfl rfl ?_
                refine wl_assign rfl rfl ?_
                refine WL.nil ?_
                rw [hnx7] at hF
                exact fun a ha => hKL8 a _ m9 (Nat.lt_succ_self m9) ⟨l18, (w64 (y6 + 1)), ha.sub ⟨rfl, rfl, rfl, rfl, trivial⟩, hB26, (hS27.sel [0, 1] rfl), hF⟩
            refine W.regionH mixed_ [] hB16 hS17 ?_
            intro w88 hb89 hB90 hS91
            have hSW92 := KeepX.refl w88 []
            refine WH.takex (i := 0) rfl (by kernel_rfl) (by kernel_rfl) (by kernel_rfl) hP hSW92 ?_
            refine pr_move rfl rfl ?_
            refine WH.takex (i := 1) rfl (by kernel_rfl) (by kernel_rfl) (by kernel_rfl) hP hSW92 ?_
            refine pr_move rfl rfl ?_
            refine WH.takex (i := 2) rfl (by kernel_rfl) (by kernel_rfl) (by kernel_rfl) hP hSW92 ?_
            refine pr_gtr rfl rfl rfl ?_
            refine WH.takex (i := 3) rfl (by kernel_rfl) (by kernel_rfl) (by kernel_rfl) hP hSW92 ?_
            refine pr_move rfl rfl ?_
            rcases bE (decide (x1 < y19)) with h93 | h93
            · replace hF := ifP h93 hF
              refine WH.takexg (i := 4) rfl (by kernel_rfl) (by kernel_rfl) (by kernel_rfl) hP rfl rfl h93 hSW92 ?_
              refine pr_move rfl rfl ?_
              refine WH.takexg (i := 5) rfl (by kernel_rfl) (by kernel_rfl) (by kernel_rfl) hP rfl rfl h93 hSW92 ?_
              refine pr_move rfl rfl ?_
              obtain ⟨u94, hu94, hF⟩ := bindE hF
              refine WH.takexg (i := 6) rfl (by kernel_rfl) (by kernel_rfl) (by kernel_rfl) hP rfl rfl h93 hSW92 ?_
              refine pr_indexo (e := ty_3) (i := 1) Try.underlying24 rfl rfl rfl hS91 rfl hu94 ?_
              rintro p95 _ rfl hp96 ho97
              refine WH.takexg (i := 7) rfl (by kernel_rfl) (by kernel_rfl) (by kernel_rfl) hP rfl rfl h93 hSW92 ?_
              refine pr_load_p (vs := [(.int .i64 u94)]) (v := (.int .i64 u94)) tf_3 rfl rfl (hp96.kx0) rfl rfl ?_
              refine WH.takexg (i := 8) rfl (by kernel_rfl) (by kernel_rfl) (by kernel_rfl) hP rfl rfl h93 hSW92 ?_
              refine pr_move rfl rfl ?_
              refine WH.takexg (i := 9) rfl (by kernel_rfl) (by kernel_rfl) (by kernel_rfl) hP rfl rfl h93 hSW92 ?_
              refine pr_move rfl rfl ?_
              refine WH.takexg (i := 10) rfl (by kernel_rfl) (by kernel_rfl) (by kernel_rfl) hP rfl rfl h93 hSW92 ?_
              refine pr_sub rfl rfl rfl ?_
              obtain ⟨u98, hu98, hF⟩ := bindE hF
              refine WH.takexg (i := 11) rfl (by kernel_rfl) (by kernel_rfl) (by kernel_rfl) hP rfl rfl h93 hSW92 ?_
              refine pr_indexo (e := ty_3) (i := 1) Try.underlying24 rfl rfl rfl hS91 rfl hu98 ?_
              rintro p99 _ rfl hp100 ho101
              refine WH.takexg (i := 12) rfl (by kernel_rfl) (by kernel_rfl) (by kernel_rfl) hP rfl rfl h93 hSW92 ?_
              refine pr_load_p (vs := [(.int .i64 u98)]) (v := (.int .i64 u98)) tf_3 rfl rfl (hp100.kx0) rfl rfl ?_
              refine WH.one (i := 13) (by kernel_rfl) rfl ?_
              refine wl_on rfl rfl h93 ?_
              obtain ⟨u102, hu102, hF⟩ := bindE hF
              refine wl_call rfl Try.call109 (C_cmp_Less_int w88 u94 u98 _ hu102) rfl ?_
              rintro _ w103 ⟨rfl, hb104⟩
              refine ⟨_, rfl, ?_⟩
              have hB105 := hB90.trans (hb104.mono hB90.size)
              have hS106 := hS91.below hb104
              have hSW108 := hSW92.ext hb104
              refine WL.nil (WH.ret hSW108 ?_)
              refine WH.takex (i := 14) rfl (by kernel_rfl) (by kernel_rfl) (by kernel_rfl) hP hSW108 ?_
              refine pr_pick_t rfl rfl h93 rfl ?_
              refine WH.done (by kernel_rfl) ?_
              exact fun a ha => hJ30 (u102) _ hF hB105 (hS106.sel [0, 1] rfl) a (ha.sub ⟨rfl, rfl, rfl, rfl, rfl, rfl, trivial⟩)
            · replace hF := ifN h93 hF
              refine WH.off (i := 4) rfl (by kernel_rfl) (by kernel_rfl) (by kernel_rfl) hP rfl rfl h93 rfl hSW92 ?_
              refine WH.off (i := 5) rfl (by kernel_rfl) (by kernel_rfl) (by kernel_rfl) hP rfl rfl h93 rfl hSW92 ?_
              refine WH.off (i := 6) rfl (by kernel_rfl) (by kernel_rfl) (by kernel_rfl) hP rfl rfl h93 rfl hSW92 ?_
              refine WH.off (i := 7) rfl (by kernel_rfl) (by kernel_rfl) (by kernel_rfl) hP rfl rfl h93 rfl hSW92 ?_
              refine WH.off (i := 8) rfl (by kernel_rfl) (by kernel_rfl) (by kernel_rfl) hP rfl rfl h93 rfl hSW92 ?_
              refine WH.off (i := 9) rfl (by kernel_rfl) (by kernel_rfl) (by kernel_rfl) hP rfl rfl h93 rfl hSW92 ?_
              refine WH.off (i := 10) rfl (by kernel_rfl) (by kernel_rfl) (by kernel_rfl) hP rfl rfl h93 rfl hSW92 ?_
              refine WH.off (i := 11) rfl (by kernel_rfl) (by kernel_rfl) (by kernel_rfl) hP rfl rfl h93 rfl hSW92 ?_
              refine WH.off (i := 12) rfl (by kernel_rfl) (by kernel_rfl) (by kernel_rfl) hP rfl rfl h93 rfl hSW92 ?_
              refine WH.off (i := 13) rfl (by kernel_rfl) (by kernel_rfl) (by kernel_rfl) hP rfl rfl h93 rfl hSW92 ?_
              refine WH.takex (i := 14) rfl (by kernel_rfl) (by kernel_rfl) (by kernel_rfl) hP hSW92 ?_
              refine pr_pick_f rfl rfl h93 rfl ?_
              refine WH.done (by kernel_rfl) ?_
              exact fun a ha => hJ30 (false) _ hF hB90 (hS91.sel [0, 1] rfl) a (ha.sub ⟨rfl, rfl, rfl, rfl, rfl, rfl, trivial⟩)
      · replace hF := ifN h12 hF
        refine W.exit ?_
        have hr := Option.some.inj hF
        subst hr
        exact retsn (vs := []) hQn rfl trivial ⟨rfl, hB3, hS4.sel [0, 1] rfl⟩
theorem C_slices_pdqsortOrdered_int__mut (w0 : World) (x0 : (List Int)) (v0_0 : Value) (B0_0 : List Nat) (x1 : Int) (x2 : Int) (x3 : Int) (hS0 : Sep 0 w0 [R.own ty_3 B0_0 v0_0 x0]) (r : (List Int)) (hF : F_slices_pdqsortOrdered_int__mut x0 x1 x2 x3 = some r) :
    Calls Try.prog 80 [v0_0, (.int .i64 x1), (.int .i64 x2), (.int .i64 x3)].toArray w0 fun e w' => e = .returned (.tuple #[]) ∧ Below 0 (wE w0) w' ∧ Sep 0 w' [R.rest w0 (fps [R.own ty_3 B0_0 v0_0 x0]), R.own ty_3 B0_0 v0_0 r] := by
  refine calls_mkn' Try.func80 rfl Try.ntmps80 rfl rfl fun Q hQn hQ hP => ?_
  have hB : Below (wE w0).heap.size (wE w0) w0 := wE_below w0
  have hS : Sep (wE w0).heap.size w0 [R.rest w0 (fps [R.own ty_3 B0_0 v0_0 x0]), R.own ty_3 B0_0 v0_0 x0] := hS0.rest
  unfold F_slices_pdqsortOrdered_int__mut at hF
  refine W.seq fun K1 hK1 => ?_
  refine W.region ?_
  refine wl_assign rfl rfl ?_
  refine WL.nil ?_
  refine fun a ha => hK1 _ _ ?_ a ha
  refine W.seq fun K2 hK2 => ?_
  refine W.region ?_
  refine wl_assign rfl rfl ?_
  refine WL.nil ?_
  refine fun a ha => hK2 _ _ ?_ a ha
  refine W.block ?_
  refine W.loopk (fun m a w3 => St 134 [(0, v0_0), (1, (.int .i64 x1)), (2, (.int .i64 x2)), (3, (.int .i64 x3)), (8, (.bool true)), (9, (.bool true))] a ∧ Below (wE w0).heap.size (wE w0) w3 ∧ Sep (wE w0).heap.size w3 [R.rest w0 (fps [R.own ty_3 B0_0 v0_0 x0]), R.own ty_3 B0_0 v0_0 x0] ∧ F_slices_pdqsortOrdered_int__mut_L1 x2 x1 x0 m  = some r) FU ?_ ?_
  ·
    exact fun a ha => ⟨ha.sub ⟨rfl, rfl, rfl, rfl, rfl, rfl, trivial⟩, hB, (hS.sel [0, 1] rfl), hF⟩
  ·
    rintro m8 a w3 ⟨ha, hB4, hS5, hF⟩ KL7 hKL7
    refine W.at ?_ ha
    cases m8 with
    | zero => exact noneE hF
    | succ m8 =>
      obtain ⟨nx6, hnx6⟩ : ∃ k, k = F_slices_pdqsortOrdered_int__mut_L1 x2 x1 x0 m8 := ⟨_, rfl⟩
      rw [F_slices_pdqsortOrdered_int__mut_L1] at hF; try rw [← hnx6] at hF
      refine W.block ?_
      refine W.seq fun K9 hK9 => ?_
      refine W.region ?_
      refine wl_move rfl rfl ?_
      refine wl_move rfl rfl ?_
      refine wl_sub rfl rfl rfl ?_
      refine wl_assign rfl rfl ?_
      refine WL.nil ?_
      refine fun a ha => hK9 _ _ ?_ a ha
      refine W.seq fun K10 hK10 => ?_
      refine W.seq fun K11 hK11 => ?_
      refine W.region ?_
      refine wl_move rfl rfl ?_
      refine wl_leq rfl rfl rfl ?_
      refine WL.nil ?_
      refine fun a ha => hK11 _ _ ?_ a ha
      refine W.cond rfl (fun h12 => ?_) (fun h12 => ?_)
      · replace hF := ifP h12 hF
        refine W.seq fun K13 hK13 => ?_
        refine W.region ?_
        refine wl_move rfl rfl ?_
        refine wl_move rfl rfl ?_
        refine wl_move rfl rfl ?_
        obtain ⟨u14, hu14, hF⟩ := bindE hF
        refine wl_call rfl Try.call103 (C_slices_insertionSortOrdered_int__mut w3 x0 v0_0 B0_0 x1 x2 (hS5.sel [1] rfl).base0 _ hu14) rfl ?_
        rintro _ w15 ⟨rfl, hE16, hM17⟩
        refine ⟨_, rfl, ?_⟩
        have hB18 := hS5.mutB [1] rfl (M := [R.own ty_3 B0_0 v0_0 x0]) rfl (M' := [R.own ty_3 B0_0 v0_0 u14]) rfl hB4 hB4.size hE16 hM17
        have hS19 : Sep (wE w0).heap.size w15 [R.own ty_3 B0_0 v0_0 u14, R.rest w0 (fps [R.own ty_3 B0_0 v0_0 x0])] := hS5.mut [1] [0] rfl (M := [R.own ty_3 B0_0 v0_0 x0]) rfl (M' := [R.own ty_3 B0_0 v0_0 u14]) rfl hM17
        refine WL.nil ?_
        refine fun a ha => hK13 _ _ ?_ a ha
        refine W.ret ?_
        have hr := Option.some.inj hF
        subst hr
        exact rets (vs := []) hQ rfl trivial ⟨rfl, hB18, hS19.sel [1, 0] rfl⟩
      · replace hF := ifN h12 hF
        exact noneE hF
theorem C_slices_Sort_int_int__mut (w0 : World) (x0 : (List Int)) (v0_0 : Value) (B0_0 : List Nat) (hS0 : Sep 0 w0 [R.own ty_3 B0_0 v0_0 x0]) (r : (List Int)) (hF : F_slices_Sort_int_int__mut x0 = some r) :
    Calls Try.prog 45 [v0_0].toArray w0 fun e w' => e = .returned (.tuple #[]) ∧ Below 0 (wE w0) w' ∧ Sep 0 w' [R.rest w0 (fps [R.own ty_3 B0_0 v0_0 x0]), R.own ty_3 B0_0 v0_0 r] := by
  refine calls_mkn' Try.func45 rfl Try.ntmps45 rfl rfl fun Q hQn hQ hP => ?_
  have hB : Below (wE w0).heap.size (wE w0) w0 := wE_below w0
  have hS : Sep (wE w0).heap.size w0 [R.rest w0 (fps [R.own ty_3 B0_0 v0_0 x0]), R.own ty_3 B0_0 v0_0 x0] := hS0.rest
  unfold F_slices_Sort_int_int__mut at hF
  refine W.seq fun K1 hK1 => ?_
  refine W.region ?_
  refine wl_move rfl rfl ?_
  refine wl_lenr (e := ty_3) (l := x0) Try.underlying24 rfl rfl (hS.own_ro (i := 1) rfl) ?_
  refine wl_assign rfl rfl ?_
  refine WL.nil ?_
  refine fun a ha => hK1 _ _ ?_ a ha
  refine W.region ?_
  refine wl_move rfl rfl ?_
  refine wl_move rfl rfl ?_
  refine wl_move rfl rfl ?_
  refine wl_convi Try.underlying3 Try.underlying100 rfl rfl ?_
  obtain ⟨u2, hu2, hF⟩ := bindE hF
  refine wl_call rfl Try.call81 (C_bits_Len w0 (wu64 (List.length x0 : Int)) _ hu2) rfl ?_
  rintro _ w3 ⟨rfl, hb4⟩
  refine ⟨_, rfl, ?_⟩
  have hB5 := hB.trans (hb4.mono hB.size)
  have hS6 := hS.below hb4
  obtain ⟨u8, hu8, hF⟩ := bindE hF
  refine wl_call rfl Try.call80 (C_slices_pdqsortOrdered_int__mut w3 x0 v0_0 B0_0 0 (List.length x0 : Int) u2 (hS6.sel [1] rfl).base0 _ hu8) rfl ?_
  rintro _ w9 ⟨rfl, hE10, hM11⟩
  refine ⟨_, rfl, ?_⟩
  have hB12 := hS6.mutB [1] rfl (M := [R.own ty_3 B0_0 v0_0 x0]) rfl (M' := [R.own ty_3 B0_0 v0_0 u8]) rfl hB5 hB5.size hE10 hM11
  have hS13 : Sep (wE w0).heap.size w9 [R.own ty_3 B0_0 v0_0 u8, R.rest w0 (fps [R.own ty_3 B0_0 v0_0 x0])] := hS6.mut [1] [0] rfl (M := [R.own ty_3 B0_0 v0_0 x0]) rfl (M' := [R.own ty_3 B0_0 v0_0 u8]) rfl hM11
  refine WL.nil ?_
  have hr := Option.some.inj hF
  subst hr
  exact retsn (vs := []) hQn rfl trivial ⟨rfl, hB12, hS13.sel [1, 0] rfl⟩
theorem C_impl_HaltPerformer (w0 : World) (x0 : (((List (List (Int × Int))) × (List Int) × Int × Int) × Int × (List Int) × (List Int))) (v0_0 : Value) (h0_0 : rdS ty_82 (· < w0.heap.size) w0 v0_0 x0.1.1) (v0_1 : Value) (h0_1 : rdS ty_3 (· < w0.heap.size) w0 v0_1 x0.1.2.1) (v0_2 : Value) (h0_2 : rdS ty_3 (· < w0.heap.size) w0 v0_2 x0.2.2.1) (v0_3 : Value) (h0_3 : rdS ty_3 (· < w0.heap.size) w0 v0_3 x0.2.2.2) (x1 : Int) (r : ((((List (List (Int × Int))) × (List Int) × Int × Int) × Int × (List Int) × (List Int)) × Bool)) (hF : F_impl_HaltPerformer x0 x1 = some r) :
    Calls Try.prog 18 [(.agg #[v0_0, v0_1, (.int .i64 x0.1.2.2.1), (.int .i64 x0.1.2.2.2), (.int .i64 x0.2.1), v0_2, v0_3]), (.int .i64 x1)].toArray w0 fun e w' => ∃ (q0 : Value) (G0 : List Nat) (q1 : Value) (G1 : List Nat) (q2 : Value) (G2 : List Nat) (q3 : Value) (G3 : List Nat), e = .returned (.tuple #[(.agg #[q0, q1, (.int .i64 r.1.1.2.2.1), (.int .i64 r.1.1.2.2.2), (.int .i64 r.1.2.1), q2, q3]), (.bool r.2)]) ∧ Below w0.heap.size w0 w' ∧ Sep w0.heap.size w' [R.own ty_82 G0 q0 r.1.1.1, R.own ty_3 G1 q1 r.1.1.2.1, R.own ty_3 G2 q2 r.1.2.2.1, R.own ty_3 G3 q3 r.1.2.2.2] := by
  refine calls_mk' Try.func18 rfl Try.ntmps18 rfl rfl fun Q hQ hP => ?_
  have hB : Below w0.heap.size w0 w0 := Below.refl _ _
  have hS : Sep w0.heap.size w0 [] := Sep.nil _ _
  unfold F_impl_HaltPerformer at hF
  refine W.seq fun K1 hK1 => ?_
  refine W.region ?_
  refine wl_box (cs := [v0_0, v0_1, (.int .i64 x0.1.2.2.1), (.int .i64 x0.1.2.2.2), (.int .i64 x0.2.1), v0_2, v0_3]) rfl rfl rfl hB hS ?_
  intro b2 w3 hb4 hB5 hS6
  refine wl_alloc (cs := [(.slice none 0 0), (.slice none 0 0), (.int .i64 0), (.int .i64 0), (.int .i64 0), (.slice none 0 0), (.slice none 0 0)]) tf_44 rfl rfl hB5 hS6 ?_
  intro b7 w8 hb9 hB10 hS11
  refine wl_assign rfl rfl ?_
  refine WL.nil ?_
  refine fun a ha => hK1 _ _ ?_ a ha
  refine W.seq fun K12 hK12 => ?_
  refine W.seq fun K13 hK13 => ?_
  obtain ⟨k18, hk18, hF⟩ := jE1 hF
  have hJ19 : ∀ (y17 : Bool) (w14 : World) (_ : k18 y17 = some r) (_ : Below w0.heap.size w0 w14) (_ : Sep w0.heap.size w14 [R.blk b2 44 [v0_0, v0_1, (.int .i64 x0.1.2.2.1), (.int .i64 x0.1.2.2.2), (.int .i64 x0.2.1), v0_2, v0_3], R.blk b7 44 [(.slice none 0 0), (.slice none 0 0), (.int .i64 0), (.int .i64 0), (.int .i64 0), (.slice none 0 0), (.slice none 0 0)]]), ∀ a, St 30 [(1, (.int .i64 x1)), (2, (.pointer (some ⟨b2, 0, none⟩))), (4, (.pointer (some ⟨b7, 0, none⟩))), (16, (.bool y17))] a → K13 a w14 := by
    intro y17 w14 hF hB15 hS16
    subst hk18
    refine fun a ha => hK13 _ _ ?_ a ha
    refine W.cond rfl (fun h20 => ?_) (fun h20 => ?_)
    · replace hF := ifP h20 hF
      refine W.seq fun K21 hK21 => ?_
      refine W.region ?_
      refine wl_build (zs := [(.slice none 0 0), (.slice none 0 0), (.int .i64 0), (.int .i64 0), (.int .i64 0), (.slice none 0 0), (.slice none 0 0)]) (out := [(.slice none 0 0), (.slice none 0 0), (.int .i64 0), (.int .i64 0), (.int .i64 0), (.slice none 0 0), (.slice none 0 0)]) (vs := []) (css := []) tf_44 pl_44 rfl rfl rfl rfl rfl ?_
      refine wl_store_blk (i := 1) (vs := [(.slice none 0 0), (.slice none 0 0), (.int .i64 0), (.int .i64 0), (.int .i64 0), (.slice none 0 0), (.slice none 0 0)]) (cs' := [(.slice none 0 0), (.slice none 0 0), (.int .i64 0), (.int .i64 0), (.int .i64 0), (.slice none 0 0), (.slice none 0 0)]) tf_44 rfl rfl rfl rfl hB15 hS16 rfl rfl ⟨rfl, rfl, rfl, rfl, rfl, rfl, rfl, trivial⟩ rfl ?_
      intro w22 hk25 hB23 hS24
      refine wl_assign rfl rfl ?_
      refine WL.nil ?_
      refine fun a ha => hK21 _ _ ?_ a ha
      refine W.ret ?_
      have hS26 := hS24.push0 (r := R.own ty_82 [] (.slice none 0 0) []) rfl fun _ => .inl ⟨rfl, rfl, rfl⟩
      have hS27 := hS26.push0 (r := R.own ty_3 [] (.slice none 0 0) []) rfl fun _ => .inl ⟨rfl, rfl, rfl⟩
      have hS28 := hS27.push0 (r := R.own ty_3 [] (.slice none 0 0) []) rfl fun _ => .inl ⟨rfl, rfl, rfl⟩
      have hS29 := hS28.push0 (r := R.own ty_3 [] (.slice none 0 0) []) rfl fun _ => .inl ⟨rfl, rfl, rfl⟩
      have hr := Option.some.inj hF
      subst hr
      exact rets (vs := [(.agg #[(.slice none 0 0), (.slice none 0 0), (.int .i64 0), (.int .i64 0), (.int .i64 0), (.slice none 0 0), (.slice none 0 0)]), (.bool false)]) hQ rfl ⟨rv_cell (i := 1) tf_44 rfl hS24 rfl rfl rfl, rv_tmp rfl, trivial⟩ ⟨(.slice none 0 0), [], (.slice none 0 0), [], (.slice none 0 0), [], (.slice none 0 0), [], rfl, hB23, hS29.sel [3, 2, 1, 0] rfl⟩
    · replace hF := ifN h20 hF
      refine W.skip ?_
      refine fun a ha => hK12 _ _ ?_ a ha
      refine W.seq fun K30 hK30 => ?_
      refine W.region ?_
      refine wl_load_blk (i := 0) (vs := [v0_0, v0_1, (.int .i64 x0.1.2.2.1), (.int .i64 x0.1.2.2.2), (.int .i64 x0.2.1), v0_2, v0_3]) (v := (.agg #[v0_0, v0_1, (.int .i64 x0.1.2.2.1), (.int .i64 x0.1.2.2.2), (.int .i64 x0.2.1), v0_2, v0_3])) tf_44 rfl rfl hS16 rfl rfl rfl ?_
      obtain ⟨u31, hu31, hF⟩ := bindE hF
      refine wl_call rfl Try.call44 (C_impl_copyMarch w14 x0 v0_0 (h0_0.ro hB15) v0_1 (h0_1.ro hB15) v0_2 (h0_2.ro hB15) v0_3 (h0_3.ro hB15) _ hu31) rfl ?_
      rintro _ w40 ⟨v32, F33, v34, F35, v36, F37, v38, F39, rfl, hb41, hM44⟩
      refine ⟨_, rfl, ?_⟩
      have hB42 := hB15.trans (hb41.mono hB15.size)
      have hS43 := hS16.join hb41 hM44 hB15.size
      refine wl_alloc (cs := [(.slice none 0 0), (.slice none 0 0), (.int .i64 0), (.int .i64 0), (.int .i64 0), (.slice none 0 0), (.slice none 0 0)]) tf_44 rfl rfl hB42 hS43 ?_
      intro b45 w46 hb47 hB48 hS49
      refine wl_store_blk (i := 0) (vs := [v32, v34, (.int .i64 u31.1.2.2.1), (.int .i64 u31.1.2.2.2), (.int .i64 u31.2.1), v36, v38]) (cs' := [v32, v34, (.int .i64 u31.1.2.2.1), (.int .i64 u31.1.2.2.2), (.int .i64 u31.2.1), v36, v38]) tf_44 rfl rfl rfl rfl hB48 hS49 rfl rfl ⟨(hS49.own_ro (i := 1) rfl).one, (hS49.own_ro (i := 2) rfl).one, rfl, rfl, rfl, (hS49.own_ro (i := 3) rfl).one, (hS49.own_ro (i := 4) rfl).one, trivial⟩ rfl ?_
      intro w50 hk53 hB51 hS52
      refine WL.nil ?_
      refine fun a ha => hK30 _ _ ?_ a ha
      refine W.seq fun K54 hK54 => ?_
      refine W.region ?_
      refine wl_field (o := 5) (off' := 5) ff_44_2 rfl rfl rfl ?_
      refine wl_load_blk (i := 0) (vs := [v36]) (v := v36) tf_24 rfl rfl hS52 rfl rfl rfl ?_
      refine wl_move rfl rfl ?_
      refine wl_lit (vs := [(.int .i64 x1)]) (l := [x1]) fl_3 Try.underlying24 rfl rfl rfl rfl rfl rfl hB51 hS52 ?_
      intro v55 F56 w57 hb58 hB59 hS60
      obtain ⟨u61, hu61, hF⟩ := bindE hF
      refine wl_append (i := 4) (S := (· < w57.heap.size)) fl_3 Try.underlying24 rfl rfl rfl hB59 hS60 rfl (hS60.own_ro (i := 0) rfl) hu61 ?_
      intro v62 F63 w65 hk66 hB67 hS68
      refine wl_field (o := 5) (off' := 5) ff_44_2 rfl rfl rfl ?_
      refine wl_store_blk (i := 1) (vs := [v62]) (cs' := [v32, v34, (.int .i64 u31.1.2.2.1), (.int .i64 u31.1.2.2.2), (.int .i64 u31.2.1), v62, v38]) tf_24 rfl rfl (cells_one (hS68.own_ro (i := 4) rfl).one) rfl hB67 hS68 rfl rfl ⟨(hS68.own_ro (i := 4) rfl).one, trivial⟩ rfl ?_
      intro w69 hk72 hB70 hS71
      refine WL.nil ?_
      refine fun a ha => hK54 _ _ ?_ a ha
      refine W.seq fun K73 hK73 => ?_
      refine W.region ?_
      refine wl_field (o := 5) (off' := 5) ff_44_2 rfl rfl rfl ?_
      refine wl_load_blk (i := 1) (vs := [v62]) (v := v62) tf_24 rfl rfl hS71 rfl rfl rfl ?_
      obtain ⟨u74, hu74, hF⟩ := bindE hF
      refine wl_call rfl Try.call45 (C_slices_Sort_int_int__mut w69 u61 v62 F63 (hS71.sel [4] rfl).base0 _ hu74) rfl ?_
      rintro _ w75 ⟨rfl, hE76, hM77⟩
      refine ⟨_, rfl, ?_⟩
      have hB78 := hS71.mutB [4] rfl (M := [R.own ty_3 F63 v62 u61]) rfl (M' := [R.own ty_3 F63 v62 u74]) rfl hB70 hB70.size hE76 hM77
      have hS79 : Sep w0.heap.size w75 [R.own ty_3 F63 v62 u74, R.own ty_3 F56 v55 [x1], R.blk b45 44 [v32, v34, (.int .i64 u31.1.2.2.1), (.int .i64 u31.1.2.2.2), (.int .i64 u31.2.1), v62, v38], R.own ty_82 F33 v32 u31.1.1, R.own ty_3 F35 v34 u31.1.2.1, R.own ty_3 F39 v38 u31.2.2.2, R.blk b2 44 [v0_0, v0_1, (.int .i64 x0.1.2.2.1), (.int .i64 x0.1.2.2.2), (.int .i64 x0.2.1), v0_2, v0_3], R.blk b7 44 [(.slice none 0 0), (.slice none 0 0), (.int .i64 0), (.int .i64 0), (.int .i64 0), (.slice none 0 0), (.slice none 0 0)]] := hS71.mut [4] [0, 1, 2, 3, 5, 6, 7] rfl (M := [R.own ty_3 F63 v62 u61]) rfl (M' := [R.own ty_3 F63 v62 u74]) rfl hM77
      refine WL.nil ?_
      refine fun a ha => hK73 _ _ ?_ a ha
      refine W.seq fun K80 hK80 => ?_
      refine W.region ?_
      refine wl_load_blk (i := 2) (vs := [v32, v34, (.int .i64 u31.1.2.2.1), (.int .i64 u31.1.2.2.2), (.int .i64 u31.2.1), v62, v38]) (v := (.agg #[v32, v34, (.int .i64 u31.1.2.2.1), (.int .i64 u31.1.2.2.2), (.int .i64 u31.2.1), v62, v38])) tf_44 rfl rfl hS79 rfl rfl rfl ?_
      refine wl_store_blk (i := 7) (vs := [v32, v34, (.int .i64 u31.1.2.2.1), (.int .i64 u31.1.2.2.2), (.int .i64 u31.2.1), v62, v38]) (cs' := [v32, v34, (.int .i64 u31.1.2.2.1), (.int .i64 u31.1.2.2.2), (.int .i64 u31.2.1), v62, v38]) tf_44 rfl rfl rfl rfl hB78 hS79 rfl rfl ⟨(hS79.own_ro (i := 3) rfl).one, (hS79.own_ro (i := 4) rfl).one, rfl, rfl, rfl, (hS79.own_ro (i := 0) rfl).one, (hS79.own_ro (i := 5) rfl).one, trivial⟩ rfl ?_
      intro w81 hk84 hB82 hS83
      refine wl_assign rfl rfl ?_
      refine WL.nil ?_
      refine fun a ha => hK80 _ _ ?_ a ha
      refine W.ret ?_
      have hr := Option.some.inj hF
      subst hr
      exact rets (vs := [(.agg #[v32, v34, (.int .i64 u31.1.2.2.1), (.int .i64 u31.1.2.2.2), (.int .i64 u31.2.1), v62, v38]), (.bool true)]) hQ rfl ⟨rv_cell (i := 7) tf_44 rfl hS83 rfl rfl rfl, rv_tmp rfl, trivial⟩ ⟨v32, F33, v34, F35, v62, F63, v38, F39, rfl, hB82, hS83.sel [3, 4, 0, 5] rfl⟩
  refine W.region ?_
  refine wl_load_blk (i := 1) (vs := [v0_0, v0_1, (.int .i64 x0.1.2.2.1), (.int .i64 x0.1.2.2.2), (.int .i64 x0.2.1), v0_2, v0_3]) (v := (.agg #[v0_0, v0_1, (.int .i64 x0.1.2.2.1), (.int .i64 x0.1.2.2.2), (.int .i64 x0.2.1), v0_2, v0_3])) tf_44 rfl rfl hS11 rfl rfl rfl ?_
  refine wl_move rfl rfl ?_
  obtain ⟨u85, hu85, hF⟩ := bindE hF
  refine wl_call rfl Try.call42 (C_impl_hasPerformer w8 x0 v0_0 (h0_0.ro hB10) v0_1 (h0_1.ro hB10) v0_2 (h0_2.ro hB10) v0_3 (h0_3.ro hB10) x1 _ hu85) rfl ?_
  rintro _ w86 ⟨rfl, hb87⟩
  refine ⟨_, rfl, ?_⟩
  have hB88 := hB10.trans (hb87.mono hB10.size)
  have hS89 := hS11.below hb87
  refine wl_not rfl rfl ?_
  refine wl_move rfl rfl ?_
  rcases bE (!u85) with h91 | h91
  · replace hF := ifP h91 hF
    refine wl_off rfl rfl rfl h91 ?_
    refine wl_off rfl rfl rfl h91 ?_
    refine wl_off rfl rfl rfl h91 ?_
    refine wl_off rfl rfl rfl h91 ?_
    refine wl_pick_t rfl rfl h91 rfl ?_
    refine WL.nil ?_
    exact fun a ha => hJ19 (true) _ hF hB88 (hS89.sel [1, 0] rfl) a (ha.sub ⟨rfl, rfl, rfl, rfl, trivial⟩)
  · replace hF := ifN h91 hF
    refine wl_on rfl rfl h91 ?_
    refine wl_field (o := 5) (off' := 5) ff_44_2 rfl rfl rfl ?_
    refine wl_on rfl rfl h91 ?_
    refine wl_load_blk (i := 1) (vs := [v0_2]) (v := v0_2) tf_24 rfl rfl hS89 rfl rfl rfl ?_
    refine wl_on rfl rfl h91 ?_
    refine wl_move rfl rfl ?_
    refine wl_on rfl rfl h91 ?_
    obtain ⟨u92, hu92, hF⟩ := bindE hF
    refine wl_call rfl Try.call43 (C_slices_Contains_int_int w86 x0.2.2.1 v0_2 (h0_2.ro hB88) x1 _ hu92) rfl ?_
    rintro _ w93 ⟨rfl, hb94⟩
    refine ⟨_, rfl, ?_⟩
    have hB95 := hB88.trans (hb94.mono hB88.size)
    have hS96 := hS89.below hb94
    refine wl_pick_f rfl rfl h91 rfl ?_
    refine WL.nil ?_
    exact fun a ha => hJ19 (u92) _ hF hB95 (hS96.sel [1, 0] rfl) a (ha.sub ⟨rfl, rfl, rfl, rfl, trivial⟩)
theorem C_laws_eqMarch (w0 : World) (x0 : (((List (List (Int × Int))) × (List Int) × Int × Int) × Int × (List Int) × (List Int))) (v0_0 : Value) (h0_0 : rdS ty_82 (· < w0.heap.size) w0 v0_0 x0.1.1) (v0_1 : Value) (h0_1 : rdS ty_3 (· < w0.heap.size) w0 v0_1 x0.1.2.1) (v0_2 : Value) (h0_2 : rdS ty_3 (· < w0.heap.size) w0 v0_2 x0.2.2.1) (v0_3 : Value) (h0_3 : rdS ty_3 (· < w0.heap.size) w0 v0_3 x0.2.2.2) (x1 : (((List (List (Int × Int))) × (List Int) × Int × Int) × Int × (List Int) × (List Int))) (v1_0 : Value) (h1_0 : rdS ty_82 (· < w0.heap.size) w0 v1_0 x1.1.1) (v1_1 : Value) (h1_1 : rdS ty_3 (· < w0.heap.size) w0 v1_1 x1.1.2.1) (v1_2 : Value) (h1_2 : rdS ty_3 (· < w0.heap.size) w0 v1_2 x1.2.2.1) (v1_3 : Value) (h1_3 : rdS ty_3 (· < w0.heap.size) w0 v1_3 x1.2.2.2) (r : Bool) (hF : F_laws_eqMarch x0 x1 = some r) :
    Calls Try.prog 19 [(.agg #[v0_0, v0_1, (.int .i64 x0.1.2.2.1), (.int .i64 x0.1.2.2.2), (.int .i64 x0.2.1), v0_2, v0_3]), (.agg #[v1_0, v1_1, (.int .i64 x1.1.2.2.1), (.int .i64 x1.1.2.2.2), (.int .i64 x1.2.1), v1_2, v1_3])].toArray w0 fun e w' => e = .returned (.bool r) ∧ Below w0.heap.size w0 w' := by
  refine calls_mk' Try.func19 rfl Try.ntmps19 rfl rfl fun Q hQ hP => ?_
  have hB : Below w0.heap.size w0 w0 := Below.refl _ _
  have hS : Sep w0.heap.size w0 [] := Sep.nil _ _
  unfold F_laws_eqMarch at hF
  refine W.seq fun K1 hK1 => ?_
  refine W.region ?_
  refine wl_box (cs := [v0_0, v0_1, (.int .i64 x0.1.2.2.1), (.int .i64 x0.1.2.2.2), (.int .i64 x0.2.1), v0_2, v0_3]) rfl rfl rfl hB hS ?_
  intro b2 w3 hb4 hB5 hS6
  refine wl_box (cs := [v1_0, v1_1, (.int .i64 x1.1.2.2.1), (.int .i64 x1.1.2.2.2), (.int .i64 x1.2.1), v1_2, v1_3]) rfl rfl rfl hB5 hS6 ?_
  intro b7 w8 hb9 hB10 hS11
  refine wl_assign rfl rfl ?_
  refine WL.nil ?_
  refine fun a ha => hK1 _ _ ?_ a ha
  refine W.seq fun K12 hK12 => ?_
  refine W.seq fun K13 hK13 => ?_
  refine W.region ?_
  refine wl_field (o := 0) (off' := 0) ff_44_0 rfl rfl rfl ?_
  refine wl_load_blk (i := 1) (vs := [v0_0, v0_1, (.int .i64 x0.1.2.2.1), (.int .i64 x0.1.2.2.2)]) (v := (.agg #[v0_0, v0_1, (.int .i64 x0.1.2.2.1), (.int .i64 x0.1.2.2.2)])) tf_42 rfl rfl hS11 rfl rfl rfl ?_
  refine wl_field (o := 0) (off' := 0) ff_44_0 rfl rfl rfl ?_
  refine wl_load_blk (i := 0) (vs := [v1_0, v1_1, (.int .i64 x1.1.2.2.1), (.int .i64 x1.1.2.2.2)]) (v := (.agg #[v1_0, v1_1, (.int .i64 x1.1.2.2.1), (.int .i64 x1.1.2.2.2)])) tf_42 rfl rfl hS11 rfl rfl rfl ?_
  obtain ⟨u14, hu14, hF⟩ := bindE hF
  refine wl_call rfl Try.call37 (C_laws_eqShow w8 x0.1 v0_0 (h0_0.ro hB10) v0_1 (h0_1.ro hB10) x1.1 v1_0 (h1_0.ro hB10) v1_1 (h1_1.ro hB10) _ hu14) rfl ?_
  rintro _ w15 ⟨rfl, hb16⟩
  refine ⟨_, rfl, ?_⟩
  have hB17 := hB10.trans (hb16.mono hB10.size)
  have hS18 := hS11.below hb16
  refine wl_not rfl rfl ?_
  refine WL.nil ?_
  refine fun a ha => hK13 _ _ ?_ a ha
  refine W.cond rfl (fun h20 => ?_) (fun h20 => ?_)
  · replace hF := ifP h20 hF
    refine W.seq fun K21 hK21 => ?_
    refine W.region ?_
    refine wl_assign rfl rfl ?_
    refine WL.nil ?_
    refine fun a ha => hK21 _ _ ?_ a ha
    refine W.ret ?_
    have hr := Option.some.inj hF
    subst hr
    exact rets (vs := [(.bool false)]) hQ rfl ⟨rv_tmp rfl, trivial⟩ ⟨rfl, hB17⟩
  · replace hF := ifN h20 hF
    refine W.skip ?_
    refine fun a ha => hK12 _ _ ?_ a ha
    refine W.seq fun K22 hK22 => ?_
    refine W.seq fun K23 hK23 => ?_
    refine W.region ?_
    refine wl_field (o := 4) (off' := 4) ff_44_1 rfl rfl rfl ?_
    refine wl_load_blk (i := 1) (vs := [(.int .i64 x0.2.1)]) (v := (.int .i64 x0.2.1)) tf_3 rfl rfl hS18 rfl rfl rfl ?_
    refine wl_field (o := 4) (off' := 4) ff_44_1 rfl rfl rfl ?_
    refine wl_load_blk (i := 0) (vs := [(.int .i64 x1.2.1)]) (v := (.int .i64 x1.2.1)) tf_3 rfl rfl hS18 rfl rfl rfl ?_
    refine wl_neq rfl rfl rfl ?_
    refine WL.nil ?_
    refine fun a ha => hK23 _ _ ?_ a ha
    refine W.cond rfl (fun h24 => ?_) (fun h24 => ?_)
    · replace hF := ifP h24 hF
      refine W.seq fun K25 hK25 => ?_
      refine W.region ?_
      refine wl_assign rfl rfl ?_
      refine WL.nil ?_
      refine fun a ha => hK25 _ _ ?_ a ha
      refine W.ret ?_
      have hr := Option.some.inj hF
      subst hr
      exact rets (vs := [(.bool false)]) hQ rfl ⟨rv_tmp rfl, trivial⟩ ⟨rfl, hB17⟩
    · replace hF := ifN h24 hF
      refine W.skip ?_
      refine fun a ha => hK22 _ _ ?_ a ha
      refine W.seq fun K26 hK26 => ?_
      refine W.seq fun K27 hK27 => ?_
      refine W.region ?_
      refine wl_field (o := 5) (off' := 5) ff_44_2 rfl rfl rfl ?_
      refine wl_load_blk (i := 1) (vs := [v0_2]) (v := v0_2) tf_24 rfl rfl hS18 rfl rfl rfl ?_
      refine wl_field (o := 5) (off' := 5) ff_44_2 rfl rfl rfl ?_
      refine wl_load_blk (i := 0) (vs := [v1_2]) (v := v1_2) tf_24 rfl rfl hS18 rfl rfl rfl ?_
      obtain ⟨u28, hu28, hF⟩ := bindE hF
      refine wl_call rfl Try.call10 (C_laws_eqIntS w15 x0.2.2.1 v0_2 (h0_2.ro hB17) x1.2.2.1 v1_2 (h1_2.ro hB17) _ hu28) rfl ?_
      rintro _ w29 ⟨rfl, hb30⟩
      refine ⟨_, rfl, ?_⟩
      have hB31 := hB17.trans (hb30.mono hB17.size)
      have hS32 := hS18.below hb30
      refine wl_not rfl rfl ?_
      refine WL.nil ?_
      refine fun a ha => hK27 _ _ ?_ a ha
      refine W.cond rfl (fun h34 => ?_) (fun h34 => ?_)
      · replace hF := ifP h34 hF
        refine W.seq fun K35 hK35 => ?_
        refine W.region ?_
        refine wl_assign rfl rfl ?_
        refine WL.nil ?_
        refine fun a ha => hK35 _ _ ?_ a ha
        refine W.ret ?_
        have hr := Option.some.inj hF
        subst hr
        exact rets (vs := [(.bool false)]) hQ rfl ⟨rv_tmp rfl, trivial⟩ ⟨rfl, hB31⟩
      · replace hF := ifN h34 hF
        refine W.skip ?_
        refine fun a ha => hK26 _ _ ?_ a ha
        refine W.seq fun K36 hK36 => ?_
        refine W.seq fun K37 hK37 => ?_
        refine W.region ?_
        refine wl_field (o := 6) (off' := 6) ff_44_3 rfl rfl rfl ?_
        refine wl_load_blk (i := 1) (vs := [v0_3]) (v := v0_3) tf_24 rfl rfl hS32 rfl rfl rfl ?_
        refine wl_field (o := 6) (off' := 6) ff_44_3 rfl rfl rfl ?_
        refine wl_load_blk (i := 0) (vs := [v1_3]) (v := v1_3) tf_24 rfl rfl hS32 rfl rfl rfl ?_
        obtain ⟨u38, hu38, hF⟩ := bindE hF
        refine wl_call rfl Try.call10 (C_laws_eqIntS w29 x0.2.2.2 v0_3 (h0_3.ro hB31) x1.2.2.2 v1_3 (h1_3.ro hB31) _ hu38) rfl ?_
        rintro _ w39 ⟨rfl, hb40⟩
        refine ⟨_, rfl, ?_⟩
        have hB41 := hB31.trans (hb40.mono hB31.size)
        have hS42 := hS32.below hb40
        refine wl_not rfl rfl ?_
        refine WL.nil ?_
        refine fun a ha => hK37 _ _ ?_ a ha
        refine W.cond rfl (fun h44 => ?_) (fun h44 => ?_)
        · replace hF := ifP h44 hF
          refine W.seq fun K45 hK45 => ?_
          refine W.region ?_
          refine wl_assign rfl rfl ?_
          refine WL.nil ?_
          refine fun a ha => hK45 _ _ ?_ a ha
          refine W.ret ?_
          have hr := Option.some.inj hF
          subst hr
          exact rets (vs := [(.bool false)]) hQ rfl ⟨rv_tmp rfl, trivial⟩ ⟨rfl, hB41⟩
        · replace hF := ifN h44 hF
          refine W.skip ?_
          refine fun a ha => hK36 _ _ ?_ a ha
          refine W.seq fun K46 hK46 => ?_
          refine W.region ?_
          refine wl_assign rfl rfl ?_
          refine WL.nil ?_
          refine fun a ha => hK46 _ _ ?_ a ha
          refine W.ret ?_
          have hr := Option.some.inj hF
          subst hr
          exact rets (vs := [(.bool true)]) hQ rfl ⟨rv_tmp rfl, trivial⟩ ⟨rfl, hB41⟩
theorem C_laws_markShow (w0 : World) (x0 : ((List (List (Int × Int))) × (List Int) × Int × Int)) (v0_0 : Value) (B0_0 : List Nat) (v0_1 : Value) (B0_1 : List Nat) (x1 : Int) (hS0 : Sep 0 w0 [R.own ty_82 B0_0 v0_0 x0.1, R.own ty_3 B0_1 v0_1 x0.2.1]) (r : (Int × ((List (List (Int × Int))) × (List Int) × Int × Int))) (hF : F_laws_markShow x0 x1 = some r) :
    Calls Try.prog 46 [(.agg #[v0_0, v0_1, (.int .i64 x0.2.2.1), (.int .i64 x0.2.2.2)]), (.int .i64 x1)].toArray w0 fun e w' => e = .returned (.int .i64 r.1) ∧ Below 0 (wE w0) w' ∧ Sep 0 w' [R.rest w0 (fps [R.own ty_82 B0_0 v0_0 x0.1, R.own ty_3 B0_1 v0_1 x0.2.1]), R.own ty_82 B0_0 v0_0 r.2.1, R.own ty_3 B0_1 v0_1 r.2.2.1] := by
  refine calls_mk' Try.func46 rfl Try.ntmps46 rfl rfl fun Q hQ hP => ?_
  have hB : Below (wE w0).heap.size (wE w0) w0 := wE_below w0
  have hS : Sep (wE w0).heap.size w0 [R.rest w0 (fps [R.own ty_82 B0_0 v0_0 x0.1, R.own ty_3 B0_1 v0_1 x0.2.1]), R.own ty_82 B0_0 v0_0 x0.1, R.own ty_3 B0_1 v0_1 x0.2.1] := hS0.rest
  unfold F_laws_markShow at hF
  refine W.seq fun K1 hK1 => ?_
  refine W.region ?_
  refine wl_box (cs := [v0_0, v0_1, (.int .i64 x0.2.2.1), (.int .i64 x0.2.2.2)]) rfl rfl rfl hB hS ?_
  intro b2 w3 hb4 hB5 hS6
  refine wl_assign rfl rfl ?_
  refine WL.nil ?_
  refine fun a ha => hK1 _ _ ?_ a ha
  refine W.seq fun K7 hK7 => ?_
  refine W.region ?_
  refine wl_field (o := 0) (off' := 0) ff_42_0 rfl rfl rfl ?_
  refine wl_load_blk (i := 0) (vs := [v0_0]) (v := v0_0) tf_40 rfl rfl hS6 rfl rfl rfl ?_
  refine wl_move rfl rfl ?_
  obtain ⟨u8, hu8, hF⟩ := bindE hF
  refine wl_call rfl Try.call38 (C_laws_markSpotSS w3 x0.1 v0_0 B0_0 x1 (hS6.sel [2] rfl).base0 _ hu8) rfl ?_
  rintro _ w9 ⟨rfl, hE10, hM11⟩
  refine ⟨_, rfl, ?_⟩
  have hB12 := hS6.mutB [2] rfl (M := [R.own ty_82 B0_0 v0_0 x0.1]) rfl (M' := [R.own ty_82 B0_0 v0_0 u8.2]) rfl hB5 hB5.size hE10 hM11
  have hS13 : Sep (wE w0).heap.size w9 [R.own ty_82 B0_0 v0_0 u8.2, R.blk b2 42 [v0_0, v0_1, (.int .i64 x0.2.2.1), (.int .i64 x0.2.2.2)], R.rest w0 (fps [R.own ty_82 B0_0 v0_0 x0.1, R.own ty_3 B0_1 v0_1 x0.2.1]), R.own ty_3 B0_1 v0_1 x0.2.1] := hS6.mut [2] [0, 1, 3] rfl (M := [R.own ty_82 B0_0 v0_0 x0.1]) rfl (M' := [R.own ty_82 B0_0 v0_0 u8.2]) rfl hM11
  refine wl_assign rfl rfl ?_
  refine WL.nil ?_
  refine fun a ha => hK7 _ _ ?_ a ha
  refine W.seq fun K14 hK14 => ?_
  refine W.region ?_
  refine wl_field (o := 1) (off' := 1) ff_42_1 rfl rfl rfl ?_
  refine wl_load_blk (i := 1) (vs := [v0_1]) (v := v0_1) tf_24 rfl rfl hS13 rfl rfl rfl ?_
  refine wl_move rfl rfl ?_
  obtain ⟨u15, hu15, hF⟩ := bindE hF
  refine wl_call rfl Try.call13 (C_laws_markIntS w9 x0.2.1 v0_1 B0_1 u8.1 (hS13.sel [3] rfl).base0 _ hu15) rfl ?_
  rintro _ w16 ⟨rfl, hE17, hM18⟩
  refine ⟨_, rfl, ?_⟩
  have hB19 := hS13.mutB [3] rfl (M := [R.own ty_3 B0_1 v0_1 x0.2.1]) rfl (M' := [R.own ty_3 B0_1 v0_1 u15.2]) rfl hB12 hB12.size hE17 hM18
  have hS20 : Sep (wE w0).heap.size w16 [R.own ty_3 B0_1 v0_1 u15.2, R.own ty_82 B0_0 v0_0 u8.2, R.blk b2 42 [v0_0, v0_1, (.int .i64 x0.2.2.1), (.int .i64 x0.2.2.2)], R.rest w0 (fps [R.own ty_82 B0_0 v0_0 x0.1, R.own ty_3 B0_1 v0_1 x0.2.1])] := hS13.mut [3] [0, 1, 2] rfl (M := [R.own ty_3 B0_1 v0_1 x0.2.1]) rfl (M' := [R.own ty_3 B0_1 v0_1 u15.2]) rfl hM18
  refine wl_assign rfl rfl ?_
  refine WL.nil ?_
  refine fun a ha => hK14 _ _ ?_ a ha
  refine W.seq fun K21 hK21 => ?_
  refine W.region ?_
  refine wl_move rfl rfl ?_
  refine wl_assign rfl rfl ?_
  refine WL.nil ?_
  refine fun a ha => hK21 _ _ ?_ a ha
  refine W.ret ?_
  have hr := Option.some.inj hF
  subst hr
  exact rets (vs := [(.int .i64 u15.1)]) hQ rfl ⟨rv_tmp rfl, trivial⟩ ⟨rfl, hB19, hS20.sel [3, 1, 0] rfl⟩
theorem C_laws_markMarch (w0 : World) (x0 : (((List (List (Int × Int))) × (List Int) × Int × Int) × Int × (List Int) × (List Int))) (v0_0 : Value) (B0_0 : List Nat) (v0_1 : Value) (B0_1 : List Nat) (v0_2 : Value) (B0_2 : List Nat) (v0_3 : Value) (B0_3 : List Nat) (x1 : Int) (hS0 : Sep 0 w0 [R.own ty_82 B0_0 v0_0 x0.1.1, R.own ty_3 B0_1 v0_1 x0.1.2.1, R.own ty_3 B0_2 v0_2 x0.2.2.1, R.own ty_3 B0_3 v0_3 x0.2.2.2]) (r : (Int × (((List (List (Int × Int))) × (List Int) × Int × Int) × Int × (List Int) × (List Int)))) (hF : F_laws_markMarch x0 x1 = some r) :
    Calls Try.prog 20 [(.agg #[v0_0, v0_1, (.int .i64 x0.1.2.2.1), (.int .i64 x0.1.2.2.2), (.int .i64 x0.2.1), v0_2, v0_3]), (.int .i64 x1)].toArray w0 fun e w' => e = .returned (.int .i64 r.1) ∧ Below 0 (wE w0) w' ∧ Sep 0 w' [R.rest w0 (fps [R.own ty_82 B0_0 v0_0 x0.1.1, R.own ty_3 B0_1 v0_1 x0.1.2.1, R.own ty_3 B0_2 v0_2 x0.2.2.1, R.own ty_3 B0_3 v0_3 x0.2.2.2]), R.own ty_82 B0_0 v0_0 r.2.1.1, R.own ty_3 B0_1 v0_1 r.2.1.2.1, R.own ty_3 B0_2 v0_2 r.2.2.2.1, R.own ty_3 B0_3 v0_3 r.2.2.2.2] := by
  refine calls_mk' Try.func20 rfl Try.ntmps20 rfl rfl fun Q hQ hP => ?_
  have hB : Below (wE w0).heap.size (wE w0) w0 := wE_below w0
  have hS : Sep (wE w0).heap.size w0 [R.rest w0 (fps [R.own ty_82 B0_0 v0_0 x0.1.1, R.own ty_3 B0_1 v0_1 x0.1.2.1, R.own ty_3 B0_2 v0_2 x0.2.2.1, R.own ty_3 B0_3 v0_3 x0.2.2.2]), R.own ty_82 B0_0 v0_0 x0.1.1, R.own ty_3 B0_1 v0_1 x0.1.2.1, R.own ty_3 B0_2 v0_2 x0.2.2.1, R.own ty_3 B0_3 v0_3 x0.2.2.2] := hS0.rest
  unfold F_laws_markMarch at hF
  refine W.seq fun K1 hK1 => ?_
  refine W.region ?_
  refine wl_box (cs := [v0_0, v0_1, (.int .i64 x0.1.2.2.1), (.int .i64 x0.1.2.2.2), (.int .i64 x0.2.1), v0_2, v0_3]) rfl rfl rfl hB hS ?_
  intro b2 w3 hb4 hB5 hS6
  refine wl_assign rfl rfl ?_
  refine WL.nil ?_
  refine fun a ha => hK1 _ _ ?_ a ha
  refine W.seq fun K7 hK7 => ?_
  refine W.region ?_
  refine wl_field (o := 0) (off' := 0) ff_44_0 rfl rfl rfl ?_
  refine wl_load_blk (i := 0) (vs := [v0_0, v0_1, (.int .i64 x0.1.2.2.1), (.int .i64 x0.1.2.2.2)]) (v := (.agg #[v0_0, v0_1, (.int .i64 x0.1.2.2.1), (.int .i64 x0.1.2.2.2)])) tf_42 rfl rfl hS6 rfl rfl rfl ?_
  refine wl_move rfl rfl ?_
  obtain ⟨u8, hu8, hF⟩ := bindE hF
  refine wl_call rfl Try.call46 (C_laws_markShow w3 x0.1 v0_0 B0_0 v0_1 B0_1 x1 (hS6.sel [2, 3] rfl).base0 _ hu8) rfl ?_
  rintro _ w9 ⟨rfl, hE10, hM11⟩
  refine ⟨_, rfl, ?_⟩
  have hB12 := hS6.mutB [2, 3] rfl (M := [R.own ty_82 B0_0 v0_0 x0.1.1, R.own ty_3 B0_1 v0_1 x0.1.2.1]) rfl (M' := [R.own ty_82 B0_0 v0_0 u8.2.1, R.own ty_3 B0_1 v0_1 u8.2.2.1]) rfl hB5 hB5.size hE10 hM11
  have hS13 : Sep (wE w0).heap.size w9 [R.own ty_82 B0_0 v0_0 u8.2.1, R.own ty_3 B0_1 v0_1 u8.2.2.1, R.blk b2 44 [v0_0, v0_1, (.int .i64 x0.1.2.2.1), (.int .i64 x0.1.2.2.2), (.int .i64 x0.2.1), v0_2, v0_3], R.rest w0 (fps [R.own ty_82 B0_0 v0_0 x0.1.1, R.own ty_3 B0_1 v0_1 x0.1.2.1, R.own ty_3 B0_2 v0_2 x0.2.2.1, R.own ty_3 B0_3 v0_3 x0.2.2.2]), R.own ty_3 B0_2 v0_2 x0.2.2.1, R.own ty_3 B0_3 v0_3 x0.2.2.2] := hS6.mut [2, 3] [0, 1, 4, 5] rfl (M := [R.own ty_82 B0_0 v0_0 x0.1.1, R.own ty_3 B0_1 v0_1 x0.1.2.1]) rfl (M' := [R.own ty_82 B0_0 v0_0 u8.2.1, R.own ty_3 B0_1 v0_1 u8.2.2.1]) rfl hM11
  refine wl_assign rfl rfl ?_
  refine WL.nil ?_
  refine fun a ha => hK7 _ _ ?_ a ha
  refine W.seq fun K14 hK14 => ?_
  refine W.region ?_
  refine wl_field (o := 5) (off' := 5) ff_44_2 rfl rfl rfl ?_
  refine wl_load_blk (i := 2) (vs := [v0_2]) (v := v0_2) tf_24 rfl rfl hS13 rfl rfl rfl ?_
  refine wl_move rfl rfl ?_
  obtain ⟨u15, hu15, hF⟩ := bindE hF
  refine wl_call rfl Try.call13 (C_laws_markIntS w9 x0.2.2.1 v0_2 B0_2 u8.1 (hS13.sel [4] rfl).base0 _ hu15) rfl ?_
  rintro _ w16 ⟨rfl, hE17, hM18⟩
  refine ⟨_, rfl, ?_⟩
  have hB19 := hS13.mutB [4] rfl (M := [R.own ty_3 B0_2 v0_2 x0.2.2.1]) rfl (M' := [R.own ty_3 B0_2 v0_2 u15.2]) rfl hB12 hB12.size hE17 hM18
  have hS20 : Sep (wE w0).heap.size w16 [R.own ty_3 B0_2 v0_2 u15.2, R.own ty_82 B0_0 v0_0 u8.2.1, R.own ty_3 B0_1 v0_1 u8.2.2.1, R.blk b2 44 [v0_0, v0_1, (.int .i64 x0.1.2.2.1), (.int .i64 x0.1.2.2.2), (.int .i64 x0.2.1), v0_2, v0_3], R.rest w0 (fps [R.own ty_82 B0_0 v0_0 x0.1.1, R.own ty_3 B0_1 v0_1 x0.1.2.1, R.own ty_3 B0_2 v0_2 x0.2.2.1, R.own ty_3 B0_3 v0_3 x0.2.2.2]), R.own ty_3 B0_3 v0_3 x0.2.2.2] := hS13.mut [4] [0, 1, 2, 3, 5] rfl (M := [R.own ty_3 B0_2 v0_2 x0.2.2.1]) rfl (M' := [R.own ty_3 B0_2 v0_2 u15.2]) rfl hM18
  refine wl_assign rfl rfl ?_
  refine WL.nil ?_
  refine fun a ha => hK14 _ _ ?_ a ha
  refine W.seq fun K21 hK21 => ?_
  refine W.region ?_
  refine wl_field (o := 6) (off' := 6) ff_44_3 rfl rfl rfl ?_
  refine wl_load_blk (i := 3) (vs := [v0_3]) (v := v0_3) tf_24 rfl rfl hS20 rfl rfl rfl ?_
  refine wl_move rfl rfl ?_
  obtain ⟨u22, hu22, hF⟩ := bindE hF
  refine wl_call rfl Try.call13 (C_laws_markIntS w16 x0.2.2.2 v0_3 B0_3 u15.1 (hS20.sel [5] rfl).base0 _ hu22) rfl ?_
  rintro _ w23 ⟨rfl, hE24, hM25⟩
  refine ⟨_, rfl, ?_⟩
  have hB26 := hS20.mutB [5] rfl (M := [R.own ty_3 B0_3 v0_3 x0.2.2.2]) rfl (M' := [R.own ty_3 B0_3 v0_3 u22.2]) rfl hB19 hB19.size hE24 hM25
  have hS27 : Sep (wE w0).heap.size w23 [R.own ty_3 B0_3 v0_3 u22.2, R.own ty_3 B0_2 v0_2 u15.2, R.own ty_82 B0_0 v0_0 u8.2.1, R.own ty_3 B0_1 v0_1 u8.2.2.1, R.blk b2 44 [v0_0, v0_1, (.int .i64 x0.1.2.2.1), (.int .i64 x0.1.2.2.2), (.int .i64 x0.2.1), v0_2, v0_3], R.rest w0 (fps [R.own ty_82 B0_0 v0_0 x0.1.1, R.own ty_3 B0_1 v0_1 x0.1.2.1, R.own ty_3 B0_2 v0_2 x0.2.2.1, R.own ty_3 B0_3 v0_3 x0.2.2.2])] := hS20.mut [5] [0, 1, 2, 3, 4] rfl (M := [R.own ty_3 B0_3 v0_3 x0.2.2.2]) rfl (M' := [R.own ty_3 B0_3 v0_3 u22.2]) rfl hM25
  refine wl_assign rfl rfl ?_
  refine WL.nil ?_
  refine fun a ha => hK21 _ _ ?_ a ha
  refine W.seq fun K28 hK28 => ?_
  refine W.region ?_
  refine wl_move rfl rfl ?_
  refine wl_assign rfl rfl ?_
  refine WL.nil ?_
  refine fun a ha => hK28 _ _ ?_ a ha
  refine W.ret ?_
  have hr := Option.some.inj hF
  subst hr
  exact rets (vs := [(.int .i64 u22.1)]) hQ rfl ⟨rv_tmp rfl, trivial⟩ ⟨rfl, hB26, hS27.sel [5, 2, 3, 1, 0] rfl⟩
theorem C_laws_heldSpotS (w0 : World) (x0 : (List (Int × Int))) (v0_0 : Value) (h0_0 : rdS ty_106 (· < w0.heap.size) w0 v0_0 x0) (x1 : Int) (r : Int) (hF : F_laws_heldSpotS x0 x1 = some r) :
    Calls Try.prog 114 [v0_0, (.int .i64 x1)].toArray w0 fun e w' => e = .returned (.int .i64 r) ∧ Below w0.heap.size w0 w' := by
  refine calls_mk' Try.func114 rfl Try.ntmps114 rfl rfl fun Q hQ hP => ?_
  have hB : Below w0.heap.size w0 w0 := Below.refl _ _
  have hS : Sep w0.heap.size w0 [] := Sep.nil _ _
  unfold F_laws_heldSpotS at hF
  refine W.seq fun K1 hK1 => ?_
  refine W.region ?_
  refine wl_assign rfl rfl ?_
  refine WL.nil ?_
  refine fun a ha => hK1 _ _ ?_ a ha
  refine W.seq fun K2 hK2 => ?_
  refine W.seq fun K3 hK3 => ?_
  refine W.region ?_
  refine wl_assign rfl rfl ?_
  refine WL.nil ?_
  refine fun a ha => hK3 _ _ ?_ a ha
  refine W.block ?_
  refine W.loopk (fun m a w4 => ∃ (y7 : Int) (y8 : Int), St 31 [(0, v0_0), (1, (.int .i64 y7)), (5, (.int .i64 y8))] a ∧ Below w0.heap.size w0 w4 ∧ Sep w0.heap.size w4 [] ∧ F_laws_heldSpotS_L1 x0 m y7 y8 = some r) FU ?_ ?_
  ·
    exact fun a ha => ⟨x1, 0, ha.sub ⟨rfl, rfl, rfl, trivial⟩, hB, (hS.sel [] rfl), hF⟩
  ·
    rintro m11 a w4 ⟨y7, y8, ha, hB5, hS6, hF⟩ KL10 hKL10
    refine W.at ?_ ha
    cases m11 with
    | zero => exact noneE hF
    | succ m11 =>
      obtain ⟨nx9, hnx9⟩ : ∃ k, k = F_laws_heldSpotS_L1 x0 m11 := ⟨_, rfl⟩
      rw [F_laws_heldSpotS_L1, ← hnx9] at hF
      refine W.seq fun K12 hK12 => ?_
      refine W.seq fun K13 hK13 => ?_
      refine W.region ?_
      refine wl_move rfl rfl ?_
      refine wl_move rfl rfl ?_
      refine wl_lenr (e := ty_106) (l := x0) Try.underlying82 rfl rfl h0_0 ?_
      refine wl_lss rfl rfl rfl ?_
      refine WL.nil ?_
      refine fun a ha => hK13 _ _ ?_ a ha
      refine W.cond rfl (fun h14 => ?_) (fun h14 => ?_)
      · replace hF := ifP h14 hF
        refine W.skip ?_
        refine fun a ha => hK12 _ _ ?_ a ha
        refine W.seq fun K15 hK15 => ?_
        refine W.block ?_
        refine W.seq fun K16 hK16 => ?_
        refine W.seq fun K17 hK17 => ?_
        refine W.region ?_
        refine wl_move rfl rfl ?_
        refine wl_move rfl rfl ?_
        obtain ⟨u18, hu18, hF⟩ := bindE hF
        refine wl_index (e := ty_106) Try.underlying82 rfl rfl rfl h0_0 hu18 ?_
        rintro p19 _ rfl hp20
        refine wl_fieldp (o := 0) ff_106_0 rfl rfl ?_
        refine wl_load_p (vs := [(.int .i64 u18.1)]) (v := (.int .i64 u18.1)) tf_3 rfl rfl ((hp20.ro hB5).add 0) rfl rfl ?_
        refine wl_move rfl rfl ?_
        refine wl_neq rfl rfl rfl ?_
        refine WL.nil ?_
        refine fun a ha => hK17 _ _ ?_ a ha
        refine W.cond rfl (fun h21 => ?_) (fun h21 => ?_)
        · replace hF := ifP h21 hF
          refine W.seq fun K22 hK22 => ?_
          refine W.region ?_
          refine wl_assign rfl rfl ?_
          refine WL.nil ?_
          refine fun a ha => hK22 _ _ ?_ a ha
          refine W.ret ?_
          have hr := Option.some.inj hF
          subst hr
          exact rets (vs := [(.int .i64 (-1))]) hQ rfl ⟨rv_tmp rfl, trivial⟩ ⟨rfl, hB5⟩
        · replace hF := ifN h21 hF
          refine W.skip ?_
          refine fun a ha => hK16 _ _ ?_ a ha
          refine W.seq fun K23 hK23 => ?_
          refine W.region ?_
          refine wl_move rfl rfl ?_
          refine wl_add rfl rfl rfl ?_
          refine wl_assign rfl rfl ?_
          refine WL.nil ?_
          refine fun a ha => hK23 _ _ ?_ a ha
          refine W.seq fun K24 hK24 => ?_
          refine W.seq fun K25 hK25 => ?_
          refine W.region ?_
          refine wl_move rfl rfl ?_
          refine wl_move rfl rfl ?_
          obtain ⟨u26, hu26, hF⟩ := bindE hF
          refine wl_index (e := ty_106) Try.underlying82 rfl rfl rfl h0_0 hu26 ?_
          rintro p27 _ rfl hp28
          refine wl_fieldp (o := 1) ff_106_1 rfl rfl ?_
          refine wl_load_p (vs := [(.int .i64 u26.2)]) (v := (.int .i64 u26.2)) tf_3 rfl rfl ((hp28.ro hB5).add 1) rfl rfl ?_
          refine wl_move rfl rfl ?_
          refine wl_neq rfl rfl rfl ?_
          refine WL.nil ?_
          refine fun a ha => hK25 _ _ ?_ a ha
          refine W.cond rfl (fun h29 => ?_) (fun h29 => ?_)
          · replace hF := ifP h29 hF
            refine W.seq fun K30 hK30 => ?_
            refine W.region ?_
            refine wl_assign rfl rfl ?_
            refine WL.nil ?_
            refine fun a ha => hK30 _ _ ?_ a ha
            refine W.ret ?_
            have hr := Option.some.inj hF
            subst hr
            exact rets (vs := [(.int .i64 (-1))]) hQ rfl ⟨rv_tmp rfl, trivial⟩ ⟨rfl, hB5⟩
          · replace hF := ifN h29 hF
            refine W.skip ?_
            refine fun a ha => hK24 _ _ ?_ a ha
            refine W.region ?_
            refine wl_move rfl rfl ?_
            refine wl_add rfl rfl rfl ?_
            refine wl_assign rfl rfl ?_
            refine WL.nil ?_
            refine fun a ha => hK15 _ _ ?_ a ha
            refine W.region ?_
            refine wl_move rfl rfl ?_
            refine wl_add rfl rfl rfl ?_
            refine wl_assign rfl rfl ?_
            refine WL.nil ?_
            rw [hnx9] at hF
            exact fun a ha => hKL10 a _ m11 (Nat.lt_succ_self m11) ⟨(w64 ((w64 (y7 + 1)) + 1)), (w64 (y8 + 1)), ha.sub ⟨rfl, rfl, rfl, trivial⟩, hB5, (hS6.sel [] rfl), hF⟩
      · replace hF := ifN h14 hF
        refine W.exit ?_
        refine fun a ha => hK2 _ _ ?_ a ha
        refine W.seq fun K31 hK31 => ?_
        refine W.region ?_
        refine wl_move rfl rfl ?_
        refine wl_assign rfl rfl ?_
        refine WL.nil ?_
        refine fun a ha => hK31 _ _ ?_ a ha
        refine W.ret ?_
        have hr := Option.some.inj hF
        subst hr
        exact rets (vs := [(.int .i64 y7)]) hQ rfl ⟨rv_tmp rfl, trivial⟩ ⟨rfl, hB5⟩
theorem C_laws_heldSpotSS (w0 : World) (x0 : (List (List (Int × Int)))) (v0_0 : Value) (h0_0 : rdS ty_82 (· < w0.heap.size) w0 v0_0 x0) (x1 : Int) (r : Int) (hF : F_laws_heldSpotSS x0 x1 = some r) :
    Calls Try.prog 82 [v0_0, (.int .i64 x1)].toArray w0 fun e w' => e = .returned (.int .i64 r) ∧ Below w0.heap.size w0 w' := by
  refine calls_mk' Try.func82 rfl Try.ntmps82 rfl rfl fun Q hQ hP => ?_
  have hB : Below w0.heap.size w0 w0 := Below.refl _ _
  have hS : Sep w0.heap.size w0 [] := Sep.nil _ _
  unfold F_laws_heldSpotSS at hF
  refine W.seq fun K1 hK1 => ?_
  refine W.region ?_
  refine wl_assign rfl rfl ?_
  refine WL.nil ?_
  refine fun a ha => hK1 _ _ ?_ a ha
  refine W.seq fun K2 hK2 => ?_
  refine W.seq fun K3 hK3 => ?_
  refine W.region ?_
  refine wl_assign rfl rfl ?_
  refine WL.nil ?_
  refine fun a ha => hK3 _ _ ?_ a ha
  refine W.block ?_
  refine W.loopk (fun m a w4 => ∃ (y7 : Int) (y8 : Int), St 21 [(0, v0_0), (1, (.int .i64 y7)), (5, (.int .i64 y8))] a ∧ Below w0.heap.size w0 w4 ∧ Sep w0.heap.size w4 [] ∧ F_laws_heldSpotSS_L1 x0 m y7 y8 = some r) FU ?_ ?_
  ·
    exact fun a ha => ⟨x1, 0, ha.sub ⟨rfl, rfl, rfl, trivial⟩, hB, (hS.sel [] rfl), hF⟩
  ·
    rintro m11 a w4 ⟨y7, y8, ha, hB5, hS6, hF⟩ KL10 hKL10
    refine W.at ?_ ha
    cases m11 with
    | zero => exact noneE hF
    | succ m11 =>
      obtain ⟨nx9, hnx9⟩ : ∃ k, k = F_laws_heldSpotSS_L1 x0 m11 := ⟨_, rfl⟩
      rw [F_laws_heldSpotSS_L1, ← hnx9] at hF
      refine W.seq fun K12 hK12 => ?_
      refine W.seq fun K13 hK13 => ?_
      refine W.region ?_
      refine wl_move rfl rfl ?_
      refine wl_move rfl rfl ?_
      refine wl_lenr (e := ty_82) (l := x0) Try.underlying40 rfl rfl h0_0 ?_
      refine wl_lss rfl rfl rfl ?_
      refine WL.nil ?_
      refine fun a ha => hK13 _ _ ?_ a ha
      refine W.cond rfl (fun h14 => ?_) (fun h14 => ?_)
      · replace hF := ifP h14 hF
        refine W.skip ?_
        refine fun a ha => hK12 _ _ ?_ a ha
        refine W.seq fun K15 hK15 => ?_
        refine W.block ?_
        refine W.seq fun K16 hK16 => ?_
        refine W.region ?_
        refine wl_move rfl rfl ?_
        refine wl_move rfl rfl ?_
        obtain ⟨u17, hu17, hF⟩ := bindE hF
        refine wl_index (e := ty_82) Try.underlying40 rfl rfl rfl h0_0 hu17 ?_
        rintro p18 _ ⟨v20, rfl, hv21⟩ hp19
        refine wl_load_p (vs := [v20]) (v := v20) tf_82 rfl rfl (hp19.ro hB5) rfl rfl ?_
        refine wl_move rfl rfl ?_
        obtain ⟨u22, hu22, hF⟩ := bindE hF
        refine wl_call rfl Try.call114 (C_laws_heldSpotS w4 u17 v20 (hv21.ro hB5) y7 _ hu22) rfl ?_
        rintro _ w23 ⟨rfl, hb24⟩
        refine ⟨_, rfl, ?_⟩
        have hB25 := hB5.trans (hb24.mono hB5.size)
        have hS26 := hS6.below hb24
        refine wl_assign rfl rfl ?_
        refine WL.nil ?_
        refine fun a ha => hK16 _ _ ?_ a ha
        refine W.seq fun K28 hK28 => ?_
        refine W.region ?_
        refine wl_move rfl rfl ?_
        refine wl_lss rfl rfl rfl ?_
        refine WL.nil ?_
        refine fun a ha => hK28 _ _ ?_ a ha
        refine W.cond rfl (fun h29 => ?_) (fun h29 => ?_)
        · replace hF := ifP h29 hF
          refine W.seq fun K30 hK30 => ?_
          refine W.region ?_
          refine wl_assign rfl rfl ?_
          refine WL.nil ?_
          refine fun a ha => hK30 _ _ ?_ a ha
          refine W.ret ?_
          have hr := Option.some.inj hF
          subst hr
          exact rets (vs := [(.int .i64 (-1))]) hQ rfl ⟨rv_tmp rfl, trivial⟩ ⟨rfl, hB25⟩
        · replace hF := ifN h29 hF
          refine W.skip ?_
          refine fun a ha => hK15 _ _ ?_ a ha
          refine W.region ?_
          refine wl_move rfl rfl ?_
          refine wl_add rfl rfl rfl ?_
          refine wl_assign rfl rfl ?_
          refine WL.nil ?_
          rw [hnx9] at hF
          exact fun a ha => hKL10 a _ m11 (Nat.lt_succ_self m11) ⟨u22, (w64 (y8 + 1)), ha.sub ⟨rfl, rfl, rfl, trivial⟩, hB25, (hS26.sel [] rfl), hF⟩
      · replace hF := ifN h14 hF
        refine W.exit ?_
        refine fun a ha => hK2 _ _ ?_ a ha
        refine W.seq fun K31 hK31 => ?_
        refine W.region ?_
        refine wl_move rfl rfl ?_
        refine wl_assign rfl rfl ?_
        refine WL.nil ?_
        refine fun a ha => hK31 _ _ ?_ a ha
        refine W.ret ?_
        have hr := Option.some.inj hF
        subst hr
        exact rets (vs := [(.int .i64 y7)]) hQ rfl ⟨rv_tmp rfl, trivial⟩ ⟨rfl, hB5⟩
theorem C_laws_heldShow (w0 : World) (x0 : ((List (List (Int × Int))) × (List Int) × Int × Int)) (v0_0 : Value) (h0_0 : rdS ty_82 (· < w0.heap.size) w0 v0_0 x0.1) (v0_1 : Value) (h0_1 : rdS ty_3 (· < w0.heap.size) w0 v0_1 x0.2.1) (x1 : Int) (r : Int) (hF : F_laws_heldShow x0 x1 = some r) :
    Calls Try.prog 47 [(.agg #[v0_0, v0_1, (.int .i64 x0.2.2.1), (.int .i64 x0.2.2.2)]), (.int .i64 x1)].toArray w0 fun e w' => e = .returned (.int .i64 r) ∧ Below w0.heap.size w0 w' := by
  refine calls_mk' Try.func47 rfl Try.ntmps47 rfl rfl fun Q hQ hP => ?_
  have hB : Below w0.heap.size w0 w0 := Below.refl _ _
  have hS : Sep w0.heap.size w0 [] := Sep.nil _ _
  unfold F_laws_heldShow at hF
  refine W.seq fun K1 hK1 => ?_
  refine W.region ?_
  refine wl_box (cs := [v0_0, v0_1, (.int .i64 x0.2.2.1), (.int .i64 x0.2.2.2)]) rfl rfl rfl hB hS ?_
  intro b2 w3 hb4 hB5 hS6
  refine wl_assign rfl rfl ?_
  refine WL.nil ?_
  refine fun a ha => hK1 _ _ ?_ a ha
  refine W.seq fun K7 hK7 => ?_
  refine W.region ?_
  refine wl_field (o := 0) (off' := 0) ff_42_0 rfl rfl rfl ?_
  refine wl_load_blk (i := 0) (vs := [v0_0]) (v := v0_0) tf_40 rfl rfl hS6 rfl rfl rfl ?_
  refine wl_move rfl rfl ?_
  obtain ⟨u8, hu8, hF⟩ := bindE hF
  refine wl_call rfl Try.call82 (C_laws_heldSpotSS w3 x0.1 v0_0 (h0_0.ro hB5) x1 _ hu8) rfl ?_
  rintro _ w9 ⟨rfl, hb10⟩
  refine ⟨_, rfl, ?_⟩
  have hB11 := hB5.trans (hb10.mono hB5.size)
  have hS12 := hS6.below hb10
  refine wl_assign rfl rfl ?_
  refine WL.nil ?_
  refine fun a ha => hK7 _ _ ?_ a ha
  refine W.seq fun K14 hK14 => ?_
  refine W.seq fun K15 hK15 => ?_
  refine W.region ?_
  refine wl_move rfl rfl ?_
  refine wl_lss rfl rfl rfl ?_
  refine WL.nil ?_
  refine fun a ha => hK15 _ _ ?_ a ha
  refine W.cond rfl (fun h16 => ?_) (fun h16 => ?_)
  · replace hF := ifP h16 hF
    refine W.seq fun K17 hK17 => ?_
    refine W.region ?_
    refine wl_assign rfl rfl ?_
    refine WL.nil ?_
    refine fun a ha => hK17 _ _ ?_ a ha
    refine W.ret ?_
    have hr := Option.some.inj hF
    subst hr
    exact rets (vs := [(.int .i64 (-1))]) hQ rfl ⟨rv_tmp rfl, trivial⟩ ⟨rfl, hB11⟩
  · replace hF := ifN h16 hF
    refine W.skip ?_
    refine fun a ha => hK14 _ _ ?_ a ha
    refine W.seq fun K18 hK18 => ?_
    refine W.region ?_
    refine wl_field (o := 1) (off' := 1) ff_42_1 rfl rfl rfl ?_
    refine wl_load_blk (i := 0) (vs := [v0_1]) (v := v0_1) tf_24 rfl rfl hS12 rfl rfl rfl ?_
    refine wl_move rfl rfl ?_
    obtain ⟨u19, hu19, hF⟩ := bindE hF
    refine wl_call rfl Try.call14 (C_laws_heldIntS w9 x0.2.1 v0_1 (h0_1.ro hB11) u8 _ hu19) rfl ?_
    rintro _ w20 ⟨rfl, hb21⟩
    refine ⟨_, rfl, ?_⟩
    have hB22 := hB11.trans (hb21.mono hB11.size)
    have hS23 := hS12.below hb21
    refine wl_assign rfl rfl ?_
    refine WL.nil ?_
    refine fun a ha => hK18 _ _ ?_ a ha
    refine W.seq fun K25 hK25 => ?_
    refine W.seq fun K26 hK26 => ?_
    refine W.region ?_
    refine wl_move rfl rfl ?_
    refine wl_lss rfl rfl rfl ?_
    refine WL.nil ?_
    refine fun a ha => hK26 _ _ ?_ a ha
    refine W.cond rfl (fun h27 => ?_) (fun h27 => ?_)
    · replace hF := ifP h27 hF
      refine W.seq fun K28 hK28 => ?_
      refine W.region ?_
      refine wl_assign rfl rfl ?_
      refine WL.nil ?_
      refine fun a ha => hK28 _ _ ?_ a ha
      refine W.ret ?_
      have hr := Option.some.inj hF
      subst hr
      exact rets (vs := [(.int .i64 (-1))]) hQ rfl ⟨rv_tmp rfl, trivial⟩ ⟨rfl, hB22⟩
    · replace hF := ifN h27 hF
      refine W.skip ?_
      refine fun a ha => hK25 _ _ ?_ a ha
      refine W.seq fun K29 hK29 => ?_
      refine W.region ?_
      refine wl_move rfl rfl ?_
      refine wl_assign rfl rfl ?_
      refine WL.nil ?_
      refine fun a ha => hK29 _ _ ?_ a ha
      refine W.ret ?_
      have hr := Option.some.inj hF
      subst hr
      exact rets (vs := [(.int .i64 u19)]) hQ rfl ⟨rv_tmp rfl, trivial⟩ ⟨rfl, hB22⟩
theorem C_laws_heldMarch (w0 : World) (x0 : (((List (List (Int × Int))) × (List Int) × Int × Int) × Int × (List Int) × (List Int))) (v0_0 : Value) (h0_0 : rdS ty_82 (· < w0.heap.size) w0 v0_0 x0.1.1) (v0_1 : Value) (h0_1 : rdS ty_3 (· < w0.heap.size) w0 v0_1 x0.1.2.1) (v0_2 : Value) (h0_2 : rdS ty_3 (· < w0.heap.size) w0 v0_2 x0.2.2.1) (v0_3 : Value) (h0_3 : rdS ty_3 (· < w0.heap.size) w0 v0_3 x0.2.2.2) (x1 : Int) (r : Int) (hF : F_laws_heldMarch x0 x1 = some r) :
    Calls Try.prog 21 [(.agg #[v0_0, v0_1, (.int .i64 x0.1.2.2.1), (.int .i64 x0.1.2.2.2), (.int .i64 x0.2.1), v0_2, v0_3]), (.int .i64 x1)].toArray w0 fun e w' => e = .returned (.int .i64 r) ∧ Below w0.heap.size w0 w' := by
  refine calls_mk' Try.func21 rfl Try.ntmps21 rfl rfl fun Q hQ hP => ?_
  have hB : Below w0.heap.size w0 w0 := Below.refl _ _
  have hS : Sep w0.heap.size w0 [] := Sep.nil _ _
  unfold F_laws_heldMarch at hF
  refine W.seq fun K1 hK1 => ?_
  refine W.region ?_
  refine wl_box (cs := [v0_0, v0_1, (.int .i64 x0.1.2.2.1), (.int .i64 x0.1.2.2.2), (.int .i64 x0.2.1), v0_2, v0_3]) rfl rfl rfl hB hS ?_
  intro b2 w3 hb4 hB5 hS6
  refine wl_assign rfl rfl ?_
  refine WL.nil ?_
  refine fun a ha => hK1 _ _ ?_ a ha
  refine W.seq fun K7 hK7 => ?_
  refine W.region ?_
  refine wl_field (o := 0) (off' := 0) ff_44_0 rfl rfl rfl ?_
  refine wl_load_blk (i := 0) (vs := [v0_0, v0_1, (.int .i64 x0.1.2.2.1), (.int .i64 x0.1.2.2.2)]) (v := (.agg #[v0_0, v0_1, (.int .i64 x0.1.2.2.1), (.int .i64 x0.1.2.2.2)])) tf_42 rfl rfl hS6 rfl rfl rfl ?_
  refine wl_move rfl rfl ?_
  obtain ⟨u8, hu8, hF⟩ := bindE hF
  refine wl_call rfl Try.call47 (C_laws_heldShow w3 x0.1 v0_0 (h0_0.ro hB5) v0_1 (h0_1.ro hB5) x1 _ hu8) rfl ?_
  rintro _ w9 ⟨rfl, hb10⟩
  refine ⟨_, rfl, ?_⟩
  have hB11 := hB5.trans (hb10.mono hB5.size)
  have hS12 := hS6.below hb10
  refine wl_assign rfl rfl ?_
  refine WL.nil ?_
  refine fun a ha => hK7 _ _ ?_ a ha
  refine W.seq fun K14 hK14 => ?_
  refine W.seq fun K15 hK15 => ?_
  refine W.region ?_
  refine wl_move rfl rfl ?_
  refine wl_lss rfl rfl rfl ?_
  refine WL.nil ?_
  refine fun a ha => hK15 _ _ ?_ a ha
  refine W.cond rfl (fun h16 => ?_) (fun h16 => ?_)
  · replace hF := ifP h16 hF
    refine W.seq fun K17 hK17 => ?_
    refine W.region ?_
    refine wl_assign rfl rfl ?_
    refine WL.nil ?_
    refine fun a ha => hK17 _ _ ?_ a ha
    refine W.ret ?_
    have hr := Option.some.inj hF
    subst hr
    exact rets (vs := [(.int .i64 (-1))]) hQ rfl ⟨rv_tmp rfl, trivial⟩ ⟨rfl, hB11⟩
  · replace hF := ifN h16 hF
    refine W.skip ?_
    refine fun a ha => hK14 _ _ ?_ a ha
    refine W.seq fun K18 hK18 => ?_
    refine W.region ?_
    refine wl_field (o := 5) (off' := 5) ff_44_2 rfl rfl rfl ?_
    refine wl_load_blk (i := 0) (vs := [v0_2]) (v := v0_2) tf_24 rfl rfl hS12 rfl rfl rfl ?_
    refine wl_move rfl rfl ?_
    obtain ⟨u19, hu19, hF⟩ := bindE hF
    refine wl_call rfl Try.call14 (C_laws_heldIntS w9 x0.2.2.1 v0_2 (h0_2.ro hB11) u8 _ hu19) rfl ?_
    rintro _ w20 ⟨rfl, hb21⟩
    refine ⟨_, rfl, ?_⟩
    have hB22 := hB11.trans (hb21.mono hB11.size)
    have hS23 := hS12.below hb21
    refine wl_assign rfl rfl ?_
    refine WL.nil ?_
    refine fun a ha => hK18 _ _ ?_ a ha
    refine W.seq fun K25 hK25 => ?_
    refine W.seq fun K26 hK26 => ?_
    refine W.region ?_
    refine wl_move rfl rfl ?_
    refine wl_lss rfl rfl rfl ?_
    refine WL.nil ?_
    refine fun a ha => hK26 _ _ ?_ a ha
    refine W.cond rfl (fun h27 => ?_) (fun h27 => ?_)
    · replace hF := ifP h27 hF
      refine W.seq fun K28 hK28 => ?_
      refine W.region ?_
      refine wl_assign rfl rfl ?_
      refine WL.nil ?_
      refine fun a ha => hK28 _ _ ?_ a ha
      refine W.ret ?_
      have hr := Option.some.inj hF
      subst hr
      exact rets (vs := [(.int .i64 (-1))]) hQ rfl ⟨rv_tmp rfl, trivial⟩ ⟨rfl, hB22⟩
    · replace hF := ifN h27 hF
      refine W.skip ?_
      refine fun a ha => hK25 _ _ ?_ a ha
      refine W.seq fun K29 hK29 => ?_
      refine W.region ?_
      refine wl_field (o := 6) (off' := 6) ff_44_3 rfl rfl rfl ?_
      refine wl_load_blk (i := 0) (vs := [v0_3]) (v := v0_3) tf_24 rfl rfl hS23 rfl rfl rfl ?_
      refine wl_move rfl rfl ?_
      obtain ⟨u30, hu30, hF⟩ := bindE hF
      refine wl_call rfl Try.call14 (C_laws_heldIntS w20 x0.2.2.2 v0_3 (h0_3.ro hB22) u19 _ hu30) rfl ?_
      rintro _ w31 ⟨rfl, hb32⟩
      refine ⟨_, rfl, ?_⟩
      have hB33 := hB22.trans (hb32.mono hB22.size)
      have hS34 := hS23.below hb32
      refine wl_assign rfl rfl ?_
      refine WL.nil ?_
      refine fun a ha => hK29 _ _ ?_ a ha
      refine W.seq fun K36 hK36 => ?_
      refine W.seq fun K37 hK37 => ?_
      refine W.region ?_
      refine wl_move rfl rfl ?_
      refine wl_lss rfl rfl rfl ?_
      refine WL.nil ?_
      refine fun a ha => hK37 _ _ ?_ a ha
      refine W.cond rfl (fun h38 => ?_) (fun h38 => ?_)
      · replace hF := ifP h38 hF
        refine W.seq fun K39 hK39 => ?_
        refine W.region ?_
        refine wl_assign rfl rfl ?_
        refine WL.nil ?_
        refine fun a ha => hK39 _ _ ?_ a ha
        refine W.ret ?_
        have hr := Option.some.inj hF
        subst hr
        exact rets (vs := [(.int .i64 (-1))]) hQ rfl ⟨rv_tmp rfl, trivial⟩ ⟨rfl, hB33⟩
      · replace hF := ifN h38 hF
        refine W.skip ?_
        refine fun a ha => hK36 _ _ ?_ a ha
        refine W.seq fun K40 hK40 => ?_
        refine W.region ?_
        refine wl_move rfl rfl ?_
        refine wl_assign rfl rfl ?_
        refine WL.nil ?_
        refine fun a ha => hK40 _ _ ?_ a ha
        refine W.ret ?_
        have hr := Option.some.inj hF
        subst hr
        exact rets (vs := [(.int .i64 u30)]) hQ rfl ⟨rv_tmp rfl, trivial⟩ ⟨rfl, hB33⟩
theorem C_laws_FnExactHaltPerformer (w0 : World) (x0 : (((List (List (Int × Int))) × (List Int) × Int × Int) × Int × (List Int) × (List Int))) (v0_0 : Value) (h0_0 : rdS ty_104 (· < w0.heap.size) w0 v0_0 x0.1.1) (v0_1 : Value) (h0_1 : rdS ty_3 (· < w0.heap.size) w0 v0_1 x0.1.2.1) (v0_2 : Value) (h0_2 : rdS ty_3 (· < w0.heap.size) w0 v0_2 x0.2.2.1) (v0_3 : Value) (h0_3 : rdS ty_3 (· < w0.heap.size) w0 v0_3 x0.2.2.2) (x1 : Int) (r : Bool) (hF : F_laws_FnExactHaltPerformer x0 x1 = some r) :
    Calls Try.prog 4 [(.agg #[v0_0, v0_1, (.int .i64 x0.1.2.2.1), (.int .i64 x0.1.2.2.2), (.int .i64 x0.2.1), v0_2, v0_3]), (.int .i64 x1)].toArray w0 fun e w' => e = .returned (.bool r) ∧ Below w0.heap.size w0 w' := by
  refine calls_mk' Try.func4 rfl Try.ntmps4 rfl rfl fun Q hQ hP => ?_
  have hB : Below w0.heap.size w0 w0 := Below.refl _ _
  have hS : Sep w0.heap.size w0 [] := Sep.nil _ _
  unfold F_laws_FnExactHaltPerformer at hF
  refine W.seq fun K1 hK1 => ?_
  refine W.region ?_
  refine wl_box (cs := [v0_0, v0_1, (.int .i64 x0.1.2.2.1), (.int .i64 x0.1.2.2.2), (.int .i64 x0.2.1), v0_2, v0_3]) rfl rfl rfl hB hS ?_
  intro b2 w3 hb4 hB5 hS6
  refine wl_assign rfl rfl ?_
  refine WL.nil ?_
  refine fun a ha => hK1 _ _ ?_ a ha
  refine W.seq fun K7 hK7 => ?_
  refine W.region ?_
  refine wl_assign rfl rfl ?_
  refine WL.nil ?_
  refine fun a ha => hK7 _ _ ?_ a ha
  refine W.seq fun K8 hK8 => ?_
  refine W.region ?_
  refine wl_load_blk (i := 0) (vs := [v0_0, v0_1, (.int .i64 x0.1.2.2.1), (.int .i64 x0.1.2.2.2), (.int .i64 x0.2.1), v0_2, v0_3]) (v := (.agg #[v0_0, v0_1, (.int .i64 x0.1.2.2.1), (.int .i64 x0.1.2.2.2), (.int .i64 x0.2.1), v0_2, v0_3])) tf_38 rfl rfl hS6 rfl rfl rfl ?_
  refine wl_move rfl rfl ?_
  obtain ⟨u9, hu9, hF⟩ := bindE hF
  refine wl_call rfl Try.call15 (C_laws_szMarch w3 x0 v0_0 (h0_0.ro hB5) v0_1 (h0_1.ro hB5) v0_2 (h0_2.ro hB5) v0_3 (h0_3.ro hB5) 1048576 _ hu9) rfl ?_
  rintro _ w10 ⟨rfl, hb11⟩
  refine ⟨_, rfl, ?_⟩
  have hB12 := hB5.trans (hb11.mono hB5.size)
  have hS13 := hS6.below hb11
  refine wl_assign rfl rfl ?_
  refine WL.nil ?_
  refine fun a ha => hK8 _ _ ?_ a ha
  refine W.seq fun K15 hK15 => ?_
  refine W.seq fun K16 hK16 => ?_
  refine W.region ?_
  refine wl_move rfl rfl ?_
  refine wl_lss rfl rfl rfl ?_
  refine WL.nil ?_
  refine fun a ha => hK16 _ _ ?_ a ha
  refine W.cond rfl (fun h17 => ?_) (fun h17 => ?_)
  · replace hF := ifP h17 hF
    refine W.seq fun K18 hK18 => ?_
    refine W.region ?_
    refine wl_assign rfl rfl ?_
    refine WL.nil ?_
    refine fun a ha => hK18 _ _ ?_ a ha
    refine W.ret ?_
    have hr := Option.some.inj hF
    subst hr
    exact rets (vs := [(.bool true)]) hQ rfl ⟨rv_tmp rfl, trivial⟩ ⟨rfl, hB12⟩
  · replace hF := ifN h17 hF
    refine W.skip ?_
    refine fun a ha => hK15 _ _ ?_ a ha
    refine W.seq fun K19 hK19 => ?_
    refine W.region ?_
    refine wl_load_blk (i := 0) (vs := [v0_0, v0_1, (.int .i64 x0.1.2.2.1), (.int .i64 x0.1.2.2.2), (.int .i64 x0.2.1), v0_2, v0_3]) (v := (.agg #[v0_0, v0_1, (.int .i64 x0.1.2.2.1), (.int .i64 x0.1.2.2.2), (.int .i64 x0.2.1), v0_2, v0_3])) tf_38 rfl rfl hS13 rfl rfl rfl ?_
    obtain ⟨u20, hu20, hF⟩ := bindE hF
    refine wl_call rfl Try.call17 (C_laws_toMarch w10 x0 v0_0 (h0_0.ro hB12) v0_1 (h0_1.ro hB12) v0_2 (h0_2.ro hB12) v0_3 (h0_3.ro hB12) _ hu20) rfl ?_
    rintro _ w29 ⟨v21, F22, v23, F24, v25, F26, v27, F28, rfl, hb30, hM33⟩
    refine ⟨_, rfl, ?_⟩
    have hB31 := hB12.trans (hb30.mono hB12.size)
    have hS32 := hS13.join hb30 hM33 hB12.size
    refine wl_move rfl rfl ?_
    obtain ⟨u34, hu34, hF⟩ := bindE hF
    refine wl_call rfl Try.call16 (C_spec_HaltPerformer w29 u20 v21 (hS32.own_ro (i := 0) rfl) v23 (hS32.own_ro (i := 1) rfl) v25 (hS32.own_ro (i := 2) rfl) v27 (hS32.own_ro (i := 3) rfl) x1 _ hu34) rfl ?_
    rintro _ w43 ⟨v35, F36, v37, F38, v39, F40, v41, F42, rfl, hb44, hM47⟩
    refine ⟨_, rfl, ?_⟩
    have hB45 := hB31.trans (hb44.mono hB31.size)
    have hS46 := hS32.join hb44 hM47 hB31.size
    refine wl_move rfl rfl ?_
    refine wl_extract rfl rfl rfl ?_
    refine wl_extract rfl rfl rfl ?_
    refine wl_alloc (cs := [(.slice none 0 0), (.slice none 0 0), (.int .i64 0), (.int .i64 0), (.int .i64 0), (.slice none 0 0), (.slice none 0 0)]) tf_44 rfl rfl hB45 hS46 ?_
    intro b48 w49 hb50 hB51 hS52
    refine wl_store_blk (i := 0) (vs := [v35, v37, (.int .i64 u34.1.1.2.2.1), (.int .i64 u34.1.1.2.2.2), (.int .i64 u34.1.2.1), v39, v41]) (cs' := [v35, v37, (.int .i64 u34.1.1.2.2.1), (.int .i64 u34.1.1.2.2.2), (.int .i64 u34.1.2.1), v39, v41]) tf_44 rfl rfl rfl rfl hB51 hS52 rfl rfl ⟨(hS52.own_ro (i := 1) rfl).one, (hS52.own_ro (i := 2) rfl).one, rfl, rfl, rfl, (hS52.own_ro (i := 3) rfl).one, (hS52.own_ro (i := 4) rfl).one, trivial⟩ rfl ?_
    intro w53 hk56 hB54 hS55
    refine wl_assign rfl rfl ?_
    refine WL.nil ?_
    refine fun a ha => hK19 _ _ ?_ a ha
    refine W.seq fun K57 hK57 => ?_
    refine W.region ?_
    refine wl_load_blk (i := 9) (vs := [v0_0, v0_1, (.int .i64 x0.1.2.2.1), (.int .i64 x0.1.2.2.2), (.int .i64 x0.2.1), v0_2, v0_3]) (v := (.agg #[v0_0, v0_1, (.int .i64 x0.1.2.2.1), (.int .i64 x0.1.2.2.2), (.int .i64 x0.2.1), v0_2, v0_3])) tf_38 rfl rfl hS55 rfl rfl rfl ?_
    obtain ⟨u58, hu58, hF⟩ := bindE hF
    refine wl_call rfl Try.call17 (C_laws_toMarch w53 x0 v0_0 (h0_0.ro hB54) v0_1 (h0_1.ro hB54) v0_2 (h0_2.ro hB54) v0_3 (h0_3.ro hB54) _ hu58) rfl ?_
    rintro _ w67 ⟨v59, F60, v61, F62, v63, F64, v65, F66, rfl, hb68, hM71⟩
    refine ⟨_, rfl, ?_⟩
    have hB69 := hB54.trans (hb68.mono hB54.size)
    have hS70 := hS55.join hb68 hM71 hB54.size
    refine wl_alloc (cs := [(.slice none 0 0), (.slice none 0 0), (.int .i64 0), (.int .i64 0), (.int .i64 0), (.slice none 0 0), (.slice none 0 0)]) tf_44 rfl rfl hB69 hS70 ?_
    intro b72 w73 hb74 hB75 hS76
    refine wl_store_blk (i := 0) (vs := [v59, v61, (.int .i64 u58.1.2.2.1), (.int .i64 u58.1.2.2.2), (.int .i64 u58.2.1), v63, v65]) (cs' := [v59, v61, (.int .i64 u58.1.2.2.1), (.int .i64 u58.1.2.2.2), (.int .i64 u58.2.1), v63, v65]) tf_44 rfl rfl rfl rfl hB75 hS76 rfl rfl ⟨(hS76.own_ro (i := 1) rfl).one, (hS76.own_ro (i := 2) rfl).one, rfl, rfl, rfl, (hS76.own_ro (i := 3) rfl).one, (hS76.own_ro (i := 4) rfl).one, trivial⟩ rfl ?_
    intro w77 hk80 hB78 hS79
    refine WL.nil ?_
    refine fun a ha => hK57 _ _ ?_ a ha
    refine W.seq fun K81 hK81 => ?_
    refine W.region ?_
    refine wl_load_blk (i := 0) (vs := [v59, v61, (.int .i64 u58.1.2.2.1), (.int .i64 u58.1.2.2.2), (.int .i64 u58.2.1), v63, v65]) (v := (.agg #[v59, v61, (.int .i64 u58.1.2.2.1), (.int .i64 u58.1.2.2.2), (.int .i64 u58.2.1), v63, v65])) tf_44 rfl rfl hS79 rfl rfl rfl ?_
    refine wl_move rfl rfl ?_
    obtain ⟨u82, hu82, hF⟩ := bindE hF
    refine wl_call rfl Try.call18 (C_impl_HaltPerformer w77 u58 v59 (hS79.own_ro (i := 1) rfl) v61 (hS79.own_ro (i := 2) rfl) v63 (hS79.own_ro (i := 3) rfl) v65 (hS79.own_ro (i := 4) rfl) x1 _ hu82) rfl ?_
    rintro _ w91 ⟨v83, F84, v85, F86, v87, F88, v89, F90, rfl, hb92, hM95⟩
    refine ⟨_, rfl, ?_⟩
    have hB93 := hB78.trans (hb92.mono hB78.size)
    have hS94 := hS79.join hb92 hM95 hB78.size
    refine wl_move rfl rfl ?_
    refine wl_extract rfl rfl rfl ?_
    refine wl_extract rfl rfl rfl ?_
    refine wl_alloc (cs := [(.slice none 0 0), (.slice none 0 0), (.int .i64 0), (.int .i64 0), (.int .i64 0), (.slice none 0 0), (.slice none 0 0)]) tf_44 rfl rfl hB93 hS94 ?_
    intro b96 w97 hb98 hB99 hS100
    refine wl_store_blk (i := 0) (vs := [v83, v85, (.int .i64 u82.1.1.2.2.1), (.int .i64 u82.1.1.2.2.2), (.int .i64 u82.1.2.1), v87, v89]) (cs' := [v83, v85, (.int .i64 u82.1.1.2.2.1), (.int .i64 u82.1.1.2.2.2), (.int .i64 u82.1.2.1), v87, v89]) tf_44 rfl rfl rfl rfl hB99 hS100 rfl rfl ⟨(hS100.own_ro (i := 1) rfl).one, (hS100.own_ro (i := 2) rfl).one, rfl, rfl, rfl, (hS100.own_ro (i := 3) rfl).one, (hS100.own_ro (i := 4) rfl).one, trivial⟩ rfl ?_
    intro w101 hk104 hB102 hS103
    refine wl_assign rfl rfl ?_
    refine WL.nil ?_
    refine fun a ha => hK81 _ _ ?_ a ha
    refine W.seq fun K105 hK105 => ?_
    refine W.seq fun K106 hK106 => ?_
    obtain ⟨k111, hk111, hF⟩ := jE1 hF
    have hJ112 : ∀ (y110 : Bool) (w107 : World) (_ : k111 y110 = some r) (_ : Below w0.heap.size w0 w107) (_ : Sep w0.heap.size w107 [R.blk b2 38 [v0_0, v0_1, (.int .i64 x0.1.2.2.1), (.int .i64 x0.1.2.2.2), (.int .i64 x0.2.1), v0_2, v0_3], R.own ty_82 F36 v35 u34.1.1.1, R.own ty_3 F38 v37 u34.1.1.2.1, R.own ty_3 F40 v39 u34.1.2.2.1, R.own ty_3 F42 v41 u34.1.2.2.2, R.blk b48 44 [v35, v37, (.int .i64 u34.1.1.2.2.1), (.int .i64 u34.1.1.2.2.2), (.int .i64 u34.1.2.1), v39, v41], R.own ty_82 F60 v59 u58.1.1, R.own ty_3 F62 v61 u58.1.2.1, R.own ty_3 F64 v63 u58.2.2.1, R.own ty_3 F66 v65 u58.2.2.2, R.blk b72 44 [v59, v61, (.int .i64 u58.1.2.2.1), (.int .i64 u58.1.2.2.2), (.int .i64 u58.2.1), v63, v65], R.own ty_82 F84 v83 u82.1.1.1, R.own ty_3 F86 v85 u82.1.1.2.1, R.own ty_3 F88 v87 u82.1.2.2.1, R.own ty_3 F90 v89 u82.1.2.2.2, R.blk b96 44 [v83, v85, (.int .i64 u82.1.1.2.2.1), (.int .i64 u82.1.1.2.2.2), (.int .i64 u82.1.2.1), v87, v89]]), ∀ a, St 101 [(1, (.int .i64 x1)), (2, (.pointer (some ⟨b2, 0, none⟩))), (6, (.pointer (some ⟨b48, 0, none⟩))), (7, (.bool u34.2)), (8, (.pointer (some ⟨b72, 0, none⟩))), (9, (.pointer (some ⟨b96, 0, none⟩))), (10, (.bool u82.2)), (44, (.bool y110))] a → K106 a w107 := by
      intro y110 w107 hF hB108 hS109
      subst hk111
      refine fun a ha => hK106 _ _ ?_ a ha
      refine W.cond rfl (fun h113 => ?_) (fun h113 => ?_)
      · replace hF := ifP h113 hF
        refine W.seq fun K114 hK114 => ?_
        refine W.region ?_
        refine wl_assign rfl rfl ?_
        refine WL.nil ?_
        refine fun a ha => hK114 _ _ ?_ a ha
        refine W.ret ?_
        have hr := Option.some.inj hF
        subst hr
        exact rets (vs := [(.bool false)]) hQ rfl ⟨rv_tmp rfl, trivial⟩ ⟨rfl, hB108⟩
      · replace hF := ifN h113 hF
        refine W.skip ?_
        refine fun a ha => hK105 _ _ ?_ a ha
        refine W.seq fun K115 hK115 => ?_
        refine W.seq fun K116 hK116 => ?_
        refine W.regionH mixed_ [] hB108 hS109 ?_
        intro w117 hb118 hB119 hS120
        have hSW121 := KeepX.refl w117 []
        refine WH.takex (i := 0) rfl (by kernel_rfl) (by kernel_rfl) (by kernel_rfl) hP hSW121 ?_
        refine pr_load_blk (i := 10) (vs := [v59, v61, (.int .i64 u58.1.2.2.1), (.int .i64 u58.1.2.2.2), (.int .i64 u58.2.1), v63, v65]) (v := (.agg #[v59, v61, (.int .i64 u58.1.2.2.1), (.int .i64 u58.1.2.2.2), (.int .i64 u58.2.1), v63, v65])) tf_44 rfl rfl hS120 rfl rfl rfl (by simp) ?_
        refine WH.takex (i := 1) rfl (by kernel_rfl) (by kernel_rfl) (by kernel_rfl) hP hSW121 ?_
        refine pr_load_blk (i := 0) (vs := [v0_0, v0_1, (.int .i64 x0.1.2.2.1), (.int .i64 x0.1.2.2.2), (.int .i64 x0.2.1), v0_2, v0_3]) (v := (.agg #[v0_0, v0_1, (.int .i64 x0.1.2.2.1), (.int .i64 x0.1.2.2.2), (.int .i64 x0.2.1), v0_2, v0_3])) tf_38 rfl rfl hS120 rfl rfl rfl (by simp) ?_
        refine WH.one (i := 2) (by kernel_rfl) rfl ?_
        obtain ⟨u122, hu122, hF⟩ := bindE hF
        refine wl_call rfl Try.call17 (C_laws_toMarch w117 x0 v0_0 (h0_0.ro hB119) v0_1 (h0_1.ro hB119) v0_2 (h0_2.ro hB119) v0_3 (h0_3.ro hB119) _ hu122) rfl ?_
        rintro _ w131 ⟨v123, F124, v125, F126, v127, F128, v129, F130, rfl, hb132, hM135⟩
        refine ⟨_, rfl, ?_⟩
        have hB133 := hB119.trans (hb132.mono hB119.size)
        have hS134 := hS120.join hb132 hM135 hB119.size
        have hSW136 := hSW121.ext hb132
        refine WL.nil (WH.ret hSW136 ?_)
        refine WH.one (i := 3) (by kernel_rfl) rfl ?_
        obtain ⟨u137, hu137, hF⟩ := bindE hF
        refine wl_call rfl Try.call19 (C_laws_eqMarch w131 u58 v59 (hS134.own_ro (i := 10) rfl) v61 (hS134.own_ro (i := 11) rfl) v63 (hS134.own_ro (i := 12) rfl) v65 (hS134.own_ro (i := 13) rfl) u122 v123 (hS134.own_ro (i := 0) rfl) v125 (hS134.own_ro (i := 1) rfl) v127 (hS134.own_ro (i := 2) rfl) v129 (hS134.own_ro (i := 3) rfl) _ hu137) rfl ?_
        rintro _ w138 ⟨rfl, hb139⟩
        refine ⟨_, rfl, ?_⟩
        have hB140 := hB133.trans (hb139.mono hB133.size)
        have hS141 := hS134.below hb139
        have hSW143 := hSW136.ext hb139
        refine WL.nil (WH.ret hSW143 ?_)
        refine WH.takex (i := 4) rfl (by kernel_rfl) (by kernel_rfl) (by kernel_rfl) hP hSW143 ?_
        refine pr_not rfl rfl ?_
        refine WH.done (by kernel_rfl) ?_
        refine fun a ha => hK116 _ _ ?_ a ha
        refine W.cond rfl (fun h144 => ?_) (fun h144 => ?_)
        · replace hF := ifP h144 hF
          refine W.seq fun K145 hK145 => ?_
          refine W.region ?_
          refine wl_assign rfl rfl ?_
          refine WL.nil ?_
          refine fun a ha => hK145 _ _ ?_ a ha
          refine W.ret ?_
          have hr := Option.some.inj hF
          subst hr
          exact rets (vs := [(.bool false)]) hQ rfl ⟨rv_tmp rfl, trivial⟩ ⟨rfl, hB140⟩
        · replace hF := ifN h144 hF
          refine W.skip ?_
          refine fun a ha => hK115 _ _ ?_ a ha
          refine W.seq fun K146 hK146 => ?_
          refine W.region ?_
          refine wl_assign rfl rfl ?_
          refine WL.nil ?_
          refine fun a ha => hK146 _ _ ?_ a ha
          refine W.seq fun K147 hK147 => ?_
          refine W.region ?_
          refine wl_load_blk (i := 14) (vs := [v59, v61, (.int .i64 u58.1.2.2.1), (.int .i64 u58.1.2.2.2), (.int .i64 u58.2.1), v63, v65]) (v := (.agg #[v59, v61, (.int .i64 u58.1.2.2.1), (.int .i64 u58.1.2.2.2), (.int .i64 u58.2.1), v63, v65])) tf_44 rfl rfl hS141 rfl rfl rfl ?_
          refine wl_move rfl rfl ?_
          obtain ⟨u148, hu148, hF⟩ := bindE hF
          refine wl_call rfl Try.call20 (C_laws_markMarch w138 u58 v59 F60 v61 F62 v63 F64 v65 F66 1 (hS141.sel [10, 11, 12, 13] rfl).base0 _ hu148) rfl ?_
          rintro _ w149 ⟨rfl, hE150, hM151⟩
          refine ⟨_, rfl, ?_⟩
          have hB152 := hS141.mutB [10, 11, 12, 13] rfl (M := [R.own ty_82 F60 v59 u58.1.1, R.own ty_3 F62 v61 u58.1.2.1, R.own ty_3 F64 v63 u58.2.2.1, R.own ty_3 F66 v65 u58.2.2.2]) rfl (M' := [R.own ty_82 F60 v59 u148.2.1.1, R.own ty_3 F62 v61 u148.2.1.2.1, R.own ty_3 F64 v63 u148.2.2.2.1, R.own ty_3 F66 v65 u148.2.2.2.2]) rfl hB140 hB140.size hE150 hM151
          have hS153 : Sep w0.heap.size w149 [R.own ty_82 F60 v59 u148.2.1.1, R.own ty_3 F62 v61 u148.2.1.2.1, R.own ty_3 F64 v63 u148.2.2.2.1, R.own ty_3 F66 v65 u148.2.2.2.2, R.own ty_82 F124 v123 u122.1.1, R.own ty_3 F126 v125 u122.1.2.1, R.own ty_3 F128 v127 u122.2.2.1, R.own ty_3 F130 v129 u122.2.2.2, R.blk b2 38 [v0_0, v0_1, (.int .i64 x0.1.2.2.1), (.int .i64 x0.1.2.2.2), (.int .i64 x0.2.1), v0_2, v0_3], R.own ty_82 F36 v35 u34.1.1.1, R.own ty_3 F38 v37 u34.1.1.2.1, R.own ty_3 F40 v39 u34.1.2.2.1, R.own ty_3 F42 v41 u34.1.2.2.2, R.blk b48 44 [v35, v37, (.int .i64 u34.1.1.2.2.1), (.int .i64 u34.1.1.2.2.2), (.int .i64 u34.1.2.1), v39, v41], R.blk b72 44 [v59, v61, (.int .i64 u58.1.2.2.1), (.int .i64 u58.1.2.2.2), (.int .i64 u58.2.1), v63, v65], R.own ty_82 F84 v83 u82.1.1.1, R.own ty_3 F86 v85 u82.1.1.2.1, R.own ty_3 F88 v87 u82.1.2.2.1, R.own ty_3 F90 v89 u82.1.2.2.2, R.blk b96 44 [v83, v85, (.int .i64 u82.1.1.2.2.1), (.int .i64 u82.1.1.2.2.2), (.int .i64 u82.1.2.1), v87, v89]] := hS141.mut [10, 11, 12, 13] [0, 1, 2, 3, 4, 5, 6, 7, 8, 9, 14, 15, 16, 17, 18, 19] rfl (M := [R.own ty_82 F60 v59 u58.1.1, R.own ty_3 F62 v61 u58.1.2.1, R.own ty_3 F64 v63 u58.2.2.1, R.own ty_3 F66 v65 u58.2.2.2]) rfl (M' := [R.own ty_82 F60 v59 u148.2.1.1, R.own ty_3 F62 v61 u148.2.1.2.1, R.own ty_3 F64 v63 u148.2.2.2.1, R.own ty_3 F66 v65 u148.2.2.2.2]) rfl hM151
          refine wl_assign rfl rfl ?_
          refine WL.nil ?_
          refine fun a ha => hK147 _ _ ?_ a ha
          refine W.seq fun K154 hK154 => ?_
          refine W.seq fun K155 hK155 => ?_
          obtain ⟨k160, hk160, hF⟩ := jE1 hF
          have hJ161 : ∀ (y159 : Bool) (w156 : World) (_ : k160 y159 = some r) (_ : Below w0.heap.size w0 w156) (_ : Sep w0.heap.size w156 [R.blk b2 38 [v0_0, v0_1, (.int .i64 x0.1.2.2.1), (.int .i64 x0.1.2.2.2), (.int .i64 x0.2.1), v0_2, v0_3], R.own ty_82 F36 v35 u34.1.1.1, R.own ty_3 F38 v37 u34.1.1.2.1, R.own ty_3 F40 v39 u34.1.2.2.1, R.own ty_3 F42 v41 u34.1.2.2.2, R.blk b48 44 [v35, v37, (.int .i64 u34.1.1.2.2.1), (.int .i64 u34.1.1.2.2.2), (.int .i64 u34.1.2.1), v39, v41], R.own ty_82 F84 v83 u82.1.1.1, R.own ty_3 F86 v85 u82.1.1.2.1, R.own ty_3 F88 v87 u82.1.2.2.1, R.own ty_3 F90 v89 u82.1.2.2.2, R.blk b96 44 [v83, v85, (.int .i64 u82.1.1.2.2.1), (.int .i64 u82.1.1.2.2.2), (.int .i64 u82.1.2.1), v87, v89]]), ∀ a, St 101 [(1, (.int .i64 x1)), (2, (.pointer (some ⟨b2, 0, none⟩))), (6, (.pointer (some ⟨b48, 0, none⟩))), (7, (.bool u34.2)), (9, (.pointer (some ⟨b96, 0, none⟩))), (65, (.bool y159))] a → K155 a w156 := by
            intro y159 w156 hF hB157 hS158
            subst hk160
            refine fun a ha => hK155 _ _ ?_ a ha
            refine W.cond rfl (fun h162 => ?_) (fun h162 => ?_)
            · replace hF := ifP h162 hF
              refine W.seq fun K163 hK163 => ?_
              refine W.region ?_
              refine wl_assign rfl rfl ?_
              refine WL.nil ?_
              refine fun a ha => hK163 _ _ ?_ a ha
              refine W.ret ?_
              have hr := Option.some.inj hF
              subst hr
              exact rets (vs := [(.bool false)]) hQ rfl ⟨rv_tmp rfl, trivial⟩ ⟨rfl, hB157⟩
            · replace hF := ifN h162 hF
              refine W.skip ?_
              refine fun a ha => hK154 _ _ ?_ a ha
              refine W.seq fun K164 hK164 => ?_
              refine W.region ?_
              refine wl_assign rfl rfl ?_
              refine WL.nil ?_
              refine fun a ha => hK164 _ _ ?_ a ha
              refine W.seq fun K165 hK165 => ?_
              refine W.region ?_
              refine wl_load_blk (i := 10) (vs := [v83, v85, (.int .i64 u82.1.1.2.2.1), (.int .i64 u82.1.1.2.2.2), (.int .i64 u82.1.2.1), v87, v89]) (v := (.agg #[v83, v85, (.int .i64 u82.1.1.2.2.1), (.int .i64 u82.1.1.2.2.2), (.int .i64 u82.1.2.1), v87, v89])) tf_44 rfl rfl hS158 rfl rfl rfl ?_
              refine wl_move rfl rfl ?_
              obtain ⟨u166, hu166, hF⟩ := bindE hF
              refine wl_call rfl Try.call20 (C_laws_markMarch w156 u82.1 v83 F84 v85 F86 v87 F88 v89 F90 1 (hS158.sel [6, 7, 8, 9] rfl).base0 _ hu166) rfl ?_
              rintro _ w167 ⟨rfl, hE168, hM169⟩
              refine ⟨_, rfl, ?_⟩
              have hB170 := hS158.mutB [6, 7, 8, 9] rfl (M := [R.own ty_82 F84 v83 u82.1.1.1, R.own ty_3 F86 v85 u82.1.1.2.1, R.own ty_3 F88 v87 u82.1.2.2.1, R.own ty_3 F90 v89 u82.1.2.2.2]) rfl (M' := [R.own ty_82 F84 v83 u166.2.1.1, R.own ty_3 F86 v85 u166.2.1.2.1, R.own ty_3 F88 v87 u166.2.2.2.1, R.own ty_3 F90 v89 u166.2.2.2.2]) rfl hB157 hB157.size hE168 hM169
              have hS171 : Sep w0.heap.size w167 [R.own ty_82 F84 v83 u166.2.1.1, R.own ty_3 F86 v85 u166.2.1.2.1, R.own ty_3 F88 v87 u166.2.2.2.1, R.own ty_3 F90 v89 u166.2.2.2.2, R.blk b2 38 [v0_0, v0_1, (.int .i64 x0.1.2.2.1), (.int .i64 x0.1.2.2.2), (.int .i64 x0.2.1), v0_2, v0_3], R.own ty_82 F36 v35 u34.1.1.1, R.own ty_3 F38 v37 u34.1.1.2.1, R.own ty_3 F40 v39 u34.1.2.2.1, R.own ty_3 F42 v41 u34.1.2.2.2, R.blk b48 44 [v35, v37, (.int .i64 u34.1.1.2.2.1), (.int .i64 u34.1.1.2.2.2), (.int .i64 u34.1.2.1), v39, v41], R.blk b96 44 [v83, v85, (.int .i64 u82.1.1.2.2.1), (.int .i64 u82.1.1.2.2.2), (.int .i64 u82.1.2.1), v87, v89]] := hS158.mut [6, 7, 8, 9] [0, 1, 2, 3, 4, 5, 10] rfl (M := [R.own ty_82 F84 v83 u82.1.1.1, R.own ty_3 F86 v85 u82.1.1.2.1, R.own ty_3 F88 v87 u82.1.2.2.1, R.own ty_3 F90 v89 u82.1.2.2.2]) rfl (M' := [R.own ty_82 F84 v83 u166.2.1.1, R.own ty_3 F86 v85 u166.2.1.2.1, R.own ty_3 F88 v87 u166.2.2.2.1, R.own ty_3 F90 v89 u166.2.2.2.2]) rfl hM169
              refine wl_assign rfl rfl ?_
              refine WL.nil ?_
              refine fun a ha => hK165 _ _ ?_ a ha
              refine W.seq fun K172 hK172 => ?_
              refine W.region ?_
              refine wl_assign rfl rfl ?_
              refine WL.nil ?_
              refine fun a ha => hK172 _ _ ?_ a ha
              refine W.seq fun K173 hK173 => ?_
              refine W.region ?_
              refine wl_load_blk (i := 10) (vs := [v83, v85, (.int .i64 u82.1.1.2.2.1), (.int .i64 u82.1.1.2.2.2), (.int .i64 u82.1.2.1), v87, v89]) (v := (.agg #[v83, v85, (.int .i64 u82.1.1.2.2.1), (.int .i64 u82.1.1.2.2.2), (.int .i64 u82.1.2.1), v87, v89])) tf_44 rfl rfl hS171 rfl rfl rfl ?_
              refine wl_move rfl rfl ?_
              obtain ⟨u174, hu174, hF⟩ := bindE hF
              refine wl_call rfl Try.call21 (C_laws_heldMarch w167 ((u166.2.1.1, u166.2.1.2.1, u82.1.1.2.2.1, u82.1.1.2.2.2), u82.1.2.1, u166.2.2.2.1, u166.2.2.2.2) v83 (hS171.own_ro (i := 0) rfl) v85 (hS171.own_ro (i := 1) rfl) v87 (hS171.own_ro (i := 2) rfl) v89 (hS171.own_ro (i := 3) rfl) 1 _ hu174) rfl ?_
              rintro _ w175 ⟨rfl, hb176⟩
              refine ⟨_, rfl, ?_⟩
              have hB177 := hB170.trans (hb176.mono hB170.size)
              have hS178 := hS171.below hb176
              refine wl_assign rfl rfl ?_
              refine WL.nil ?_
              refine fun a ha => hK173 _ _ ?_ a ha
              refine W.seq fun K180 hK180 => ?_
              refine W.seq fun K181 hK181 => ?_
              refine W.region ?_
              refine wl_move rfl rfl ?_
              refine wl_lss rfl rfl rfl ?_
              refine WL.nil ?_
              refine fun a ha => hK181 _ _ ?_ a ha
              refine W.cond rfl (fun h182 => ?_) (fun h182 => ?_)
              · replace hF := ifP h182 hF
                refine W.seq fun K183 hK183 => ?_
                refine W.region ?_
                refine wl_assign rfl rfl ?_
                refine WL.nil ?_
                refine fun a ha => hK183 _ _ ?_ a ha
                refine W.ret ?_
                have hr := Option.some.inj hF
                subst hr
                exact rets (vs := [(.bool false)]) hQ rfl ⟨rv_tmp rfl, trivial⟩ ⟨rfl, hB177⟩
              · replace hF := ifN h182 hF
                refine W.skip ?_
                refine fun a ha => hK180 _ _ ?_ a ha
                refine W.seq fun K184 hK184 => ?_
                refine W.seq fun K185 hK185 => ?_
                refine W.region ?_
                refine wl_move rfl rfl ?_
                refine wl_move rfl rfl ?_
                refine wl_neq rfl rfl rfl ?_
                refine WL.nil ?_
                refine fun a ha => hK185 _ _ ?_ a ha
                refine W.cond rfl (fun h186 => ?_) (fun h186 => ?_)
                · replace hF := ifP h186 hF
                  refine W.seq fun K187 hK187 => ?_
                  refine W.region ?_
                  refine wl_assign rfl rfl ?_
                  refine WL.nil ?_
                  refine fun a ha => hK187 _ _ ?_ a ha
                  refine W.ret ?_
                  have hr := Option.some.inj hF
                  subst hr
                  exact rets (vs := [(.bool false)]) hQ rfl ⟨rv_tmp rfl, trivial⟩ ⟨rfl, hB177⟩
                · replace hF := ifN h186 hF
                  refine W.skip ?_
                  refine fun a ha => hK184 _ _ ?_ a ha
                  refine W.seq fun K188 hK188 => ?_
                  refine W.region ?_
                  refine wl_load_blk (i := 4) (vs := [v0_0, v0_1, (.int .i64 x0.1.2.2.1), (.int .i64 x0.1.2.2.2), (.int .i64 x0.2.1), v0_2, v0_3]) (v := (.agg #[v0_0, v0_1, (.int .i64 x0.1.2.2.1), (.int .i64 x0.1.2.2.2), (.int .i64 x0.2.1), v0_2, v0_3])) tf_38 rfl rfl hS178 rfl rfl rfl ?_
                  obtain ⟨u189, hu189, hF⟩ := bindE hF
                  refine wl_call rfl Try.call17 (C_laws_toMarch w175 x0 v0_0 (h0_0.ro hB177) v0_1 (h0_1.ro hB177) v0_2 (h0_2.ro hB177) v0_3 (h0_3.ro hB177) _ hu189) rfl ?_
                  rintro _ w198 ⟨v190, F191, v192, F193, v194, F195, v196, F197, rfl, hb199, hM202⟩
                  refine ⟨_, rfl, ?_⟩
                  have hB200 := hB177.trans (hb199.mono hB177.size)
                  have hS201 := hS178.join hb199 hM202 hB177.size
                  refine wl_move rfl rfl ?_
                  obtain ⟨u203, hu203, hF⟩ := bindE hF
                  refine wl_call rfl Try.call18 (C_impl_HaltPerformer w198 u189 v190 (hS201.own_ro (i := 0) rfl) v192 (hS201.own_ro (i := 1) rfl) v194 (hS201.own_ro (i := 2) rfl) v196 (hS201.own_ro (i := 3) rfl) x1 _ hu203) rfl ?_
                  rintro _ w212 ⟨v204, F205, v206, F207, v208, F209, v210, F211, rfl, hb213, hM216⟩
                  refine ⟨_, rfl, ?_⟩
                  have hB214 := hB200.trans (hb213.mono hB200.size)
                  have hS215 := hS201.join hb213 hM216 hB200.size
                  refine wl_move rfl rfl ?_
                  refine wl_extract rfl rfl rfl ?_
                  refine wl_extract rfl rfl rfl ?_
                  refine wl_alloc (cs := [(.slice none 0 0), (.slice none 0 0), (.int .i64 0), (.int .i64 0), (.int .i64 0), (.slice none 0 0), (.slice none 0 0)]) tf_44 rfl rfl hB214 hS215 ?_
                  intro b217 w218 hb219 hB220 hS221
                  refine wl_store_blk (i := 0) (vs := [v204, v206, (.int .i64 u203.1.1.2.2.1), (.int .i64 u203.1.1.2.2.2), (.int .i64 u203.1.2.1), v208, v210]) (cs' := [v204, v206, (.int .i64 u203.1.1.2.2.1), (.int .i64 u203.1.1.2.2.2), (.int .i64 u203.1.2.1), v208, v210]) tf_44 rfl rfl rfl rfl hB220 hS221 rfl rfl ⟨(hS221.own_ro (i := 1) rfl).one, (hS221.own_ro (i := 2) rfl).one, rfl, rfl, rfl, (hS221.own_ro (i := 3) rfl).one, (hS221.own_ro (i := 4) rfl).one, trivial⟩ rfl ?_
                  intro w222 hk225 hB223 hS224
                  refine wl_assign rfl rfl ?_
                  refine WL.nil ?_
                  refine fun a ha => hK188 _ _ ?_ a ha
                  refine W.seq fun K226 hK226 => ?_
                  refine W.seq fun K227 hK227 => ?_
                  obtain ⟨k232, hk232, hF⟩ := jE1 hF
                  have hJ233 : ∀ (y231 : Bool) (w228 : World) (_ : k232 y231 = some r) (_ : Below w0.heap.size w0 w228) (_ : Sep w0.heap.size w228 [R.own ty_82 F84 v83 u166.2.1.1, R.own ty_3 F86 v85 u166.2.1.2.1, R.own ty_3 F88 v87 u166.2.2.2.1, R.own ty_3 F90 v89 u166.2.2.2.2, R.blk b96 44 [v83, v85, (.int .i64 u82.1.1.2.2.1), (.int .i64 u82.1.1.2.2.2), (.int .i64 u82.1.2.1), v87, v89]]), ∀ a, St 101 [(9, (.pointer (some ⟨b96, 0, none⟩))), (12, (.int .i64 u166.1)), (92, (.bool y231))] a → K227 a w228 := by
                    intro y231 w228 hF hB229 hS230
                    subst hk232
                    refine fun a ha => hK227 _ _ ?_ a ha
                    refine W.cond rfl (fun h234 => ?_) (fun h234 => ?_)
                    · replace hF := ifP h234 hF
                      refine W.seq fun K235 hK235 => ?_
                      refine W.region ?_
                      refine wl_assign rfl rfl ?_
                      refine WL.nil ?_
                      refine fun a ha => hK235 _ _ ?_ a ha
                      refine W.ret ?_
                      have hr := Option.some.inj hF
                      subst hr
                      exact rets (vs := [(.bool false)]) hQ rfl ⟨rv_tmp rfl, trivial⟩ ⟨rfl, hB229⟩
                    · replace hF := ifN h234 hF
                      refine W.skip ?_
                      refine fun a ha => hK226 _ _ ?_ a ha
                      refine W.seq fun K236 hK236 => ?_
                      refine W.region ?_
                      refine wl_assign rfl rfl ?_
                      refine WL.nil ?_
                      refine fun a ha => hK236 _ _ ?_ a ha
                      refine W.seq fun K237 hK237 => ?_
                      refine W.region ?_
                      refine wl_load_blk (i := 4) (vs := [v83, v85, (.int .i64 u82.1.1.2.2.1), (.int .i64 u82.1.1.2.2.2), (.int .i64 u82.1.2.1), v87, v89]) (v := (.agg #[v83, v85, (.int .i64 u82.1.1.2.2.1), (.int .i64 u82.1.1.2.2.2), (.int .i64 u82.1.2.1), v87, v89])) tf_44 rfl rfl hS230 rfl rfl rfl ?_
                      refine wl_move rfl rfl ?_
                      obtain ⟨u238, hu238, hF⟩ := bindE hF
                      refine wl_call rfl Try.call21 (C_laws_heldMarch w228 ((u166.2.1.1, u166.2.1.2.1, u82.1.1.2.2.1, u82.1.1.2.2.2), u82.1.2.1, u166.2.2.2.1, u166.2.2.2.2) v83 (hS230.own_ro (i := 0) rfl) v85 (hS230.own_ro (i := 1) rfl) v87 (hS230.own_ro (i := 2) rfl) v89 (hS230.own_ro (i := 3) rfl) 1 _ hu238) rfl ?_
                      rintro _ w239 ⟨rfl, hb240⟩
                      refine ⟨_, rfl, ?_⟩
                      have hB241 := hB229.trans (hb240.mono hB229.size)
                      have hS242 := hS230.below hb240
                      refine wl_assign rfl rfl ?_
                      refine WL.nil ?_
                      refine fun a ha => hK237 _ _ ?_ a ha
                      refine W.seq fun K244 hK244 => ?_
                      refine W.seq fun K245 hK245 => ?_
                      refine W.region ?_
                      refine wl_move rfl rfl ?_
                      refine wl_lss rfl rfl rfl ?_
                      refine WL.nil ?_
                      refine fun a ha => hK245 _ _ ?_ a ha
                      refine W.cond rfl (fun h246 => ?_) (fun h246 => ?_)
                      · replace hF := ifP h246 hF
                        refine W.seq fun K247 hK247 => ?_
                        refine W.region ?_
                        refine wl_assign rfl rfl ?_
                        refine WL.nil ?_
                        refine fun a ha => hK247 _ _ ?_ a ha
                        refine W.ret ?_
                        have hr := Option.some.inj hF
                        subst hr
                        exact rets (vs := [(.bool false)]) hQ rfl ⟨rv_tmp rfl, trivial⟩ ⟨rfl, hB241⟩
                      · replace hF := ifN h246 hF
                        refine W.skip ?_
                        refine fun a ha => hK244 _ _ ?_ a ha
                        refine W.seq fun K248 hK248 => ?_
                        refine W.seq fun K249 hK249 => ?_
                        refine W.region ?_
                        refine wl_move rfl rfl ?_
                        refine wl_move rfl rfl ?_
                        refine wl_neq rfl rfl rfl ?_
                        refine WL.nil ?_
                        refine fun a ha => hK249 _ _ ?_ a ha
                        refine W.cond rfl (fun h250 => ?_) (fun h250 => ?_)
                        · replace hF := ifP h250 hF
                          refine W.seq fun K251 hK251 => ?_
                          refine W.region ?_
                          refine wl_assign rfl rfl ?_
                          refine WL.nil ?_
                          refine fun a ha => hK251 _ _ ?_ a ha
                          refine W.ret ?_
                          have hr := Option.some.inj hF
                          subst hr
                          exact rets (vs := [(.bool false)]) hQ rfl ⟨rv_tmp rfl, trivial⟩ ⟨rfl, hB241⟩
                        · replace hF := ifN h250 hF
                          refine W.skip ?_
                          refine fun a ha => hK248 _ _ ?_ a ha
                          refine W.seq fun K252 hK252 => ?_
                          refine W.region ?_
                          refine wl_assign rfl rfl ?_
                          refine WL.nil ?_
                          refine fun a ha => hK252 _ _ ?_ a ha
                          refine W.ret ?_
                          have hr := Option.some.inj hF
                          subst hr
                          exact rets (vs := [(.bool true)]) hQ rfl ⟨rv_tmp rfl, trivial⟩ ⟨rfl, hB241⟩
                  refine W.region ?_
                  refine wl_load_blk (i := 0) (vs := [v204, v206, (.int .i64 u203.1.1.2.2.1), (.int .i64 u203.1.1.2.2.2), (.int .i64 u203.1.2.1), v208, v210]) (v := (.agg #[v204, v206, (.int .i64 u203.1.1.2.2.1), (.int .i64 u203.1.1.2.2.2), (.int .i64 u203.1.2.1), v208, v210])) tf_44 rfl rfl hS224 rfl rfl rfl ?_
                  refine wl_load_blk (i := 18) (vs := [v35, v37, (.int .i64 u34.1.1.2.2.1), (.int .i64 u34.1.1.2.2.2), (.int .i64 u34.1.2.1), v39, v41]) (v := (.agg #[v35, v37, (.int .i64 u34.1.1.2.2.1), (.int .i64 u34.1.1.2.2.2), (.int .i64 u34.1.2.1), v39, v41])) tf_44 rfl rfl hS224 rfl rfl rfl ?_
                  obtain ⟨u253, hu253, hF⟩ := bindE hF
                  refine wl_call rfl Try.call19 (C_laws_eqMarch w222 u203.1 v204 (hS224.own_ro (i := 1) rfl) v206 (hS224.own_ro (i := 2) rfl) v208 (hS224.own_ro (i := 3) rfl) v210 (hS224.own_ro (i := 4) rfl) u34.1 v35 (hS224.own_ro (i := 14) rfl) v37 (hS224.own_ro (i := 15) rfl) v39 (hS224.own_ro (i := 16) rfl) v41 (hS224.own_ro (i := 17) rfl) _ hu253) rfl ?_
                  rintro _ w254 ⟨rfl, hb255⟩
                  refine ⟨_, rfl, ?_⟩
                  have hB256 := hB223.trans (hb255.mono hB223.size)
                  have hS257 := hS224.below hb255
                  refine wl_not rfl rfl ?_
                  refine wl_move rfl rfl ?_
                  rcases bE (!u253) with h259 | h259
                  · replace hF := ifP h259 hF
                    refine wl_off rfl rfl rfl h259 ?_
                    refine wl_off rfl rfl rfl h259 ?_
                    refine wl_off rfl rfl rfl h259 ?_
                    refine wl_pick_t rfl rfl h259 rfl ?_
                    refine WL.nil ?_
                    exact fun a ha => hJ233 (true) _ hF hB256 (hS257.sel [9, 10, 11, 12, 19] rfl) a (ha.sub ⟨rfl, rfl, rfl, trivial⟩)
                  · replace hF := ifN h259 hF
                    refine wl_on rfl rfl h259 ?_
                    refine wl_move rfl rfl ?_
                    refine wl_on rfl rfl h259 ?_
                    refine wl_move rfl rfl ?_
                    refine wl_on rfl rfl h259 ?_
                    refine wl_neqb Try.underlying4 rfl rfl rfl ?_
                    refine wl_pick_f rfl rfl h259 rfl ?_
                    refine WL.nil ?_
                    exact fun a ha => hJ233 ((u203.2 != u34.2)) _ hF hB256 (hS257.sel [9, 10, 11, 12, 19] rfl) a (ha.sub ⟨rfl, rfl, rfl, trivial⟩)
          refine W.region ?_
          refine wl_move rfl rfl ?_
          refine wl_lss rfl rfl rfl ?_
          refine wl_move rfl rfl ?_
          rcases bE (decide (u148.1 < 0)) with h260 | h260
          · replace hF := ifP h260 hF
            refine wl_off rfl rfl rfl h260 ?_
            refine wl_off rfl rfl rfl h260 ?_
            refine wl_off rfl rfl rfl h260 ?_
            refine wl_off rfl rfl rfl h260 ?_
            refine wl_pick_t rfl rfl h260 rfl ?_
            refine wl_move rfl rfl ?_
            refine wl_off rfl rfl rfl rfl ?_
            refine wl_off rfl rfl rfl rfl ?_
            refine wl_off rfl rfl rfl rfl ?_
            refine wl_pick_t rfl rfl rfl rfl ?_
            refine WL.nil ?_
            exact fun a ha => hJ161 (true) _ hF hB152 (hS153.sel [8, 9, 10, 11, 12, 13, 15, 16, 17, 18, 19] rfl) a (ha.sub ⟨rfl, rfl, rfl, rfl, rfl, rfl, trivial⟩)
          · replace hF := ifN h260 hF
            refine wl_on rfl rfl h260 ?_
            refine wl_load_blk (i := 19) (vs := [v83, v85, (.int .i64 u82.1.1.2.2.1), (.int .i64 u82.1.1.2.2.2), (.int .i64 u82.1.2.1), v87, v89]) (v := (.agg #[v83, v85, (.int .i64 u82.1.1.2.2.1), (.int .i64 u82.1.1.2.2.2), (.int .i64 u82.1.2.1), v87, v89])) tf_44 rfl rfl hS153 rfl rfl rfl ?_
            refine wl_on rfl rfl h260 ?_
            refine wl_load_blk (i := 13) (vs := [v35, v37, (.int .i64 u34.1.1.2.2.1), (.int .i64 u34.1.1.2.2.2), (.int .i64 u34.1.2.1), v39, v41]) (v := (.agg #[v35, v37, (.int .i64 u34.1.1.2.2.1), (.int .i64 u34.1.1.2.2.2), (.int .i64 u34.1.2.1), v39, v41])) tf_44 rfl rfl hS153 rfl rfl rfl ?_
            refine wl_on rfl rfl h260 ?_
            obtain ⟨u261, hu261, hF⟩ := bindE hF
            refine wl_call rfl Try.call19 (C_laws_eqMarch w149 u82.1 v83 (hS153.own_ro (i := 15) rfl) v85 (hS153.own_ro (i := 16) rfl) v87 (hS153.own_ro (i := 17) rfl) v89 (hS153.own_ro (i := 18) rfl) u34.1 v35 (hS153.own_ro (i := 9) rfl) v37 (hS153.own_ro (i := 10) rfl) v39 (hS153.own_ro (i := 11) rfl) v41 (hS153.own_ro (i := 12) rfl) _ hu261) rfl ?_
            rintro _ w262 ⟨rfl, hb263⟩
            refine ⟨_, rfl, ?_⟩
            have hB264 := hB152.trans (hb263.mono hB152.size)
            have hS265 := hS153.below hb263
            refine wl_on rfl rfl h260 ?_
            refine wl_not rfl rfl ?_
            refine wl_pick_f rfl rfl h260 rfl ?_
            refine wl_move rfl rfl ?_
            rcases bE (!u261) with h267 | h267
            · replace hF := ifP h267 hF
              refine wl_off rfl rfl rfl h267 ?_
              refine wl_off rfl rfl rfl h267 ?_
              refine wl_off rfl rfl rfl h267 ?_
              refine wl_pick_t rfl rfl h267 rfl ?_
              refine WL.nil ?_
              exact fun a ha => hJ161 (true) _ hF hB264 (hS265.sel [8, 9, 10, 11, 12, 13, 15, 16, 17, 18, 19] rfl) a (ha.sub ⟨rfl, rfl, rfl, rfl, rfl, rfl, trivial⟩)
            · replace hF := ifN h267 hF
              refine wl_on rfl rfl h267 ?_
              refine wl_move rfl rfl ?_
              refine wl_on rfl rfl h267 ?_
              refine wl_move rfl rfl ?_
              refine wl_on rfl rfl h267 ?_
              refine wl_neqb Try.underlying4 rfl rfl rfl ?_
              refine wl_pick_f rfl rfl h267 rfl ?_
              refine WL.nil ?_
              exact fun a ha => hJ161 ((u82.2 != u34.2)) _ hF hB264 (hS265.sel [8, 9, 10, 11, 12, 13, 15, 16, 17, 18, 19] rfl) a (ha.sub ⟨rfl, rfl, rfl, rfl, rfl, rfl, trivial⟩)
    refine W.region ?_
    refine wl_load_blk (i := 0) (vs := [v83, v85, (.int .i64 u82.1.1.2.2.1), (.int .i64 u82.1.1.2.2.2), (.int .i64 u82.1.2.1), v87, v89]) (v := (.agg #[v83, v85, (.int .i64 u82.1.1.2.2.1), (.int .i64 u82.1.1.2.2.2), (.int .i64 u82.1.2.1), v87, v89])) tf_44 rfl rfl hS103 rfl rfl rfl ?_
    refine wl_load_blk (i := 10) (vs := [v35, v37, (.int .i64 u34.1.1.2.2.1), (.int .i64 u34.1.1.2.2.2), (.int .i64 u34.1.2.1), v39, v41]) (v := (.agg #[v35, v37, (.int .i64 u34.1.1.2.2.1), (.int .i64 u34.1.1.2.2.2), (.int .i64 u34.1.2.1), v39, v41])) tf_44 rfl rfl hS103 rfl rfl rfl ?_
    obtain ⟨u268, hu268, hF⟩ := bindE hF
    refine wl_call rfl Try.call19 (C_laws_eqMarch w101 u82.1 v83 (hS103.own_ro (i := 1) rfl) v85 (hS103.own_ro (i := 2) rfl) v87 (hS103.own_ro (i := 3) rfl) v89 (hS103.own_ro (i := 4) rfl) u34.1 v35 (hS103.own_ro (i := 11) rfl) v37 (hS103.own_ro (i := 12) rfl) v39 (hS103.own_ro (i := 13) rfl) v41 (hS103.own_ro (i := 14) rfl) _ hu268) rfl ?_
    rintro _ w269 ⟨rfl, hb270⟩
    refine ⟨_, rfl, ?_⟩
    have hB271 := hB102.trans (hb270.mono hB102.size)
    have hS272 := hS103.below hb270
    refine wl_not rfl rfl ?_
    refine wl_move rfl rfl ?_
    rcases bE (!u268) with h274 | h274
    · replace hF := ifP h274 hF
      refine wl_off rfl rfl rfl h274 ?_
      refine wl_off rfl rfl rfl h274 ?_
      refine wl_off rfl rfl rfl h274 ?_
      refine wl_pick_t rfl rfl h274 rfl ?_
      refine WL.nil ?_
      exact fun a ha => hJ112 (true) _ hF hB271 (hS272.sel [19, 11, 12, 13, 14, 10, 6, 7, 8, 9, 5, 1, 2, 3, 4, 0] rfl) a (ha.sub ⟨rfl, rfl, rfl, rfl, rfl, rfl, rfl, rfl, trivial⟩)
    · replace hF := ifN h274 hF
      refine wl_on rfl rfl h274 ?_
      refine wl_move rfl rfl ?_
      refine wl_on rfl rfl h274 ?_
      refine wl_move rfl rfl ?_
      refine wl_on rfl rfl h274 ?_
      refine wl_neqb Try.underlying4 rfl rfl rfl ?_
      refine wl_pick_f rfl rfl h274 rfl ?_
      refine WL.nil ?_
      exact fun a ha => hJ112 ((u82.2 != u34.2)) _ hF hB271 (hS272.sel [19, 11, 12, 13, 14, 10, 6, 7, 8, 9, 5, 1, 2, 3, 4, 0] rfl) a (ha.sub ⟨rfl, rfl, rfl, rfl, rfl, rfl, rfl, rfl, trivial⟩)
end Go.Proofs.Ytcndhhjolnebdaa
