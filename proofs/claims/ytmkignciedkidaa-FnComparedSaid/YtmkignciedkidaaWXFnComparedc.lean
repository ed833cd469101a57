/-
  THE WALKS of functions of this seat, by program (gen.py, prune.py).
-/
import Derived.Test.YtmkignciedkidaaWXFnComparedb
set_option linter.unusedSimpArgs false
set_option linter.unusedVariables false
set_option maxRecDepth 100000
set_option maxHeartbeats 1600000
namespace Go.Proofs.Ytmkignciedkidaa
open Go Go.RowKit
theorem C_impl_pairsTooClose (w0 : World) (x0 : (List ((Int × Int) × (Int × Int) × Int))) (v0_0 : Value) (h0_0 : rdS ty_70 (· < w0.heap.size) w0 v0_0 x0) (x1 : Int) (r : (List (List Int))) (hF : F_impl_pairsTooClose x0 x1 = some r) :
  Calls Try.prog 162 [v0_0, (.int .i64 x1)].toArray w0 fun e w' => ∃ (q0 : Value) (G0 : List Nat), e = .returned q0 ∧ Below w0.heap.size w0 w' ∧ Sep w0.heap.size w' [R.own ty_29 G0 q0 r] := by
 refine calls_mk' Try.func162 rfl Try.ntmps162 rfl rfl fun Q hQ hP => ?_
 have hB : Below w0.heap.size w0 w0 := Below.refl _ _
 have hS : Sep w0.heap.size w0 [] := Sep.nil _ _
 unfold F_impl_pairsTooClose at hF
 refine W.seq fun K1 hK1 => W.region (wl_assign rfl rfl (WL.nil (fun a ha => hK1 _ _ (W.seq fun K2 hK2 => (W.region (wl_lit0 (e := ty_29) Try.underlying72 rfl hB hS ?_))) a ha)))
 intro v3 F4 w5 hb6 hB7 hS8
 refine wl_assign rfl rfl (WL.nil (fun a ha => hK2 _ _ (W.seq fun K9 hK9 => (W.seq fun K10 hK10 => (W.region (wl_move rfl rfl (wl_lenr (e := ty_70) (l := x0) Try.underlying64 rfl rfl h0_0 (wl_move rfl rfl (WL.nil (fun a ha => hK10 _ _ (W.block (W.loopk (fun m a w11 => ∃ (l14 : (List (List Int))) (y17 : Int) (v15 : Value) (F16 : List Nat), St 41 [(0, v0_0), (1, (.int .i64 x1)), (5, v15), (10, (.int .i64 (List.length x0 : Int))), (11, (.int .i64 y17))] a ∧ Below w0.heap.size w0 w11 ∧ Sep w0.heap.size w11 [R.own ty_29 F16 v15 l14] ∧ F_impl_pairsTooClose_L1 x0 x1 m l14 y17 = some r) FU ?_ ?_)) a ha)))))))) a ha))
 ·
  exact fun a ha => ⟨[], 0, v3, F4, ha.sub ⟨rfl, rfl, rfl, rfl, rfl, trivial⟩, hB7, (hS8.sel [0] rfl), hF⟩
 ·
  rintro m20 a w11 ⟨l14, y17, v15, F16, ha, hB12, hS13, hF⟩ KL19 hKL19
  refine W.at ?_ ha
  cases m20 with
  | zero => exact noneE hF
  | succ m20 =>
   obtain ⟨nx18, hnx18⟩ : ∃ k, k = F_impl_pairsTooClose_L1 x0 x1 m20 := ⟨_, rfl⟩
   rw [F_impl_pairsTooClose_L1, ← hnx18] at hF
   refine W.seq fun K21 hK21 => W.region (wl_lss rfl rfl rfl (WL.nil (fun a ha => hK21 _ _ (W.seq fun K22 hK22 => (W.cond rfl (fun h23 => ?_) (fun h23 => ?_))) a ha)))
   ·replace hF := ifP h23 hF
    refine W.skip fun a ha => hK22 _ _ (W.seq fun K24 hK24 => (W.block (W.seq fun K25 hK25 => (W.region (wl_move rfl rfl (wl_assign rfl rfl (WL.nil (fun a ha => hK25 _ _ (W.seq fun K26 hK26 => (W.region (wl_move rfl rfl (wl_add rfl rfl rfl ?_)))) a ha)))))))) a ha
    refine wl_assign rfl rfl (WL.nil (fun a ha => hK26 _ _ (W.block (W.loopk (fun m a w27 => ∃ (l30 : (List (List Int))) (y33 : Int) (v31 : Value) (F32 : List Nat), St 41 [(0, v0_0), (1, (.int .i64 x1)), (5, v31), (6, (.int .i64 y17)), (7, (.int .i64 y33)), (10, (.int .i64 (List.length x0 : Int))), (11, (.int .i64 y17))] a ∧ Below w0.heap.size w0 w27 ∧ Sep w0.heap.size w27 [R.own ty_29 F32 v31 l30] ∧ F_impl_pairsTooClose_L2 x0 y17 x1 nx18 m l30 y33 = some r) FU ?_ ?_)) a ha))
    ·
     exact fun a ha => ⟨l14, (w64 (y17 + 1)), v15, F16, ha.sub ⟨rfl, rfl, rfl, rfl, rfl, rfl, rfl, trivial⟩, hB12, (hS13.sel [0] rfl), hF⟩
    ·
     rintro m36 a w27 ⟨l30, y33, v31, F32, ha, hB28, hS29, hF⟩ KL35 hKL35
     refine W.at ?_ ha
     cases m36 with
     | zero => exact noneE hF
     | succ m36 =>
      obtain ⟨nx34, hnx34⟩ : ∃ k, k = F_impl_pairsTooClose_L2 x0 y17 x1 nx18 m36 := ⟨_, rfl⟩
      rw [F_impl_pairsTooClose_L2, ← hnx34] at hF
      refine W.seq fun K37 hK37 => W.seq fun K38 hK38 => W.region (wl_move rfl rfl (wl_move rfl rfl (wl_lenr (e := ty_70) (l := x0) Try.underlying64 rfl rfl h0_0 (wl_lss rfl rfl rfl (WL.nil (fun a ha => hK38 _ _ (W.cond rfl (fun h39 => ?_) (fun h39 => ?_)) a ha))))))
      ·replace hF := ifP h39 hF
       refine W.skip fun a ha => hK37 _ _ (W.seq fun K40 hK40 => ?_) a ha
       obtain ⟨k47, hk47, hF⟩ := jE1 hF
       have hJ48 : ∀ (l44 : (List (List Int))) (v45 : Value) (F46 : List Nat) (w41 : World) (_ : k47 l44 = some r) (_ : Below w0.heap.size w0 w41) (_ : Sep w0.heap.size w41 [R.own ty_29 F46 v45 l44]), ∀ a, St 41 [(0, v0_0), (1, (.int .i64 x1)), (5, v45), (6, (.int .i64 y17)), (7, (.int .i64 y33)), (10, (.int .i64 (List.length x0 : Int))), (11, (.int .i64 y17))] a → K40 a w41 := by
        intro l44 v45 F46 w41 hF hB42 hS43
        subst hk47
        refine fun a ha => hK40 _ _ (W.region (wl_move rfl rfl (wl_add rfl rfl rfl (wl_assign rfl rfl (WL.nil ?_))))) a ha
        rw [hnx34] at hF
        exact fun a ha => hKL35 a _ m36 (Nat.lt_succ_self m36) ⟨l44, (w64 (y33 + 1)), v45, F46, ha.sub ⟨rfl, rfl, rfl, rfl, rfl, rfl, rfl, trivial⟩, hB42, (hS43.sel [0] rfl), hF⟩
       refine W.block (W.seq fun K49 hK49 => (W.regionH mixed_ [] hB28 hS29 ?_))
       intro w50 hb51 hB52 hS53
       have hSW54 := KeepX.refl w50 []
       refine WH.tk 0 rfl hP hSW54 (pr_move rfl rfl (WH.tk 1 rfl hP hSW54 (pr_move rfl rfl ?_)))
       obtain ⟨u55, hu55, hF⟩ := bindE hF
       refine WH.tk 2 rfl hP hSW54 (pr_index (e := ty_70) Try.underlying64 rfl rfl rfl h0_0 hu55 ?_)
       rintro p56 _ rfl hp57
       refine WH.tk 3 rfl hP hSW54 (pr_load_p (vs := [(.int .i64 u55.1.1), (.int .i64 u55.1.2), (.int .i64 u55.2.1.1), (.int .i64 u55.2.1.2), (.int .i64 u55.2.2)]) (v := (.agg #[(.int .i64 u55.1.1), (.int .i64 u55.1.2), (.int .i64 u55.2.1.1), (.int .i64 u55.2.1.2), (.int .i64 u55.2.2)])) tf_70 rfl rfl (hp57.kx hB52 (by simp)) rfl rfl (WH.tk 4 rfl hP hSW54 (pr_move rfl rfl (WH.tk 5 rfl hP hSW54 (pr_move rfl rfl ?_)))))
       obtain ⟨u58, hu58, hF⟩ := bindE hF
       refine WH.tk 6 rfl hP hSW54 (pr_index (e := ty_70) Try.underlying64 rfl rfl rfl h0_0 hu58 ?_)
       rintro p59 _ rfl hp60
       refine WH.tk 7 rfl hP hSW54 (pr_load_p (vs := [(.int .i64 u58.1.1), (.int .i64 u58.1.2), (.int .i64 u58.2.1.1), (.int .i64 u58.2.1.2), (.int .i64 u58.2.2)]) (v := (.agg #[(.int .i64 u58.1.1), (.int .i64 u58.1.2), (.int .i64 u58.2.1.1), (.int .i64 u58.2.1.2), (.int .i64 u58.2.2)])) tf_70 rfl rfl (hp60.kx hB52 (by simp)) rfl rfl (WH.tk 8 rfl hP hSW54 (pr_move rfl rfl (WH.on1 9 rfl ?_))))
       obtain ⟨u61, hu61, hF⟩ := bindE hF
       refine wl_call rfl Try.call238 (C_impl_stayApart w50 u55 u58 x1 _ hu61) rfl ?_
       rintro _ w62 ⟨rfl, hb63⟩
       refine ⟨_, rfl, ?_⟩
       have hB64 := hB52.trans (hb63.mono hB52.size)
       have hS65 := hS53.below hb63
       have hSW67 := hSW54.ext hb63
       refine WL.nil (WH.ret hSW67 (WH.tk 10 rfl hP hSW67 (pr_not rfl rfl (WH.done (by kernel_rfl) (fun a ha => hK49 _ _ (W.cond rfl (fun h68 => ?_) (fun h68 => ?_)) a ha)))))
       ·replace hF := ifP h68 hF
        refine W.region (wl_move rfl rfl (wl_move rfl rfl (wl_move rfl rfl (wl_lit (vs := [(.int .i64 y17), (.int .i64 y33)]) (l := [y17, y33]) fl_3 Try.underlying29 rfl rfl rfl rfl rfl rfl hB64 hS65 ?_))))
        intro v69 F70 w71 hb72 hB73 hS74
        have hq75 := hS74.sel [0, 1] rfl
        have hq76 := hq75.head (r' := R.cel ty_29 F70 [v69] [y17, y33]) (rfl) fun _ h0 => ⟨_, rfl, h0⟩
        refine wl_lit1 (e := ty_29) (vs := [v69]) Try.underlying72 rfl rfl (cells_one (hS74.own_ro (i := 0) rfl).one) rfl hB73 hq76 ?_
        intro v77 F78 w79 hb80 hf81 hB82 hS83
        obtain ⟨u84, hu84, hF⟩ := bindE hF
        refine wl_appendn (e := ty_29) Try.underlying72 rfl rfl rfl hB82 (hS83.sel [1, 0] rfl) hu84 ?_
        intro v85 F86 w87 hk88 hB89 hS90
        refine wl_assign rfl rfl (WL.nil ?_)
        exact fun a ha => hJ48 (u84) (v85) (F86) _ hF hB89 (hS90.sel [0] rfl) a (ha.sub ⟨rfl, rfl, rfl, rfl, rfl, rfl, rfl, trivial⟩)
       ·replace hF := ifN h68 hF
        refine W.skip ?_
        exact fun a ha => hJ48 (l30) (v31) (F32) _ hF hB64 (hS65.sel [0] rfl) a (ha.sub ⟨rfl, rfl, rfl, rfl, rfl, rfl, rfl, trivial⟩)
      ·replace hF := ifN h39 hF
       refine W.exit fun a ha => hK24 _ _ (W.region (wl_add rfl rfl rfl (wl_move rfl rfl (WL.nil ?_)))) a ha
       rw [hnx18] at hF
       exact fun a ha => hKL19 a _ m20 (Nat.lt_succ_self m20) ⟨l30, (w64 (y17 + 1)), v31, F32, ha.sub ⟨rfl, rfl, rfl, rfl, rfl, trivial⟩, hB28, (hS29.sel [0] rfl), hF⟩
   ·replace hF := ifN h23 hF
    refine W.exit fun a ha => hK9 _ _ (W.seq fun K91 hK91 => (W.region (wl_move rfl rfl (wl_assign rfl rfl (WL.nil (fun a ha => hK91 _ _ (W.ret ?_) a ha)))))) a ha
    have hr := Option.some.inj hF
    subst hr
    exact rets (vs := [v15]) hQ rfl ⟨rv_tmp rfl, trivial⟩ ⟨v15, F16, rfl, hB12, hS13.sel [0] rfl⟩
theorem C_impl_isPart (w0 : World) (x0 : ((List (List (Int × Int))) × (List Int) × Int × Int)) (v0_0 : Value) (h0_0 : rdS ty_63 (· < w0.heap.size) w0 v0_0 x0.1) (v0_1 : Value) (h0_1 : rdS ty_3 (· < w0.heap.size) w0 v0_1 x0.2.1) (x1 : Int) (r : Bool) (hF : F_impl_isPart x0 x1 = some r) :
  Calls Try.prog 163 [(.agg #[v0_0, v0_1, (.int .i64 x0.2.2.1), (.int .i64 x0.2.2.2)]), (.int .i64 x1)].toArray w0 fun e w' => e = .returned (.bool r) ∧ Below w0.heap.size w0 w' := by
 refine calls_mk' Try.func163 rfl Try.ntmps163 rfl rfl fun Q hQ hP => ?_
 have hB : Below w0.heap.size w0 w0 := Below.refl _ _
 have hS : Sep w0.heap.size w0 [] := Sep.nil _ _
 unfold F_impl_isPart at hF
 refine W.seq fun K1 hK1 => W.region (wl_box (cs := [v0_0, v0_1, (.int .i64 x0.2.2.1), (.int .i64 x0.2.2.2)]) rfl rfl rfl hB hS ?_)
 intro b2 w3 hb4 hB5 hS6
 refine wl_assign rfl rfl (WL.nil (fun a ha => hK1 _ _ (W.seq fun K7 hK7 => ?_) a ha))
 obtain ⟨k12, hk12, hF⟩ := jE1 hF
 have hJ13 : ∀ (y11 : Bool) (w8 : World) (_ : k12 y11 = some r) (_ : Below w0.heap.size w0 w8) (_ : Sep w0.heap.size w8 []), ∀ a, St 15 [(4, (.bool y11))] a → K7 a w8 := by
  intro y11 w8 hF hB9 hS10
  subst hk12
  refine fun a ha => hK7 _ _ (W.ret ?_) a ha
  have hr := Option.some.inj hF
  subst hr
  exact rets (vs := [(.bool y11)]) hQ rfl ⟨rv_tmp rfl, trivial⟩ ⟨rfl, hB9⟩
 refine W.region (wl_load_blk (i := 0) (vs := [v0_0, v0_1, (.int .i64 x0.2.2.1), (.int .i64 x0.2.2.2)]) (v := (.agg #[v0_0, v0_1, (.int .i64 x0.2.2.1), (.int .i64 x0.2.2.2)])) tf_53 rfl rfl hS6 rfl rfl rfl ?_)
 obtain ⟨u14, hu14, hF⟩ := bindE hF
 refine wl_call rfl Try.call60 (C_impl_IsShow w3 x0 v0_0 (h0_0.ro hB5) v0_1 (h0_1.ro hB5) _ hu14) rfl ?_
 rintro _ w15 ⟨rfl, hb16⟩
 refine ⟨_, rfl, ?_⟩
 have hB17 := hB5.trans (hb16.mono hB5.size)
 have hS18 := hS6.below hb16
 refine wl_move rfl rfl ?_
 rcases bE u14 with h20 | h20
 ·replace hF := ifP h20 hF
  refine wl_on rfl rfl h20 (wl_move rfl rfl (wl_on rfl rfl h20 (wl_field (o := 1) (off' := 1) ff_53_1 rfl rfl rfl (wl_on rfl rfl h20 (wl_load_blk (i := 0) (vs := [v0_1]) (v := v0_1) tf_29 rfl rfl hS18 rfl rfl rfl (wl_on rfl rfl h20 (wl_lenr (e := ty_3) (l := x0.2.1) Try.underlying29 rfl rfl h0_1 (wl_on rfl rfl h20 (wl_sub rfl rfl rfl (wl_on rfl rfl h20 ?_))))))))))
  obtain ⟨u21, hu21, hF⟩ := bindE hF
  refine wl_call rfl Try.call128 (C_impl_within w15 x1 0 (w64 ((List.length x0.2.1 : Int) - 1)) _ hu21) rfl ?_
  rintro _ w22 ⟨rfl, hb23⟩
  refine ⟨_, rfl, ?_⟩
  have hB24 := hB17.trans (hb23.mono hB17.size)
  have hS25 := hS18.below hb23
  refine wl_pick_t rfl rfl h20 rfl (wl_assign rfl rfl (WL.nil ?_))
  exact fun a ha => hJ13 (u21) _ hF hB24 (hS25.sel [] rfl) a (ha.sub ⟨rfl, trivial⟩)
 ·replace hF := ifN h20 hF
  refine wl_off rfl rfl rfl h20 (wl_off rfl rfl rfl h20 (wl_off rfl rfl rfl h20 (wl_off rfl rfl rfl h20 (wl_off rfl rfl rfl h20 (wl_off rfl rfl rfl h20 (wl_pick_f rfl rfl h20 rfl (wl_assign rfl rfl (WL.nil ?_))))))))
  exact fun a ha => hJ13 (false) _ hF hB17 (hS18.sel [] rfl) a (ha.sub ⟨rfl, trivial⟩)
theorem C_impl_ClosePairs (w0 : World) (x0 : ((List (List (Int × Int))) × (List Int) × Int × Int)) (v0_0 : Value) (h0_0 : rdS ty_63 (· < w0.heap.size) w0 v0_0 x0.1) (v0_1 : Value) (h0_1 : rdS ty_3 (· < w0.heap.size) w0 v0_1 x0.2.1) (x1 : Int) (r : ((List (List Int)) × Bool)) (hF : F_impl_ClosePairs x0 x1 = some r) :
  Calls Try.prog 51 [(.agg #[v0_0, v0_1, (.int .i64 x0.2.2.1), (.int .i64 x0.2.2.2)]), (.int .i64 x1)].toArray w0 fun e w' => ∃ (q0 : Value) (G0 : List Nat), e = .returned (.tuple #[q0, (.bool r.2)]) ∧ Below w0.heap.size w0 w' ∧ Sep w0.heap.size w' [R.own ty_29 G0 q0 r.1] := by
 refine calls_mk' Try.func51 rfl Try.ntmps51 rfl rfl fun Q hQ hP => ?_
 have hB : Below w0.heap.size w0 w0 := Below.refl _ _
 have hS : Sep w0.heap.size w0 [] := Sep.nil _ _
 unfold F_impl_ClosePairs at hF
 refine W.seq fun K1 hK1 => W.region (wl_box (cs := [v0_0, v0_1, (.int .i64 x0.2.2.1), (.int .i64 x0.2.2.2)]) rfl rfl rfl hB hS ?_)
 intro b2 w3 hb4 hB5 hS6
 refine wl_assign rfl rfl (wl_assign rfl rfl (WL.nil (fun a ha => hK1 _ _ (W.seq fun K7 hK7 => (W.seq fun K8 hK8 => (W.region (wl_load_blk (i := 0) (vs := [v0_0, v0_1, (.int .i64 x0.2.2.1), (.int .i64 x0.2.2.2)]) (v := (.agg #[v0_0, v0_1, (.int .i64 x0.2.2.1), (.int .i64 x0.2.2.2)])) tf_53 rfl rfl hS6 rfl rfl rfl (wl_move rfl rfl ?_))))) a ha)))
 obtain ⟨u9, hu9, hF⟩ := bindE hF
 refine wl_call rfl Try.call163 (C_impl_isPart w3 x0 v0_0 (h0_0.ro hB5) v0_1 (h0_1.ro hB5) x1 _ hu9) rfl ?_
 rintro _ w10 ⟨rfl, hb11⟩
 refine ⟨_, rfl, ?_⟩
 have hB12 := hB5.trans (hb11.mono hB5.size)
 have hS13 := hS6.below hb11
 refine wl_not rfl rfl (WL.nil (fun a ha => hK8 _ _ (W.cond rfl (fun h15 => ?_) (fun h15 => ?_)) a ha))
 ·replace hF := ifP h15 hF
  refine W.seq fun K16 hK16 => W.region (wl_assign rfl rfl (wl_assign rfl rfl (WL.nil (fun a ha => hK16 _ _ (W.ret ?_) a ha))))
  have hS17 := hS13.push0 (r := R.own ty_29 [] (.slice none 0 0) []) rfl fun _ => .inl ⟨rfl, rfl, rfl⟩
  have hr := Option.some.inj hF
  subst hr
  exact rets (vs := [(.slice none 0 0), (.bool false)]) hQ rfl ⟨rv_tmp rfl, rv_tmp rfl, trivial⟩ ⟨(.slice none 0 0), [], rfl, hB12, hS17.sel [0] rfl⟩
 ·replace hF := ifN h15 hF
  refine W.skip fun a ha => hK7 _ _ (W.seq fun K18 hK18 => (W.regionH mixed_ [] hB12 hS13 ?_)) a ha
  intro w19 hb20 hB21 hS22
  have hSW23 := KeepX.refl w19 []
  refine WH.tk 0 rfl hP hSW23 (pr_load_blk (i := 0) (vs := [v0_0, v0_1, (.int .i64 x0.2.2.1), (.int .i64 x0.2.2.2)]) (v := (.agg #[v0_0, v0_1, (.int .i64 x0.2.2.1), (.int .i64 x0.2.2.2)])) tf_53 rfl rfl hS22 rfl rfl rfl (by simp) (WH.tk 1 rfl hP hSW23 (pr_move rfl rfl (WH.tk 3 rfl hP hSW23 (pr_field (o := 2) (off' := 2) ff_53_2 rfl rfl rfl (WH.tk 4 rfl hP hSW23 (pr_load_blk (i := 0) (vs := [(.int .i64 x0.2.2.1)]) (v := (.int .i64 x0.2.2.1)) tf_3 rfl rfl hS22 rfl rfl rfl (by simp) (WH.on1 2 rfl ?_))))))))
  obtain ⟨u24, hu24, hF⟩ := bindE hF
  refine wl_call rfl Try.call152 (C_impl_showMoves w19 x0 v0_0 (h0_0.ro hB21) v0_1 (h0_1.ro hB21) x1 _ hu24) rfl ?_
  rintro _ w27 ⟨v25, F26, rfl, hb28, hM31⟩
  refine ⟨_, rfl, ?_⟩
  have hB29 := hB21.trans (hb28.mono hB21.size)
  have hS30 := hS22.join hb28 hM31 hB21.size
  have hSW33 := hSW23.ext hb28
  refine WL.nil (WH.ret hSW33 (WH.on1 5 rfl ?_))
  obtain ⟨u34, hu34, hF⟩ := bindE hF
  refine wl_call rfl Try.call162 (C_impl_pairsTooClose w27 u24 v25 (hS30.own_ro (i := 0) rfl) x0.2.2.1 _ hu34) rfl ?_
  rintro _ w37 ⟨v35, F36, rfl, hb38, hM41⟩
  refine ⟨_, rfl, ?_⟩
  have hB39 := hB29.trans (hb38.mono hB29.size)
  have hS40 := hS30.join hb38 hM41 hB29.size
  have hSW43 := hSW33.ext hb38
  refine WL.nil (WH.ret hSW43 (WH.tk 6 rfl hP hSW43 (pr_assign rfl rfl (WH.tk 7 rfl hP hSW43 (pr_assign rfl rfl (WH.done (by kernel_rfl) (fun a ha => hK18 _ _ (W.ret ?_) a ha)))))))
  have hr := Option.some.inj hF
  subst hr
  exact rets (vs := [v35, (.bool true)]) hQ rfl ⟨rv_tmp rfl, rv_tmp rfl, trivial⟩ ⟨v35, F36, rfl, hB39, hS40.sel [0] rfl⟩
theorem C_spec_l1Cur__showsTwo__mut__box (w0 : World) (x0 : ((List Int) × Int × Int)) (b0 : Nat) (v0_0 : Value) (h0_0 : rdS ty_5 (Out (fps [R.blk b0 131 [v0_0, (.int .i64 x0.2.1), (.int .u64 x0.2.2)]]) w0) w0 v0_0 x0.1) (hS0 : Sep 0 w0 [R.blk b0 131 [v0_0, (.int .i64 x0.2.1), (.int .u64 x0.2.2)]]) (r : (((List (List (Int × Int))) × (List Int) × Int × Int) × ((List (List (Int × Int))) × (List Int) × Int × Int) × ((List Int) × Int × Int))) (hF : F_spec_l1Cur__showsTwo__mut__box x0 = some r) :
  Calls Try.prog 213 [(.pointer (some ⟨b0, 0, none⟩))].toArray w0 fun e w' => ∃ (q0 : Value) (G0 : List Nat) (q1 : Value) (G1 : List Nat) (q2 : Value) (G2 : List Nat) (q3 : Value) (G3 : List Nat), e = .returned (.tuple #[(.agg #[q0, q1, (.int .i64 r.1.2.2.1), (.int .i64 r.1.2.2.2)]), (.agg #[q2, q3, (.int .i64 r.2.1.2.2.1), (.int .i64 r.2.1.2.2.2)])]) ∧ Below 0 (wE w0) w' ∧ Sep 0 w' [R.rest w0 (fps [R.blk b0 131 [v0_0, (.int .i64 x0.2.1), (.int .u64 x0.2.2)]]), R.blk b0 131 [v0_0, (.int .i64 r.2.2.2.1), (.int .u64 r.2.2.2.2)], R.own ty_63 G0 q0 r.1.1, R.own ty_3 G1 q1 r.1.2.1, R.own ty_63 G2 q2 r.2.1.1, R.own ty_3 G3 q3 r.2.1.2.1] := by
 refine calls_mk' Try.func213 rfl Try.ntmps213 rfl rfl fun Q hQ hP => ?_
 have hB : Below (wE w0).heap.size (wE w0) w0 := wE_below w0
 have hS : Sep (wE w0).heap.size w0 [R.rest w0 (fps [R.blk b0 131 [v0_0, (.int .i64 x0.2.1), (.int .u64 x0.2.2)]]), R.blk b0 131 [v0_0, (.int .i64 x0.2.1), (.int .u64 x0.2.2)]] := hS0.rest
 unfold F_spec_l1Cur__showsTwo__mut__box at hF
 refine W.seq fun K1 hK1 => W.region (wl_alloc (cs := [(.slice none 0 0), (.slice none 0 0), (.int .i64 0), (.int .i64 0)]) tf_53 rfl rfl hB hS ?_)
 intro b2 w3 hb4 hB5 hS6
 refine wl_alloc (cs := [(.slice none 0 0), (.slice none 0 0), (.int .i64 0), (.int .i64 0)]) tf_53 rfl rfl hB5 hS6 ?_
 intro b7 w8 hb9 hB10 hS11
 refine WL.nil fun a ha => hK1 _ _ (W.seq fun K12 hK12 => (W.region (wl_move rfl rfl ?_))) a ha
 obtain ⟨u13, hu13, hF⟩ := bindE hF
 refine wl_call rfl Try.call149 (C_spec_l1Cur__show__mut__box w8 x0 b0 v0_0 (h0_0.rsto (hS11.sel [2, 3] rfl)) (hS11.sel [3] rfl).base0 _ hu13) rfl ?_
 rintro _ w14 ⟨v19, F20, v21, F22, rfl, hE15, hM16⟩
 refine ⟨_, rfl, ?_⟩
 have hB17 := hS11.takeB [3] rfl (M := [R.blk b0 131 [v0_0, (.int .i64 x0.2.1), (.int .u64 x0.2.2)]]) rfl hB10 hE15 hM16
 have hS18 : Sep (wE w0).heap.size w14 [R.blk b0 131 [v0_0, (.int .i64 u13.2.2.1), (.int .u64 u13.2.2.2)], R.own ty_63 F20 v19 u13.1.1, R.own ty_3 F22 v21 u13.1.2.1, R.blk b7 53 [(.slice none 0 0), (.slice none 0 0), (.int .i64 0), (.int .i64 0)], R.blk b2 53 [(.slice none 0 0), (.slice none 0 0), (.int .i64 0), (.int .i64 0)], R.rest w0 (fps [R.blk b0 131 [v0_0, (.int .i64 x0.2.1), (.int .u64 x0.2.2)]])] := hS11.take [3] [0, 1, 2] rfl (M := [R.blk b0 131 [v0_0, (.int .i64 x0.2.1), (.int .u64 x0.2.2)]]) rfl hM16 hB10.size
 refine wl_alloc (cs := [(.slice none 0 0), (.slice none 0 0), (.int .i64 0), (.int .i64 0)]) tf_53 rfl rfl hB17 hS18 ?_
 intro b23 w24 hb25 hB26 hS27
 refine wl_store_blk (i := 0) (vs := [v19, v21, (.int .i64 u13.1.2.2.1), (.int .i64 u13.1.2.2.2)]) (cs' := [v19, v21, (.int .i64 u13.1.2.2.1), (.int .i64 u13.1.2.2.2)]) tf_53 rfl rfl rfl rfl hB26 hS27 rfl rfl ⟨(hS27.own_ro (i := 2) rfl).one, (hS27.own_ro (i := 3) rfl).one, rfl, rfl, trivial⟩ rfl ?_
 intro w28 hk31 hB29 hS30
 refine WL.nil fun a ha => hK12 _ _ (W.seq fun K32 hK32 => (W.seq fun K33 hK33 => ?_)) a ha
 obtain ⟨k40, hk40, hF⟩ := jE3 hF
 have hJ41 : ∀ (y37 : Int) (y38 : Int) (y39 : Bool) (w34 : World) (_ : k40 y37 y38 y39 = some r) (_ : Below (wE w0).heap.size (wE w0) w34) (_ : Sep (wE w0).heap.size w34 [R.rest w0 (fps [R.blk b0 131 [v0_0, (.int .i64 x0.2.1), (.int .u64 x0.2.2)]]), R.blk b0 131 [v0_0, (.int .i64 y37), (.int .u64 y38)], R.blk b2 53 [(.slice none 0 0), (.slice none 0 0), (.int .i64 0), (.int .i64 0)], R.blk b7 53 [(.slice none 0 0), (.slice none 0 0), (.int .i64 0), (.int .i64 0)], R.own ty_63 F20 v19 u13.1.1, R.own ty_3 F22 v21 u13.1.2.1, R.blk b23 53 [v19, v21, (.int .i64 u13.1.2.2.1), (.int .i64 u13.1.2.2.2)]]), ∀ a, St 96 [(0, (.pointer (some ⟨b0, 0, none⟩))), (2, (.pointer (some ⟨b2, 0, none⟩))), (3, (.pointer (some ⟨b7, 0, none⟩))), (4, (.pointer (some ⟨b23, 0, none⟩))), (18, (.bool y39))] a → K33 a w34 := by
  intro y37 y38 y39 w34 hF hB35 hS36
  subst hk40
  refine fun a ha => hK33 _ _ (W.cond rfl (fun h42 => ?_) (fun h42 => ?_)) a ha
  ·replace hF := ifP h42 hF
   refine W.seq fun K43 hK43 => W.regionH mixed_ (([b0] ++ [b2]) ++ [b7]) hB35 hS36 ?_
   intro w44 hb45 hB46 hS47
   have hSW48 := KeepX.refl w44 (([b0] ++ [b2]) ++ [b7])
   refine WH.tk 0 rfl hP hSW48 (pr_load_blk (i := 6) (vs := [v19, v21, (.int .i64 u13.1.2.2.1), (.int .i64 u13.1.2.2.2)]) (v := (.agg #[v19, v21, (.int .i64 u13.1.2.2.1), (.int .i64 u13.1.2.2.2)])) tf_53 rfl rfl hS47 rfl rfl rfl (fun hb => (List.mem_append.1 hb).elim (fun hb => (List.mem_append.1 hb).elim (hS47.disj (i := 6) (j := 1) rfl rfl rfl b23 (by simp [R.blk])) (hS47.disj (i := 6) (j := 2) rfl rfl rfl b23 (by simp [R.blk]))) (hS47.disj (i := 6) (j := 3) rfl rfl rfl b23 (by simp [R.blk]))) (WH.tk 1 rfl hP hSW48 (pr_move rfl rfl (WH.on1 2 rfl ?_))))
   obtain ⟨u49, hu49, hF⟩ := bindE hF
   refine wl_call rfl Try.call149 (C_spec_l1Cur__show__mut__box w44 (x0.1, y37, y38) b0 v0_0 (h0_0.rsto (hS47.sel [0, 1] rfl)) (hS47.sel [1] rfl).base0 _ hu49) rfl ?_
   rintro _ w50 ⟨v55, F56, v57, F58, rfl, hE51, hM52⟩
   refine ⟨_, rfl, ?_⟩
   have hB53 := hS47.takeB [1] rfl (M := [R.blk b0 131 [v0_0, (.int .i64 y37), (.int .u64 y38)]]) rfl hB46 hE51 hM52
   have hS54 : Sep (wE w0).heap.size w50 [R.blk b0 131 [v0_0, (.int .i64 u49.2.2.1), (.int .u64 u49.2.2.2)], R.own ty_63 F56 v55 u49.1.1, R.own ty_3 F58 v57 u49.1.2.1, R.rest w0 (fps [R.blk b0 131 [v0_0, (.int .i64 x0.2.1), (.int .u64 x0.2.2)]]), R.blk b2 53 [(.slice none 0 0), (.slice none 0 0), (.int .i64 0), (.int .i64 0)], R.blk b7 53 [(.slice none 0 0), (.slice none 0 0), (.int .i64 0), (.int .i64 0)], R.own ty_63 F20 v19 u13.1.1, R.own ty_3 F22 v21 u13.1.2.1, R.blk b23 53 [v19, v21, (.int .i64 u13.1.2.2.1), (.int .i64 u13.1.2.2.2)]] := hS47.take [1] [0, 2, 3, 4, 5, 6] rfl (M := [R.blk b0 131 [v0_0, (.int .i64 y37), (.int .u64 y38)]]) rfl hM52 hB46.size
   have hk59 := box_kept hM52
   have hSW62 := hSW48.wr' hk59.1 hk59.2.1 (fun _ _ h => List.mem_append_left _ (List.mem_append_left _ (h)))
   refine WL.nil (WH.ret hSW62 (WH.on1 3 rfl (wl_store_blk (i := 4) (vs := [v19, v21, (.int .i64 u13.1.2.2.1), (.int .i64 u13.1.2.2.2)]) (cs' := [v19, v21, (.int .i64 u13.1.2.2.1), (.int .i64 u13.1.2.2.2)]) tf_53 rfl rfl rfl rfl hB53 hS54 rfl rfl ⟨(hS54.own_ro (i := 6) rfl).one, (hS54.own_ro (i := 7) rfl).one, rfl, rfl, trivial⟩ rfl ?_)))
   intro w65 hk68 hB66 hS67
   have hSW69 := hSW62.wr' hk68.1 hk68.2.1 (fun _ _ h => List.mem_append_left _ (List.mem_append_right _ h))
   refine WL.nil (WH.ret hSW69 (WH.on1 4 rfl (wl_store_blk (i := 5) (vs := [v55, v57, (.int .i64 u49.1.2.2.1), (.int .i64 u49.1.2.2.2)]) (cs' := [v55, v57, (.int .i64 u49.1.2.2.1), (.int .i64 u49.1.2.2.2)]) tf_53 rfl rfl rfl rfl hB66 hS67 rfl rfl ⟨(hS67.own_ro (i := 1) rfl).one, (hS67.own_ro (i := 2) rfl).one, rfl, rfl, trivial⟩ rfl ?_)))
   intro w71 hk74 hB72 hS73
   have hSW75 := hSW69.wr' hk74.1 hk74.2.1 (fun _ _ h => List.mem_append_right _ h)
   refine WL.nil (WH.ret hSW75 (WH.done (by kernel_rfl) (fun a ha => hK43 _ _ (W.ret ?_) a ha)))
   have hr := Option.some.inj hF
   subst hr
   exact rets (vs := [(.agg #[v19, v21, (.int .i64 u13.1.2.2.1), (.int .i64 u13.1.2.2.2)]), (.agg #[v55, v57, (.int .i64 u49.1.2.2.1), (.int .i64 u49.1.2.2.2)])]) hQ rfl ⟨rv_cell (i := 4) tf_53 rfl hS73 rfl rfl rfl, rv_cell (i := 5) tf_53 rfl hS73 rfl rfl rfl, trivial⟩ ⟨v19, F20, v21, F22, v55, F56, v57, F58, rfl, hB72, hS73.sel [3, 0, 6, 7, 1, 2] rfl⟩
  ·replace hF := ifN h42 hF
   refine W.skip fun a ha => hK32 _ _ (W.seq fun K77 hK77 => ?_) a ha
   obtain ⟨k87, hk87, hF⟩ := jE3 hF
   have hJ88 : ∀ (l82 : (List Int)) (y85 : Int) (y86 : Int) (v83 : Value) (F84 : List Nat) (b81 : Nat) (w78 : World) (_ : k87 l82 y85 y86 = some r) (_ : Below (wE w0).heap.size (wE w0) w78) (_ : Sep (wE w0).heap.size w78 [R.rest w0 (fps [R.blk b0 131 [v0_0, (.int .i64 x0.2.1), (.int .u64 x0.2.2)]]), R.blk b0 131 [v0_0, (.int .i64 y37), (.int .u64 y38)], R.blk b2 53 [(.slice none 0 0), (.slice none 0 0), (.int .i64 0), (.int .i64 0)], R.blk b7 53 [(.slice none 0 0), (.slice none 0 0), (.int .i64 0), (.int .i64 0)], R.own ty_63 F20 v19 u13.1.1, R.own ty_3 F22 v21 u13.1.2.1, R.blk b23 53 [v19, v21, (.int .i64 u13.1.2.2.1), (.int .i64 u13.1.2.2.2)], R.own ty_3 F84 v83 l82, R.blk b81 53 [(.slice none 0 0), v83, (.int .i64 y85), (.int .i64 y86)]]), ∀ a, St 96 [(0, (.pointer (some ⟨b0, 0, none⟩))), (2, (.pointer (some ⟨b2, 0, none⟩))), (3, (.pointer (some ⟨b7, 0, none⟩))), (4, (.pointer (some ⟨b23, 0, none⟩))), (5, (.pointer (some ⟨b81, 0, none⟩)))] a → K77 a w78 := by
    intro l82 y85 y86 v83 F84 b81 w78 hF hB79 hS80
    subst hk87
    refine fun a ha => hK77 _ _ (W.seq fun K89 hK89 => (W.seq fun K90 hK90 => (W.region (wl_field (o := 0) (off' := 0) ff_53_0 rfl rfl rfl (wl_load_blk (i := 6) (vs := [v19]) (v := v19) tf_51 rfl rfl hS80 rfl rfl rfl (wl_lenr (e := ty_63) (l := u13.1.1) Try.underlying51 rfl rfl (hS80.own_ro (i := 4) rfl) (wl_move rfl rfl (WL.nil (fun a ha => hK90 _ _ (W.block ?_) a ha))))))))) a ha
    refine W.loopk (fun m a w91 => ∃ (l94 : (List (List (Int × Int)))) (y97 : Int) (v95 : Value) (F96 : List Nat), St 96 [(0, (.pointer (some ⟨b0, 0, none⟩))), (2, (.pointer (some ⟨b2, 0, none⟩))), (3, (.pointer (some ⟨b7, 0, none⟩))), (4, (.pointer (some ⟨b23, 0, none⟩))), (5, (.pointer (some ⟨b81, 0, none⟩))), (31, v19), (32, (.int .i64 (List.length u13.1.1 : Int))), (33, (.int .i64 y97))] a ∧ Below (wE w0).heap.size (wE w0) w91 ∧ Sep (wE w0).heap.size w91 [R.rest w0 (fps [R.blk b0 131 [v0_0, (.int .i64 x0.2.1), (.int .u64 x0.2.2)]]), R.blk b0 131 [v0_0, (.int .i64 y37), (.int .u64 y38)], R.blk b2 53 [(.slice none 0 0), (.slice none 0 0), (.int .i64 0), (.int .i64 0)], R.blk b7 53 [(.slice none 0 0), (.slice none 0 0), (.int .i64 0), (.int .i64 0)], R.own ty_63 F20 v19 u13.1.1, R.own ty_3 F22 v21 u13.1.2.1, R.blk b23 53 [v19, v21, (.int .i64 u13.1.2.2.1), (.int .i64 u13.1.2.2.2)], R.own ty_63 F96 v95 l94, R.own ty_3 F84 v83 l82, R.blk b81 53 [v95, v83, (.int .i64 y85), (.int .i64 y86)]] ∧ F_spec_l1Cur__showsTwo__mut__box_L1 u13 x0 y37 y38 l82 y85 y86 m l94 y97 = some r) FU ?_ ?_
    ·
     have hS99 := hS80.push0 (r := R.own ty_63 [] (.slice none 0 0) []) rfl fun _ => .inl ⟨rfl, rfl, rfl⟩
     exact fun a ha => ⟨[], 0, (.slice none 0 0), [], ha.sub ⟨rfl, rfl, rfl, rfl, rfl, rfl, rfl, rfl, trivial⟩, hB79, (hS99.sel [1, 2, 3, 4, 5, 6, 7, 0, 8, 9] rfl), hF⟩
    ·
     rintro m101 a w91 ⟨l94, y97, v95, F96, ha, hB92, hS93, hF⟩ KL100 hKL100
     refine W.at ?_ ha
     cases m101 with
     | zero => exact noneE hF
     | succ m101 =>
      obtain ⟨nx98, hnx98⟩ : ∃ k, k = F_spec_l1Cur__showsTwo__mut__box_L1 u13 x0 y37 y38 l82 y85 y86 m101 := ⟨_, rfl⟩
      rw [F_spec_l1Cur__showsTwo__mut__box_L1, ← hnx98] at hF
      refine W.seq fun K102 hK102 => W.region (wl_lss rfl rfl rfl (WL.nil (fun a ha => hK102 _ _ (W.seq fun K103 hK103 => (W.cond rfl (fun h104 => ?_) (fun h104 => ?_))) a ha)))
      ·replace hF := ifP h104 hF
       refine W.skip fun a ha => hK103 _ _ (W.seq fun K105 hK105 => ?_) a ha
       obtain ⟨k112, hk112, hF⟩ := jE1 hF
       have hJ113 : ∀ (l109 : (List (List (Int × Int)))) (v110 : Value) (F111 : List Nat) (w106 : World) (_ : k112 l109 = some r) (_ : Below (wE w0).heap.size (wE w0) w106) (_ : Sep (wE w0).heap.size w106 [R.rest w0 (fps [R.blk b0 131 [v0_0, (.int .i64 x0.2.1), (.int .u64 x0.2.2)]]), R.blk b0 131 [v0_0, (.int .i64 y37), (.int .u64 y38)], R.blk b2 53 [(.slice none 0 0), (.slice none 0 0), (.int .i64 0), (.int .i64 0)], R.blk b7 53 [(.slice none 0 0), (.slice none 0 0), (.int .i64 0), (.int .i64 0)], R.own ty_63 F20 v19 u13.1.1, R.own ty_3 F22 v21 u13.1.2.1, R.blk b23 53 [v19, v21, (.int .i64 u13.1.2.2.1), (.int .i64 u13.1.2.2.2)], R.own ty_63 F111 v110 l109, R.own ty_3 F84 v83 l82, R.blk b81 53 [v110, v83, (.int .i64 y85), (.int .i64 y86)]]), ∀ a, St 96 [(0, (.pointer (some ⟨b0, 0, none⟩))), (2, (.pointer (some ⟨b2, 0, none⟩))), (3, (.pointer (some ⟨b7, 0, none⟩))), (4, (.pointer (some ⟨b23, 0, none⟩))), (5, (.pointer (some ⟨b81, 0, none⟩))), (31, v19), (32, (.int .i64 (List.length u13.1.1 : Int))), (33, (.int .i64 y97))] a → K105 a w106 := by
        intro l109 v110 F111 w106 hF hB107 hS108
        subst hk112
        refine fun a ha => hK105 _ _ (W.region (wl_add rfl rfl rfl (wl_move rfl rfl (WL.nil ?_)))) a ha
        rw [hnx98] at hF
        exact fun a ha => hKL100 a _ m101 (Nat.lt_succ_self m101) ⟨l109, (w64 (y97 + 1)), v110, F111, ha.sub ⟨rfl, rfl, rfl, rfl, rfl, rfl, rfl, rfl, trivial⟩, hB107, (hS108.sel [0, 1, 2, 3, 4, 5, 6, 7, 8, 9] rfl), hF⟩
       refine W.block (W.seq fun K114 hK114 => (W.region ?_))
       obtain ⟨u115, hu115, hF⟩ := bindE hF
       refine wl_indexoF (e := ty_63) (i := 4) Try.underlying51 rfl rfl rfl hS93 rfl hu115 ?_
       rintro p116 _ ⟨v118, rfl, hv119⟩ hp117 ho120
       refine wl_load_p (vs := [v118]) (v := v118) tf_63 rfl rfl hp117 rfl rfl (wl_assign rfl rfl (WL.nil (fun a ha => hK114 _ _ (W.regionH mixed_ (F96 ++ [b81]) hB92 hS93 ?_) a ha)))
       intro w121 hb122 hB123 hS124
       have hp117 := hp117.keepS (fun b hb => hb122.block b (((hS93.get (i := 4) rfl).2.1 b hb).2)) (fun _ h => h)
       have hv119 := hv119.keep (fun b hb => hb122.block b (((hS93.get (i := 4) rfl).2.1 b hb).2))
       have hSW125 := KeepX.refl w121 (F96 ++ [b81])
       refine WH.tk 0 rfl hP hSW125 (pr_field (o := 0) (off' := 0) ff_53_0 rfl rfl rfl (WH.tk 2 rfl hP hSW125 (pr_move rfl rfl (WH.many (is := [1, 3]) (by kernel_rfl) rfl (List.forall_mem_cons.2 ⟨⟨_, rfl, ?_⟩, List.forall_mem_cons.2 ⟨⟨_, rfl, ?_⟩, fun _ h => by cases h⟩⟩)))))
       ·
        refine wl_load_blk (i := 9) (vs := [v95]) (v := v95) tf_51 rfl rfl hS124 rfl rfl rfl (WL.nil (WH.ret hSW125 (WH.on1 3 rfl ?_)))
        obtain ⟨u126, hu126, hF⟩ := bindE hF
        refine wl_call rfl Try.call171 (C_spec_chOwn w121 u115 v118 (hv119.mono (fun b hb => ((hS124.get (i := 4) rfl).2.1 b hb).2)) _ hu126) rfl ?_
        rintro _ w129 ⟨v127, F128, rfl, hb130, hM133⟩
        refine ⟨_, rfl, ?_⟩
        have hB131 := hB123.trans (hb130.mono hB123.size)
        have hS132 := hS124.join hb130 hM133 hB123.size
        have hpv135 := hp117.keepS (fun b hb => hb130.block b (((hS124.get (i := 4) rfl).2.1 b hb).2)) (fun _ h => h)
        have hpv136 := hv119.keep (fun b hb => hb130.block b (((hS124.get (i := 4) rfl).2.1 b hb).2))
        have hSW137 := hSW125.ext hb130
        refine WL.nil (WH.ret hSW137 (WH.on1 4 rfl ?_))
        have hq139 := hS132.sel [0, 1, 2, 3, 4, 5, 6, 7, 8, 9, 10] rfl
        have hq140 := hq139.head (r' := R.cel ty_63 F128 [v127] u126) (rfl) fun _ h0 => ⟨_, rfl, h0⟩
        refine wl_lit1 (e := ty_63) (vs := [v127]) Try.underlying51 rfl rfl (cells_one (hS132.own_ro (i := 0) rfl).one) rfl hB131 hq140 ?_
        intro v141 F142 w143 hb144 hf145 hB146 hS147
        have hpv149 := hpv135.keepS (fun b hb => hb144.block b (((hS132.get (i := 5) rfl).2.1 b hb).2)) (fun _ h => h)
        have hpv150 := hpv136.keep (fun b hb => hb144.block b (((hS132.get (i := 5) rfl).2.1 b hb).2))
        have hSW151 := hSW137.ext hb144
        refine WL.nil (WH.ret hSW151 (WH.on1 5 rfl ?_))
        obtain ⟨u153, hu153, hF⟩ := bindE hF
        refine wl_appendn (e := ty_63) Try.underlying51 rfl rfl rfl hB146 (hS147.sel [8, 0, 1, 2, 3, 4, 5, 6, 7, 9, 10] rfl) hu153 ?_
        intro v154 F155 w156 hk157 hB158 hS159
        have hpv160 := hpv149.keepS (fun b hb => hk157.2.1 b (((hS147.get (i := 5) rfl).2.1 b hb).2) (hS147.disj (i := 5) (j := 8) rfl rfl rfl b hb)) (fun _ h => h)
        have hpv161 := hpv150.keep (fun b hb => hk157.2.1 b (((hS147.get (i := 5) rfl).2.1 b hb).2) (hS147.disj (i := 5) (j := 8) rfl rfl rfl b hb))
        have hSW162 := hSW151.wr' hk157.1 hk157.2.1 (fun _ _ h => List.mem_append_left _ (h))
        refine WL.nil (WH.ret hSW162 (WH.tk 6 rfl hP hSW162 (pr_field (o := 0) (off' := 0) ff_53_0 rfl rfl rfl (WH.on1 7 rfl (wl_store_blk (i := 9) (vs := [v154]) (cs' := [v154, v83, (.int .i64 y85), (.int .i64 y86)]) tf_51 rfl rfl (cells_one (hS159.own_ro (i := 0) rfl).one) rfl hB158 hS159 rfl rfl ⟨(hS159.own_ro (i := 0) rfl).one, trivial⟩ rfl ?_)))))
        intro w164 hk167 hB165 hS166
        have hpv168 := hpv160.keepS (fun b hb => hk167.2.1 b (((hS159.get (i := 5) rfl).2.1 b hb).2) (hS159.disj (i := 5) (j := 9) rfl rfl rfl b hb)) (fun _ h => h)
        have hpv169 := hpv161.keep (fun b hb => hk167.2.1 b (((hS159.get (i := 5) rfl).2.1 b hb).2) (hS159.disj (i := 5) (j := 9) rfl rfl rfl b hb))
        have hSW170 := hSW162.wr' hk167.1 hk167.2.1 (fun _ _ h => List.mem_append_right _ h)
        refine WL.nil (WH.ret hSW170 (WH.done (by kernel_rfl) ?_))
        have hp117 := hpv168
        have hv119 := hpv169
        exact fun a ha => hJ113 (u153) (v154) (F155) _ hF hB165 (hS166.sel [1, 2, 3, 4, 5, 6, 7, 0, 8, 9] rfl) a (ha.sub ⟨rfl, rfl, rfl, rfl, rfl, rfl, rfl, rfl, trivial⟩)
       ·
        obtain ⟨u172, hu172, hF⟩ := bindE hF
        refine wl_call rfl Try.call171 (C_spec_chOwn w121 u115 v118 (hv119.mono (fun b hb => ((hS124.get (i := 4) rfl).2.1 b hb).2)) _ hu172) rfl ?_
        rintro _ w175 ⟨v173, F174, rfl, hb176, hM179⟩
        refine ⟨_, rfl, ?_⟩
        have hB177 := hB123.trans (hb176.mono hB123.size)
        have hS178 := hS124.join hb176 hM179 hB123.size
        have hpv181 := hp117.keepS (fun b hb => hb176.block b (((hS124.get (i := 4) rfl).2.1 b hb).2)) (fun _ h => h)
        have hpv182 := hv119.keep (fun b hb => hb176.block b (((hS124.get (i := 4) rfl).2.1 b hb).2))
        have hSW183 := hSW125.ext hb176
        refine WL.nil (WH.ret hSW183 (WH.many (is := [1, 4]) (by kernel_rfl) rfl (List.forall_mem_cons.2 ⟨⟨_, rfl, ?_⟩, List.forall_mem_cons.2 ⟨⟨_, rfl, ?_⟩, fun _ h => by cases h⟩⟩)))
        ·
         refine wl_load_blk (i := 10) (vs := [v95]) (v := v95) tf_51 rfl rfl hS178 rfl rfl rfl (WL.nil (WH.ret hSW183 (WH.on1 4 rfl ?_)))
         have hq185 := hS178.sel [0, 1, 2, 3, 4, 5, 6, 7, 8, 9, 10] rfl
         have hq186 := hq185.head (r' := R.cel ty_63 F174 [v173] u172) (rfl) fun _ h0 => ⟨_, rfl, h0⟩
         refine wl_lit1 (e := ty_63) (vs := [v173]) Try.underlying51 rfl rfl (cells_one (hS178.own_ro (i := 0) rfl).one) rfl hB177 hq186 ?_
         intro v187 F188 w189 hb190 hf191 hB192 hS193
         have hpv195 := hpv181.keepS (fun b hb => hb190.block b (((hS178.get (i := 5) rfl).2.1 b hb).2)) (fun _ h => h)
         have hpv196 := hpv182.keep (fun b hb => hb190.block b (((hS178.get (i := 5) rfl).2.1 b hb).2))
         have hSW197 := hSW183.ext hb190
         refine WL.nil (WH.ret hSW197 (WH.on1 5 rfl ?_))
         obtain ⟨u199, hu199, hF⟩ := bindE hF
         refine wl_appendn (e := ty_63) Try.underlying51 rfl rfl rfl hB192 (hS193.sel [8, 0, 1, 2, 3, 4, 5, 6, 7, 9, 10] rfl) hu199 ?_
         intro v200 F201 w202 hk203 hB204 hS205
         have hpv206 := hpv195.keepS (fun b hb => hk203.2.1 b (((hS193.get (i := 5) rfl).2.1 b hb).2) (hS193.disj (i := 5) (j := 8) rfl rfl rfl b hb)) (fun _ h => h)
         have hpv207 := hpv196.keep (fun b hb => hk203.2.1 b (((hS193.get (i := 5) rfl).2.1 b hb).2) (hS193.disj (i := 5) (j := 8) rfl rfl rfl b hb))
         have hSW208 := hSW197.wr' hk203.1 hk203.2.1 (fun _ _ h => List.mem_append_left _ (h))
         refine WL.nil (WH.ret hSW208 (WH.tk 6 rfl hP hSW208 (pr_field (o := 0) (off' := 0) ff_53_0 rfl rfl rfl (WH.on1 7 rfl (wl_store_blk (i := 9) (vs := [v200]) (cs' := [v200, v83, (.int .i64 y85), (.int .i64 y86)]) tf_51 rfl rfl (cells_one (hS205.own_ro (i := 0) rfl).one) rfl hB204 hS205 rfl rfl ⟨(hS205.own_ro (i := 0) rfl).one, trivial⟩ rfl ?_)))))
         intro w210 hk213 hB211 hS212
         have hpv214 := hpv206.keepS (fun b hb => hk213.2.1 b (((hS205.get (i := 5) rfl).2.1 b hb).2) (hS205.disj (i := 5) (j := 9) rfl rfl rfl b hb)) (fun _ h => h)
         have hpv215 := hpv207.keep (fun b hb => hk213.2.1 b (((hS205.get (i := 5) rfl).2.1 b hb).2) (hS205.disj (i := 5) (j := 9) rfl rfl rfl b hb))
         have hSW216 := hSW208.wr' hk213.1 hk213.2.1 (fun _ _ h => List.mem_append_right _ h)
         refine WL.nil (WH.ret hSW216 (WH.done (by kernel_rfl) ?_))
         have hp117 := hpv214
         have hv119 := hpv215
         exact fun a ha => hJ113 (u199) (v200) (F201) _ hF hB211 (hS212.sel [1, 2, 3, 4, 5, 6, 7, 0, 8, 9] rfl) a (ha.sub ⟨rfl, rfl, rfl, rfl, rfl, rfl, rfl, rfl, trivial⟩)
        ·
         have hq218 := hS178.sel [0, 1, 2, 3, 4, 5, 6, 7, 8, 9, 10] rfl
         have hq219 := hq218.head (r' := R.cel ty_63 F174 [v173] u172) (rfl) fun _ h0 => ⟨_, rfl, h0⟩
         refine wl_lit1 (e := ty_63) (vs := [v173]) Try.underlying51 rfl rfl (cells_one (hS178.own_ro (i := 0) rfl).one) rfl hB177 hq219 ?_
         intro v220 F221 w222 hb223 hf224 hB225 hS226
         have hpv228 := hpv181.keepS (fun b hb => hb223.block b (((hS178.get (i := 5) rfl).2.1 b hb).2)) (fun _ h => h)
         have hpv229 := hpv182.keep (fun b hb => hb223.block b (((hS178.get (i := 5) rfl).2.1 b hb).2))
         have hSW230 := hSW183.ext hb223
         refine WL.nil (WH.ret hSW230 (WH.on1 1 rfl (wl_load_blk (i := 10) (vs := [v95]) (v := v95) tf_51 rfl rfl hS226 rfl rfl rfl (WL.nil (WH.ret hSW230 (WH.on1 5 rfl ?_))))))
         obtain ⟨u232, hu232, hF⟩ := bindE hF
         refine wl_appendn (e := ty_63) Try.underlying51 rfl rfl rfl hB225 (hS226.sel [8, 0, 1, 2, 3, 4, 5, 6, 7, 9, 10] rfl) hu232 ?_
         intro v233 F234 w235 hk236 hB237 hS238
         have hpv239 := hpv228.keepS (fun b hb => hk236.2.1 b (((hS226.get (i := 5) rfl).2.1 b hb).2) (hS226.disj (i := 5) (j := 8) rfl rfl rfl b hb)) (fun _ h => h)
         have hpv240 := hpv229.keep (fun b hb => hk236.2.1 b (((hS226.get (i := 5) rfl).2.1 b hb).2) (hS226.disj (i := 5) (j := 8) rfl rfl rfl b hb))
         have hSW241 := hSW230.wr' hk236.1 hk236.2.1 (fun _ _ h => List.mem_append_left _ (h))
         refine WL.nil (WH.ret hSW241 (WH.tk 6 rfl hP hSW241 (pr_field (o := 0) (off' := 0) ff_53_0 rfl rfl rfl (WH.on1 7 rfl (wl_store_blk (i := 9) (vs := [v233]) (cs' := [v233, v83, (.int .i64 y85), (.int .i64 y86)]) tf_51 rfl rfl (cells_one (hS238.own_ro (i := 0) rfl).one) rfl hB237 hS238 rfl rfl ⟨(hS238.own_ro (i := 0) rfl).one, trivial⟩ rfl ?_)))))
         intro w243 hk246 hB244 hS245
         have hpv247 := hpv239.keepS (fun b hb => hk246.2.1 b (((hS238.get (i := 5) rfl).2.1 b hb).2) (hS238.disj (i := 5) (j := 9) rfl rfl rfl b hb)) (fun _ h => h)
         have hpv248 := hpv240.keep (fun b hb => hk246.2.1 b (((hS238.get (i := 5) rfl).2.1 b hb).2) (hS238.disj (i := 5) (j := 9) rfl rfl rfl b hb))
         have hSW249 := hSW241.wr' hk246.1 hk246.2.1 (fun _ _ h => List.mem_append_right _ h)
         refine WL.nil (WH.ret hSW249 (WH.done (by kernel_rfl) ?_))
         have hp117 := hpv247
         have hv119 := hpv248
         exact fun a ha => hJ113 (u232) (v233) (F234) _ hF hB244 (hS245.sel [1, 2, 3, 4, 5, 6, 7, 0, 8, 9] rfl) a (ha.sub ⟨rfl, rfl, rfl, rfl, rfl, rfl, rfl, rfl, trivial⟩)
      ·replace hF := ifN h104 hF
       refine W.exit fun a ha => hK89 _ _ (W.seq fun K251 hK251 => (W.seq fun K252 hK252 => (W.region (wl_move rfl rfl ?_)))) a ha
       obtain ⟨u253, hu253, hF⟩ := bindE hF
       refine wl_call rfl Try.call132 (C_spec_l1Cur__pick__mut__box w91 (x0.1, y37, y38) b0 v0_0 (h0_0.rsto (hS93.sel [0, 1] rfl)) 3 (hS93.sel [1] rfl).base0 _ hu253) rfl ?_
       rintro _ w254 ⟨rfl, hE255, hM256⟩
       refine ⟨_, rfl, ?_⟩
       have hB257 := hS93.takeB [1] rfl (M := [R.blk b0 131 [v0_0, (.int .i64 y37), (.int .u64 y38)]]) rfl hB92 hE255 hM256
       have hS258 : Sep (wE w0).heap.size w254 [R.blk b0 131 [v0_0, (.int .i64 u253.2.2.1), (.int .u64 u253.2.2.2)], R.rest w0 (fps [R.blk b0 131 [v0_0, (.int .i64 x0.2.1), (.int .u64 x0.2.2)]]), R.blk b2 53 [(.slice none 0 0), (.slice none 0 0), (.int .i64 0), (.int .i64 0)], R.blk b7 53 [(.slice none 0 0), (.slice none 0 0), (.int .i64 0), (.int .i64 0)], R.own ty_63 F20 v19 u13.1.1, R.own ty_3 F22 v21 u13.1.2.1, R.blk b23 53 [v19, v21, (.int .i64 u13.1.2.2.1), (.int .i64 u13.1.2.2.2)], R.own ty_63 F96 v95 l94, R.own ty_3 F84 v83 l82, R.blk b81 53 [v95, v83, (.int .i64 y85), (.int .i64 y86)]] := hS93.take [1] [0, 2, 3, 4, 5, 6, 7, 8, 9] rfl (M := [R.blk b0 131 [v0_0, (.int .i64 y37), (.int .u64 y38)]]) rfl hM256 hB92.size
       refine wl_assign rfl rfl (WL.nil (fun a ha => hK252 _ _ (W.block ?_) a ha))
       refine W.loopk (fun m a w259 => ∃ (y262 : Int) (y263 : Int) (l264 : (List (List (Int × Int)))) (y267 : Int) (v265 : Value) (F266 : List Nat), St 96 [(0, (.pointer (some ⟨b0, 0, none⟩))), (2, (.pointer (some ⟨b2, 0, none⟩))), (3, (.pointer (some ⟨b7, 0, none⟩))), (4, (.pointer (some ⟨b23, 0, none⟩))), (5, (.pointer (some ⟨b81, 0, none⟩))), (8, (.int .i64 y267))] a ∧ Below (wE w0).heap.size (wE w0) w259 ∧ Sep (wE w0).heap.size w259 [R.rest w0 (fps [R.blk b0 131 [v0_0, (.int .i64 x0.2.1), (.int .u64 x0.2.2)]]), R.blk b0 131 [v0_0, (.int .i64 y262), (.int .u64 y263)], R.blk b2 53 [(.slice none 0 0), (.slice none 0 0), (.int .i64 0), (.int .i64 0)], R.blk b7 53 [(.slice none 0 0), (.slice none 0 0), (.int .i64 0), (.int .i64 0)], R.own ty_63 F20 v19 u13.1.1, R.own ty_3 F22 v21 u13.1.2.1, R.blk b23 53 [v19, v21, (.int .i64 u13.1.2.2.1), (.int .i64 u13.1.2.2.2)], R.own ty_63 F266 v265 l264, R.own ty_3 F84 v83 l82, R.blk b81 53 [v265, v83, (.int .i64 y85), (.int .i64 y86)]] ∧ F_spec_l1Cur__showsTwo__mut__box_L2 x0 u13 l82 y85 y86 m y262 y263 l264 y267 = some r) FU ?_ ?_
       ·
        exact fun a ha => ⟨u253.2.2.1, u253.2.2.2, l94, u253.1, v95, F96, ha.sub ⟨rfl, rfl, rfl, rfl, rfl, rfl, trivial⟩, hB257, (hS258.sel [1, 0, 2, 3, 4, 5, 6, 7, 8, 9] rfl), hF⟩
       ·
        rintro m270 a w259 ⟨y262, y263, l264, y267, v265, F266, ha, hB260, hS261, hF⟩ KL269 hKL269
        refine W.at ?_ ha
        cases m270 with
        | zero => exact noneE hF
        | succ m270 =>
         obtain ⟨nx268, hnx268⟩ : ∃ k, k = F_spec_l1Cur__showsTwo__mut__box_L2 x0 u13 l82 y85 y86 m270 := ⟨_, rfl⟩
         rw [F_spec_l1Cur__showsTwo__mut__box_L2, ← hnx268] at hF
         refine W.seq fun K271 hK271 => W.seq fun K272 hK272 => W.region (wl_move rfl rfl (wl_gtr rfl rfl rfl (WL.nil (fun a ha => hK272 _ _ (W.cond rfl (fun h273 => ?_) (fun h273 => ?_)) a ha))))
         ·replace hF := ifP h273 hF
          refine W.skip fun a ha => hK271 _ _ (W.seq fun K274 hK274 => (W.block (W.seq fun K275 hK275 => (W.regionH mixed_ [b0] hB260 hS261 ?_)))) a ha
          intro w276 hb277 hB278 hS279
          have hSW280 := KeepX.refl w276 [b0]
          refine WH.tk 0 rfl hP hSW280 (pr_field (o := 0) (off' := 0) ff_53_0 rfl rfl rfl (WH.tk 1 rfl hP hSW280 (pr_load_blk (i := 9) (vs := [v265]) (v := v265) tf_51 rfl rfl hS279 rfl rfl rfl (hS279.disj (i := 9) (j := 1) rfl rfl rfl b81 (by simp [R.blk])) (WH.tk 2 rfl hP hSW280 (pr_move rfl rfl (WH.tk 3 rfl hP hSW280 (pr_field (o := 0) (off' := 0) ff_53_0 rfl rfl rfl (WH.tk 4 rfl hP hSW280 (pr_load_blk (i := 9) (vs := [v265]) (v := v265) tf_51 rfl rfl hS279 rfl rfl rfl (hS279.disj (i := 9) (j := 1) rfl rfl rfl b81 (by simp [R.blk])) (WH.tk 5 rfl hP hSW280 (pr_lenr (e := ty_63) (l := l264) Try.underlying51 rfl rfl (hS279.own_ro (i := 7) rfl) (WH.on1 6 rfl ?_))))))))))))
          obtain ⟨u281, hu281, hF⟩ := bindE hF
          refine wl_call rfl Try.call132 (C_spec_l1Cur__pick__mut__box w276 (x0.1, y262, y263) b0 v0_0 (h0_0.rsto (hS279.sel [0, 1] rfl)) (List.length l264 : Int) (hS279.sel [1] rfl).base0 _ hu281) rfl ?_
          rintro _ w282 ⟨rfl, hE283, hM284⟩
          refine ⟨_, rfl, ?_⟩
          have hB285 := hS279.takeB [1] rfl (M := [R.blk b0 131 [v0_0, (.int .i64 y262), (.int .u64 y263)]]) rfl hB278 hE283 hM284
          have hS286 : Sep (wE w0).heap.size w282 [R.blk b0 131 [v0_0, (.int .i64 u281.2.2.1), (.int .u64 u281.2.2.2)], R.rest w0 (fps [R.blk b0 131 [v0_0, (.int .i64 x0.2.1), (.int .u64 x0.2.2)]]), R.blk b2 53 [(.slice none 0 0), (.slice none 0 0), (.int .i64 0), (.int .i64 0)], R.blk b7 53 [(.slice none 0 0), (.slice none 0 0), (.int .i64 0), (.int .i64 0)], R.own ty_63 F20 v19 u13.1.1, R.own ty_3 F22 v21 u13.1.2.1, R.blk b23 53 [v19, v21, (.int .i64 u13.1.2.2.1), (.int .i64 u13.1.2.2.2)], R.own ty_63 F266 v265 l264, R.own ty_3 F84 v83 l82, R.blk b81 53 [v265, v83, (.int .i64 y85), (.int .i64 y86)]] := hS279.take [1] [0, 2, 3, 4, 5, 6, 7, 8, 9] rfl (M := [R.blk b0 131 [v0_0, (.int .i64 y262), (.int .u64 y263)]]) rfl hM284 hB278.size
          have hk287 := box_kept hM284
          have hSW288 := hSW280.wr' hk287.1 hk287.2.1 (fun _ _ h => h)
          refine WL.nil (WH.ret hSW288 (WH.on1 7 rfl ?_))
          obtain ⟨u290, hu290, hF⟩ := bindE hF
          refine wl_indexoF (e := ty_63) (i := 7) Try.underlying51 rfl rfl rfl hS286 rfl hu290 ?_
          rintro p291 _ ⟨v293, rfl, hv294⟩ hp292 ho295
          refine WL.nil (WH.ret hSW288 (WH.tk 8 rfl hP hSW288 (pr_load_p (vs := [v293]) (v := v293) tf_63 rfl rfl (fun w hw => hp292.keepS (fun b h0 => (hw.blk b (((hS279.get (i := 7) rfl).2.1 b h0).2) (hS279.disj (i := 7) (j := 1) rfl rfl rfl b h0)).trans (hSW288.blk b (((hS279.get (i := 7) rfl).2.1 b h0).2) (hS279.disj (i := 7) (j := 1) rfl rfl rfl b h0)).symm) (fun _ h => h)) rfl rfl (WH.tk 9 rfl hP hSW288 (pr_assign rfl rfl (WH.done (by kernel_rfl) (fun a ha => hK275 _ _ (W.region (wl_move rfl rfl (wl_move rfl rfl (wl_move rfl rfl (wl_lenr (e := ty_68) (l := u290) Try.underlying63 rfl rfl (hv294.mono (fun b hb => ((hS286.get (i := 7) rfl).2.1 b hb).2)) ?_))))) a ha)))))))
          obtain ⟨u296, hu296, hF⟩ := bindE hF
          refine wl_call rfl Try.call132 (C_spec_l1Cur__pick__mut__box w282 (x0.1, u281.2.2.1, u281.2.2.2) b0 v0_0 (h0_0.rsto (hS286.sel [1, 0] rfl)) (List.length u290 : Int) (hS286.sel [0] rfl).base0 _ hu296) rfl ?_
          rintro _ w297 ⟨rfl, hE298, hM299⟩
          refine ⟨_, rfl, ?_⟩
          have hB300 := hS286.takeB [0] rfl (M := [R.blk b0 131 [v0_0, (.int .i64 u281.2.2.1), (.int .u64 u281.2.2.2)]]) rfl hB285 hE298 hM299
          have hS301 : Sep (wE w0).heap.size w297 [R.blk b0 131 [v0_0, (.int .i64 u296.2.2.1), (.int .u64 u296.2.2.2)], R.rest w0 (fps [R.blk b0 131 [v0_0, (.int .i64 x0.2.1), (.int .u64 x0.2.2)]]), R.blk b2 53 [(.slice none 0 0), (.slice none 0 0), (.int .i64 0), (.int .i64 0)], R.blk b7 53 [(.slice none 0 0), (.slice none 0 0), (.int .i64 0), (.int .i64 0)], R.own ty_63 F20 v19 u13.1.1, R.own ty_3 F22 v21 u13.1.2.1, R.blk b23 53 [v19, v21, (.int .i64 u13.1.2.2.1), (.int .i64 u13.1.2.2.2)], R.own ty_63 F266 v265 l264, R.own ty_3 F84 v83 l82, R.blk b81 53 [v265, v83, (.int .i64 y85), (.int .i64 y86)]] := hS286.take [0] [1, 2, 3, 4, 5, 6, 7, 8, 9] rfl (M := [R.blk b0 131 [v0_0, (.int .i64 u281.2.2.1), (.int .u64 u281.2.2.2)]]) rfl hM299 hB285.size
          have hp292 := hp292.keepS (fun b hb => mut_kept hM299 b (((hS286.get (i := 7) rfl).2.1 b hb).2) (nf_cons (hS286.disj (i := 7) (j := 0) rfl rfl rfl b hb) nf_nil)) (fun _ h => h)
          have hv294 := hv294.keep (fun b hb => mut_kept hM299 b (((hS286.get (i := 7) rfl).2.1 b hb).2) (nf_cons (hS286.disj (i := 7) (j := 0) rfl rfl rfl b hb) nf_nil))
          refine wl_move rfl rfl ?_
          obtain ⟨u302, hu302, hF⟩ := bindE hF
          refine wl_call rfl Try.call239 (C_spec_l1Cur__spot__mut__box w297 (x0.1, u296.2.2.1, u296.2.2.2) b0 v0_0 (h0_0.rsto (hS301.sel [1, 0] rfl)) (hS301.sel [0] rfl).base0 _ hu302) rfl ?_
          rintro _ w303 ⟨rfl, hE304, hM305⟩
          refine ⟨_, rfl, ?_⟩
          have hB306 := hS301.takeB [0] rfl (M := [R.blk b0 131 [v0_0, (.int .i64 u296.2.2.1), (.int .u64 u296.2.2.2)]]) rfl hB300 hE304 hM305
          have hS307 : Sep (wE w0).heap.size w303 [R.blk b0 131 [v0_0, (.int .i64 u302.2.2.1), (.int .u64 u302.2.2.2)], R.rest w0 (fps [R.blk b0 131 [v0_0, (.int .i64 x0.2.1), (.int .u64 x0.2.2)]]), R.blk b2 53 [(.slice none 0 0), (.slice none 0 0), (.int .i64 0), (.int .i64 0)], R.blk b7 53 [(.slice none 0 0), (.slice none 0 0), (.int .i64 0), (.int .i64 0)], R.own ty_63 F20 v19 u13.1.1, R.own ty_3 F22 v21 u13.1.2.1, R.blk b23 53 [v19, v21, (.int .i64 u13.1.2.2.1), (.int .i64 u13.1.2.2.2)], R.own ty_63 F266 v265 l264, R.own ty_3 F84 v83 l82, R.blk b81 53 [v265, v83, (.int .i64 y85), (.int .i64 y86)]] := hS301.take [0] [1, 2, 3, 4, 5, 6, 7, 8, 9] rfl (M := [R.blk b0 131 [v0_0, (.int .i64 u296.2.2.1), (.int .u64 u296.2.2.2)]]) rfl hM305 hB300.size
          have hp292 := hp292.keepS (fun b hb => mut_kept hM305 b (((hS301.get (i := 7) rfl).2.1 b hb).2) (nf_cons (hS301.disj (i := 7) (j := 0) rfl rfl rfl b hb) nf_nil)) (fun _ h => h)
          have hv294 := hv294.keep (fun b hb => mut_kept hM305 b (((hS301.get (i := 7) rfl).2.1 b hb).2) (nf_cons (hS301.disj (i := 7) (j := 0) rfl rfl rfl b hb) nf_nil))
          obtain ⟨u308, hu308, hF⟩ := bindE hF
          refine wl_indexP (e := ty_68) Try.underlying63 rfl rfl rfl (hv294.mono (fun b hb => ((hS307.get (i := 7) rfl).2.1 b hb).2)) hu308 ?_
          rintro p309 _ rfl hp310 ho311
          obtain ⟨F315, hS316, hq317, hq318⟩ := (hS307.sel [7, 0, 1, 2, 3, 4, 5, 6, 8, 9] rfl).borrow (e := ty_63) (F := F266) (v := v265) (l := l264) hu290 ho295 (hp292.keepS (fun _ _ => rfl) (fun b hb => ((hS307.get (i := 7) rfl).2.1 b hb).2)) rfl
          have hS319 : Sep (wE w0).heap.size w303 [R.own ty_68 F315 v293 u290, R.hole ty_63 F266 F315 v265 l264 (u281.1 : Int).toNat [v293], R.blk b0 131 [v0_0, (.int .i64 u302.2.2.1), (.int .u64 u302.2.2.2)], R.rest w0 (fps [R.blk b0 131 [v0_0, (.int .i64 x0.2.1), (.int .u64 x0.2.2)]]), R.blk b2 53 [(.slice none 0 0), (.slice none 0 0), (.int .i64 0), (.int .i64 0)], R.blk b7 53 [(.slice none 0 0), (.slice none 0 0), (.int .i64 0), (.int .i64 0)], R.own ty_63 F20 v19 u13.1.1, R.own ty_3 F22 v21 u13.1.2.1, R.blk b23 53 [v19, v21, (.int .i64 u13.1.2.2.1), (.int .i64 u13.1.2.2.2)], R.own ty_3 F84 v83 l82, R.blk b81 53 [v265, v83, (.int .i64 y85), (.int .i64 y86)]] := hS316.head rfl fun _ h => by obtain ⟨_, h1, h2⟩ := h; cases h1; exact h2
          have ho320 := optr_of (hS319.ok (i := 0) rfl : ownS ty_68 F315 w303 v293 u290) ho311
          refine wl_storeo (i := 0) (o := 0) (vs := [(.int .i64 u302.1.1), (.int .i64 u302.1.2)]) (u' := u302.1) fl_68 tf_68 rfl rfl rfl rfl ho320 hu308 hB306 hS319 rfl rfl ⟨rfl, rfl, trivial⟩ rfl ?_
          intro w312 hk321 hB313 hS314
          have hS322 := hS314.head (r' := R.cel ty_63 F315 [v293] (seti u290 u296.1 u302.1)) rfl fun _ h => ⟨_, rfl, h⟩
          have hS323 : Sep (wE w0).heap.size w312 [R.own ty_63 F266 v265 (seti l264 u281.1 (seti u290 u296.1 u302.1)), R.blk b0 131 [v0_0, (.int .i64 u302.2.2.1), (.int .u64 u302.2.2.2)], R.rest w0 (fps [R.blk b0 131 [v0_0, (.int .i64 x0.2.1), (.int .u64 x0.2.2)]]), R.blk b2 53 [(.slice none 0 0), (.slice none 0 0), (.int .i64 0), (.int .i64 0)], R.blk b7 53 [(.slice none 0 0), (.slice none 0 0), (.int .i64 0), (.int .i64 0)], R.own ty_63 F20 v19 u13.1.1, R.own ty_3 F22 v21 u13.1.2.1, R.blk b23 53 [v19, v21, (.int .i64 u13.1.2.2.1), (.int .i64 u13.1.2.2.2)], R.own ty_3 F84 v83 l82, R.blk b81 53 [v265, v83, (.int .i64 y85), (.int .i64 y86)]] := hS322.unborrow hq317 hq318
          refine WL.nil fun a ha => hK274 _ _ (W.region (wl_move rfl rfl (wl_sub rfl rfl rfl (wl_assign rfl rfl (WL.nil ?_))))) a ha
          rw [hnx268] at hF
          exact fun a ha => hKL269 a _ m270 (Nat.lt_succ_self m270) ⟨u302.2.2.1, u302.2.2.2, (seti l264 u281.1 (seti u290 u296.1 u302.1)), (w64 (y267 - 1)), v265, F266, ha.sub ⟨rfl, rfl, rfl, rfl, rfl, rfl, trivial⟩, hB313, (hS323.sel [2, 1, 3, 4, 5, 6, 7, 0, 8, 9] rfl), hF⟩
         ·replace hF := ifN h273 hF
          refine W.exit fun a ha => hK251 _ _ (W.seq fun K324 hK324 => ?_) a ha
          obtain ⟨k335, hk335, hF⟩ := jE5 hF
          have hJ336 : ∀ (y328 : Int) (y329 : Int) (l330 : (List Int)) (y333 : Int) (y334 : Int) (v331 : Value) (F332 : List Nat) (w325 : World) (_ : k335 y328 y329 l330 y333 y334 = some r) (_ : Below (wE w0).heap.size (wE w0) w325) (_ : Sep (wE w0).heap.size w325 [R.rest w0 (fps [R.blk b0 131 [v0_0, (.int .i64 x0.2.1), (.int .u64 x0.2.2)]]), R.blk b0 131 [v0_0, (.int .i64 y328), (.int .u64 y329)], R.blk b2 53 [(.slice none 0 0), (.slice none 0 0), (.int .i64 0), (.int .i64 0)], R.blk b7 53 [(.slice none 0 0), (.slice none 0 0), (.int .i64 0), (.int .i64 0)], R.own ty_63 F20 v19 u13.1.1, R.own ty_3 F22 v21 u13.1.2.1, R.blk b23 53 [v19, v21, (.int .i64 u13.1.2.2.1), (.int .i64 u13.1.2.2.2)], R.own ty_63 F266 v265 l264, R.own ty_3 F332 v331 l330, R.blk b81 53 [v265, v331, (.int .i64 y333), (.int .i64 y334)]]), ∀ a, St 96 [(2, (.pointer (some ⟨b2, 0, none⟩))), (3, (.pointer (some ⟨b7, 0, none⟩))), (4, (.pointer (some ⟨b23, 0, none⟩))), (5, (.pointer (some ⟨b81, 0, none⟩)))] a → K324 a w325 := by
           intro y328 y329 l330 y333 y334 v331 F332 w325 hF hB326 hS327
           subst hk335
           refine fun a ha => hK324 _ _ (W.seq fun K337 hK337 => (W.regionH mixed_ ([b2] ++ [b7]) hB326 hS327 ?_)) a ha
           intro w338 hb339 hB340 hS341
           have hSW342 := KeepX.refl w338 ([b2] ++ [b7])
           refine WH.tk 0 rfl hP hSW342 (pr_load_blk (i := 6) (vs := [v19, v21, (.int .i64 u13.1.2.2.1), (.int .i64 u13.1.2.2.2)]) (v := (.agg #[v19, v21, (.int .i64 u13.1.2.2.1), (.int .i64 u13.1.2.2.2)])) tf_53 rfl rfl hS341 rfl rfl rfl (fun hb => (List.mem_append.1 hb).elim (hS341.disj (i := 6) (j := 2) rfl rfl rfl b23 (by simp [R.blk])) (hS341.disj (i := 6) (j := 3) rfl rfl rfl b23 (by simp [R.blk]))) (WH.tk 1 rfl hP hSW342 (pr_load_blk (i := 9) (vs := [v265, v331, (.int .i64 y333), (.int .i64 y334)]) (v := (.agg #[v265, v331, (.int .i64 y333), (.int .i64 y334)])) tf_53 rfl rfl hS341 rfl rfl rfl (fun hb => (List.mem_append.1 hb).elim (hS341.disj (i := 9) (j := 2) rfl rfl rfl b81 (by simp [R.blk])) (hS341.disj (i := 9) (j := 3) rfl rfl rfl b81 (by simp [R.blk]))) (WH.on1 2 rfl ?_))))
           refine wl_store_blk (i := 2) (vs := [v19, v21, (.int .i64 u13.1.2.2.1), (.int .i64 u13.1.2.2.2)]) (cs' := [v19, v21, (.int .i64 u13.1.2.2.1), (.int .i64 u13.1.2.2.2)]) tf_53 rfl rfl rfl rfl hB340 hS341 rfl rfl ⟨(hS341.own_ro (i := 4) rfl).one, (hS341.own_ro (i := 5) rfl).one, rfl, rfl, trivial⟩ rfl ?_
           intro w343 hk346 hB344 hS345
           have hSW347 := hSW342.wr' hk346.1 hk346.2.1 (fun _ _ h => List.mem_append_left _ (h))
           refine WL.nil (WH.ret hSW347 (WH.on1 3 rfl (wl_store_blk (i := 3) (vs := [v265, v331, (.int .i64 y333), (.int .i64 y334)]) (cs' := [v265, v331, (.int .i64 y333), (.int .i64 y334)]) tf_53 rfl rfl rfl rfl hB344 hS345 rfl rfl ⟨(hS345.own_ro (i := 7) rfl).one, (hS345.own_ro (i := 8) rfl).one, rfl, rfl, trivial⟩ rfl ?_)))
           intro w349 hk352 hB350 hS351
           have hSW353 := hSW347.wr' hk352.1 hk352.2.1 (fun _ _ h => List.mem_append_right _ h)
           refine WL.nil (WH.ret hSW353 (WH.done (by kernel_rfl) (fun a ha => hK337 _ _ (W.ret ?_) a ha)))
           have hr := Option.some.inj hF
           subst hr
           exact rets (vs := [(.agg #[v19, v21, (.int .i64 u13.1.2.2.1), (.int .i64 u13.1.2.2.2)]), (.agg #[v265, v331, (.int .i64 y333), (.int .i64 y334)])]) hQ rfl ⟨rv_cell (i := 2) tf_53 rfl hS351 rfl rfl rfl, rv_cell (i := 3) tf_53 rfl hS351 rfl rfl rfl, trivial⟩ ⟨v19, F20, v21, F22, v265, F266, v331, F332, rfl, hB350, hS351.sel [0, 1, 4, 5, 7, 8] rfl⟩
          refine W.seq fun K355 hK355 => W.region (wl_move rfl rfl ?_)
          obtain ⟨u356, hu356, hF⟩ := bindE hF
          refine wl_call rfl Try.call132 (C_spec_l1Cur__pick__mut__box w259 (x0.1, y262, y263) b0 v0_0 (h0_0.rsto (hS261.sel [0, 1] rfl)) 5 (hS261.sel [1] rfl).base0 _ hu356) rfl ?_
          rintro _ w357 ⟨rfl, hE358, hM359⟩
          refine ⟨_, rfl, ?_⟩
          have hB360 := hS261.takeB [1] rfl (M := [R.blk b0 131 [v0_0, (.int .i64 y262), (.int .u64 y263)]]) rfl hB260 hE358 hM359
          have hS361 : Sep (wE w0).heap.size w357 [R.blk b0 131 [v0_0, (.int .i64 u356.2.2.1), (.int .u64 u356.2.2.2)], R.rest w0 (fps [R.blk b0 131 [v0_0, (.int .i64 x0.2.1), (.int .u64 x0.2.2)]]), R.blk b2 53 [(.slice none 0 0), (.slice none 0 0), (.int .i64 0), (.int .i64 0)], R.blk b7 53 [(.slice none 0 0), (.slice none 0 0), (.int .i64 0), (.int .i64 0)], R.own ty_63 F20 v19 u13.1.1, R.own ty_3 F22 v21 u13.1.2.1, R.blk b23 53 [v19, v21, (.int .i64 u13.1.2.2.1), (.int .i64 u13.1.2.2.2)], R.own ty_63 F266 v265 l264, R.own ty_3 F84 v83 l82, R.blk b81 53 [v265, v83, (.int .i64 y85), (.int .i64 y86)]] := hS261.take [1] [0, 2, 3, 4, 5, 6, 7, 8, 9] rfl (M := [R.blk b0 131 [v0_0, (.int .i64 y262), (.int .u64 y263)]]) rfl hM359 hB260.size
          refine WL.nil fun a ha => hK355 _ _ (W.block (W.seq fun K362 hK362 => (W.region (wl_eql rfl rfl rfl (wl_assign rfl rfl (WL.nil (fun a ha => hK362 _ _ (W.cond rfl (fun h363 => ?_) (fun h363 => ?_)) a ha))))))) a ha
          ·replace hF := ifP h363 hF
           refine W.regionH mixed_ (([b0] ++ F84) ++ [b81]) hB360 hS361 ?_
           intro w364 hb365 hB366 hS367
           have hSW368 := KeepX.refl w364 (([b0] ++ F84) ++ [b81])
           refine WH.tk 0 rfl hP hSW368 (pr_field (o := 1) (off' := 1) ff_53_1 rfl rfl rfl (WH.tk 2 rfl hP hSW368 (pr_move rfl rfl (WH.tk 3 rfl hP hSW368 (pr_field (o := 1) (off' := 1) ff_53_1 rfl rfl rfl (WH.tk 7 rfl hP hSW368 (pr_move rfl rfl (WH.many (is := [1, 4]) (by kernel_rfl) rfl (List.forall_mem_cons.2 ⟨⟨_, rfl, ?_⟩, List.forall_mem_cons.2 ⟨⟨_, rfl, ?_⟩, fun _ h => by cases h⟩⟩)))))))))
           ·
            refine wl_load_blk (i := 9) (vs := [v83]) (v := v83) tf_29 rfl rfl hS367 rfl rfl rfl (WL.nil (WH.ret hSW368 (WH.on1 4 rfl (wl_load_blk (i := 9) (vs := [v83]) (v := v83) tf_29 rfl rfl hS367 rfl rfl rfl (WL.nil (WH.ret hSW368 (WH.tk 5 rfl hP hSW368 (pr_lenr (e := ty_3) (l := l82) Try.underlying29 rfl rfl (hS367.own_ro (i := 8) rfl) (WH.on1 6 rfl ?_)))))))))
            obtain ⟨u369, hu369, hF⟩ := bindE hF
            refine wl_call rfl Try.call132 (C_spec_l1Cur__pick__mut__box w364 (x0.1, u356.2.2.1, u356.2.2.2) b0 v0_0 (h0_0.rsto (hS367.sel [1, 0] rfl)) (List.length l82 : Int) (hS367.sel [0] rfl).base0 _ hu369) rfl ?_
            rintro _ w370 ⟨rfl, hE371, hM372⟩
            refine ⟨_, rfl, ?_⟩
            have hB373 := hS367.takeB [0] rfl (M := [R.blk b0 131 [v0_0, (.int .i64 u356.2.2.1), (.int .u64 u356.2.2.2)]]) rfl hB366 hE371 hM372
            have hS374 : Sep (wE w0).heap.size w370 [R.blk b0 131 [v0_0, (.int .i64 u369.2.2.1), (.int .u64 u369.2.2.2)], R.rest w0 (fps [R.blk b0 131 [v0_0, (.int .i64 x0.2.1), (.int .u64 x0.2.2)]]), R.blk b2 53 [(.slice none 0 0), (.slice none 0 0), (.int .i64 0), (.int .i64 0)], R.blk b7 53 [(.slice none 0 0), (.slice none 0 0), (.int .i64 0), (.int .i64 0)], R.own ty_63 F20 v19 u13.1.1, R.own ty_3 F22 v21 u13.1.2.1, R.blk b23 53 [v19, v21, (.int .i64 u13.1.2.2.1), (.int .i64 u13.1.2.2.2)], R.own ty_63 F266 v265 l264, R.own ty_3 F84 v83 l82, R.blk b81 53 [v265, v83, (.int .i64 y85), (.int .i64 y86)]] := hS367.take [0] [1, 2, 3, 4, 5, 6, 7, 8, 9] rfl (M := [R.blk b0 131 [v0_0, (.int .i64 u356.2.2.1), (.int .u64 u356.2.2.2)]]) rfl hM372 hB366.size
            have hk375 := box_kept hM372
            have hSW376 := hSW368.wr' hk375.1 hk375.2.1 (fun _ _ h => List.mem_append_left _ (List.mem_append_left _ (h)))
            have hbs377 : ∀ b, b < w364.heap.size → b ∈ [b0] → b ∈ (([b0] ++ F84) ++ [b81]) := fun b hlt hb => (hk375.2.2 b hb).elim ((fun _ _ h => List.mem_append_left _ (List.mem_append_left _ (h))) b hlt) (fun h => absurd hlt (Nat.not_lt.2 (Nat.le_trans hSW368.size h)))
            refine WL.nil (WH.ret hSW376 (WH.on1 8 rfl ?_))
            obtain ⟨u378, hu378, hF⟩ := bindE hF
            refine wl_call rfl Try.call132 (C_spec_l1Cur__pick__mut__box w370 (x0.1, u369.2.2.1, u369.2.2.2) b0 v0_0 (h0_0.rsto (hS374.sel [1, 0] rfl)) 20 (hS374.sel [0] rfl).base0 _ hu378) rfl ?_
            rintro _ w379 ⟨rfl, hE380, hM381⟩
            refine ⟨_, rfl, ?_⟩
            have hB382 := hS374.takeB [0] rfl (M := [R.blk b0 131 [v0_0, (.int .i64 u369.2.2.1), (.int .u64 u369.2.2.2)]]) rfl hB373 hE380 hM381
            have hS383 : Sep (wE w0).heap.size w379 [R.blk b0 131 [v0_0, (.int .i64 u378.2.2.1), (.int .u64 u378.2.2.2)], R.rest w0 (fps [R.blk b0 131 [v0_0, (.int .i64 x0.2.1), (.int .u64 x0.2.2)]]), R.blk b2 53 [(.slice none 0 0), (.slice none 0 0), (.int .i64 0), (.int .i64 0)], R.blk b7 53 [(.slice none 0 0), (.slice none 0 0), (.int .i64 0), (.int .i64 0)], R.own ty_63 F20 v19 u13.1.1, R.own ty_3 F22 v21 u13.1.2.1, R.blk b23 53 [v19, v21, (.int .i64 u13.1.2.2.1), (.int .i64 u13.1.2.2.2)], R.own ty_63 F266 v265 l264, R.own ty_3 F84 v83 l82, R.blk b81 53 [v265, v83, (.int .i64 y85), (.int .i64 y86)]] := hS374.take [0] [1, 2, 3, 4, 5, 6, 7, 8, 9] rfl (M := [R.blk b0 131 [v0_0, (.int .i64 u369.2.2.1), (.int .u64 u369.2.2.2)]]) rfl hM381 hB373.size
            have hk384 := box_kept hM381
            have hSW385 := hSW376.wr' hk384.1 hk384.2.1 (hbs377)
            refine WL.nil (WH.ret hSW385 (WH.tk 9 rfl hP hSW385 (pr_add rfl rfl rfl (WH.on1 10 rfl ?_))))
            obtain ⟨u387, hu387, hF⟩ := bindE hF
            refine wl_indexoF (e := ty_3) (i := 8) Try.underlying29 rfl rfl rfl hS383 rfl hu387 ?_
            rintro p388 _ rfl hp389 ho390
            refine WL.nil (WH.ret hSW385 (WH.on1 11 rfl (wl_storeo (i := 8) (o := 0) (vs := [(.int .i64 (w64 (1 + u378.1)))]) (u' := (w64 (1 + u378.1))) fl_3 tf_3 rfl rfl rfl rfl ho390 hu387 hB382 hS383 rfl rfl ⟨rfl, trivial⟩ rfl ?_)))
            intro w391 hk394 hB392 hS393
            have hSW395 := hSW385.wr' hk394.1 hk394.2.1 (fun _ _ h => List.mem_append_left _ (List.mem_append_right _ h))
            refine WL.nil (WH.ret hSW395 (WH.done (by kernel_rfl) ?_))
            exact fun a ha => hJ336 (u378.2.2.1) (u378.2.2.2) ((seti l82 u369.1 (w64 (1 + u378.1)))) (y85) (y86) (v83) (F84) _ hF hB392 (hS393.sel [1, 0, 2, 3, 4, 5, 6, 7, 8, 9] rfl) a (ha.sub ⟨rfl, rfl, rfl, rfl, trivial⟩)
           ·
            refine wl_load_blk (i := 9) (vs := [v83]) (v := v83) tf_29 rfl rfl hS367 rfl rfl rfl (WL.nil (WH.ret hSW368 (WH.tk 5 rfl hP hSW368 (pr_lenr (e := ty_3) (l := l82) Try.underlying29 rfl rfl (hS367.own_ro (i := 8) rfl) (WH.many (is := [1, 6]) (by kernel_rfl) rfl (List.forall_mem_cons.2 ⟨⟨_, rfl, ?_⟩, List.forall_mem_cons.2 ⟨⟨_, rfl, ?_⟩, fun _ h => by cases h⟩⟩))))))
            ·
             refine wl_load_blk (i := 9) (vs := [v83]) (v := v83) tf_29 rfl rfl hS367 rfl rfl rfl (WL.nil (WH.ret hSW368 (WH.on1 6 rfl ?_)))
             obtain ⟨u397, hu397, hF⟩ := bindE hF
             refine wl_call rfl Try.call132 (C_spec_l1Cur__pick__mut__box w364 (x0.1, u356.2.2.1, u356.2.2.2) b0 v0_0 (h0_0.rsto (hS367.sel [1, 0] rfl)) (List.length l82 : Int) (hS367.sel [0] rfl).base0 _ hu397) rfl ?_
             rintro _ w398 ⟨rfl, hE399, hM400⟩
             refine ⟨_, rfl, ?_⟩
             have hB401 := hS367.takeB [0] rfl (M := [R.blk b0 131 [v0_0, (.int .i64 u356.2.2.1), (.int .u64 u356.2.2.2)]]) rfl hB366 hE399 hM400
             have hS402 : Sep (wE w0).heap.size w398 [R.blk b0 131 [v0_0, (.int .i64 u397.2.2.1), (.int .u64 u397.2.2.2)], R.rest w0 (fps [R.blk b0 131 [v0_0, (.int .i64 x0.2.1), (.int .u64 x0.2.2)]]), R.blk b2 53 [(.slice none 0 0), (.slice none 0 0), (.int .i64 0), (.int .i64 0)], R.blk b7 53 [(.slice none 0 0), (.slice none 0 0), (.int .i64 0), (.int .i64 0)], R.own ty_63 F20 v19 u13.1.1, R.own ty_3 F22 v21 u13.1.2.1, R.blk b23 53 [v19, v21, (.int .i64 u13.1.2.2.1), (.int .i64 u13.1.2.2.2)], R.own ty_63 F266 v265 l264, R.own ty_3 F84 v83 l82, R.blk b81 53 [v265, v83, (.int .i64 y85), (.int .i64 y86)]] := hS367.take [0] [1, 2, 3, 4, 5, 6, 7, 8, 9] rfl (M := [R.blk b0 131 [v0_0, (.int .i64 u356.2.2.1), (.int .u64 u356.2.2.2)]]) rfl hM400 hB366.size
             have hk403 := box_kept hM400
             have hSW404 := hSW368.wr' hk403.1 hk403.2.1 (fun _ _ h => List.mem_append_left _ (List.mem_append_left _ (h)))
             have hbs405 : ∀ b, b < w364.heap.size → b ∈ [b0] → b ∈ (([b0] ++ F84) ++ [b81]) := fun b hlt hb => (hk403.2.2 b hb).elim ((fun _ _ h => List.mem_append_left _ (List.mem_append_left _ (h))) b hlt) (fun h => absurd hlt (Nat.not_lt.2 (Nat.le_trans hSW368.size h)))
             refine WL.nil (WH.ret hSW404 (WH.on1 8 rfl ?_))
             obtain ⟨u406, hu406, hF⟩ := bindE hF
             refine wl_call rfl Try.call132 (C_spec_l1Cur__pick__mut__box w398 (x0.1, u397.2.2.1, u397.2.2.2) b0 v0_0 (h0_0.rsto (hS402.sel [1, 0] rfl)) 20 (hS402.sel [0] rfl).base0 _ hu406) rfl ?_
             rintro _ w407 ⟨rfl, hE408, hM409⟩
             refine ⟨_, rfl, ?_⟩
             have hB410 := hS402.takeB [0] rfl (M := [R.blk b0 131 [v0_0, (.int .i64 u397.2.2.1), (.int .u64 u397.2.2.2)]]) rfl hB401 hE408 hM409
             have hS411 : Sep (wE w0).heap.size w407 [R.blk b0 131 [v0_0, (.int .i64 u406.2.2.1), (.int .u64 u406.2.2.2)], R.rest w0 (fps [R.blk b0 131 [v0_0, (.int .i64 x0.2.1), (.int .u64 x0.2.2)]]), R.blk b2 53 [(.slice none 0 0), (.slice none 0 0), (.int .i64 0), (.int .i64 0)], R.blk b7 53 [(.slice none 0 0), (.slice none 0 0), (.int .i64 0), (.int .i64 0)], R.own ty_63 F20 v19 u13.1.1, R.own ty_3 F22 v21 u13.1.2.1, R.blk b23 53 [v19, v21, (.int .i64 u13.1.2.2.1), (.int .i64 u13.1.2.2.2)], R.own ty_63 F266 v265 l264, R.own ty_3 F84 v83 l82, R.blk b81 53 [v265, v83, (.int .i64 y85), (.int .i64 y86)]] := hS402.take [0] [1, 2, 3, 4, 5, 6, 7, 8, 9] rfl (M := [R.blk b0 131 [v0_0, (.int .i64 u397.2.2.1), (.int .u64 u397.2.2.2)]]) rfl hM409 hB401.size
             have hk412 := box_kept hM409
             have hSW413 := hSW404.wr' hk412.1 hk412.2.1 (hbs405)
             refine WL.nil (WH.ret hSW413 (WH.tk 9 rfl hP hSW413 (pr_add rfl rfl rfl (WH.on1 10 rfl ?_))))
             obtain ⟨u415, hu415, hF⟩ := bindE hF
             refine wl_indexoF (e := ty_3) (i := 8) Try.underlying29 rfl rfl rfl hS411 rfl hu415 ?_
             rintro p416 _ rfl hp417 ho418
             refine WL.nil (WH.ret hSW413 (WH.on1 11 rfl (wl_storeo (i := 8) (o := 0) (vs := [(.int .i64 (w64 (1 + u406.1)))]) (u' := (w64 (1 + u406.1))) fl_3 tf_3 rfl rfl rfl rfl ho418 hu415 hB410 hS411 rfl rfl ⟨rfl, trivial⟩ rfl ?_)))
             intro w419 hk422 hB420 hS421
             have hSW423 := hSW413.wr' hk422.1 hk422.2.1 (fun _ _ h => List.mem_append_left _ (List.mem_append_right _ h))
             refine WL.nil (WH.ret hSW423 (WH.done (by kernel_rfl) ?_))
             exact fun a ha => hJ336 (u406.2.2.1) (u406.2.2.2) ((seti l82 u397.1 (w64 (1 + u406.1)))) (y85) (y86) (v83) (F84) _ hF hB420 (hS421.sel [1, 0, 2, 3, 4, 5, 6, 7, 8, 9] rfl) a (ha.sub ⟨rfl, rfl, rfl, rfl, trivial⟩)
            ·
             obtain ⟨u425, hu425, hF⟩ := bindE hF
             refine wl_call rfl Try.call132 (C_spec_l1Cur__pick__mut__box w364 (x0.1, u356.2.2.1, u356.2.2.2) b0 v0_0 (h0_0.rsto (hS367.sel [1, 0] rfl)) (List.length l82 : Int) (hS367.sel [0] rfl).base0 _ hu425) rfl ?_
             rintro _ w426 ⟨rfl, hE427, hM428⟩
             refine ⟨_, rfl, ?_⟩
             have hB429 := hS367.takeB [0] rfl (M := [R.blk b0 131 [v0_0, (.int .i64 u356.2.2.1), (.int .u64 u356.2.2.2)]]) rfl hB366 hE427 hM428
             have hS430 : Sep (wE w0).heap.size w426 [R.blk b0 131 [v0_0, (.int .i64 u425.2.2.1), (.int .u64 u425.2.2.2)], R.rest w0 (fps [R.blk b0 131 [v0_0, (.int .i64 x0.2.1), (.int .u64 x0.2.2)]]), R.blk b2 53 [(.slice none 0 0), (.slice none 0 0), (.int .i64 0), (.int .i64 0)], R.blk b7 53 [(.slice none 0 0), (.slice none 0 0), (.int .i64 0), (.int .i64 0)], R.own ty_63 F20 v19 u13.1.1, R.own ty_3 F22 v21 u13.1.2.1, R.blk b23 53 [v19, v21, (.int .i64 u13.1.2.2.1), (.int .i64 u13.1.2.2.2)], R.own ty_63 F266 v265 l264, R.own ty_3 F84 v83 l82, R.blk b81 53 [v265, v83, (.int .i64 y85), (.int .i64 y86)]] := hS367.take [0] [1, 2, 3, 4, 5, 6, 7, 8, 9] rfl (M := [R.blk b0 131 [v0_0, (.int .i64 u356.2.2.1), (.int .u64 u356.2.2.2)]]) rfl hM428 hB366.size
             have hk431 := box_kept hM428
             have hSW432 := hSW368.wr' hk431.1 hk431.2.1 (fun _ _ h => List.mem_append_left _ (List.mem_append_left _ (h)))
             have hbs433 : ∀ b, b < w364.heap.size → b ∈ [b0] → b ∈ (([b0] ++ F84) ++ [b81]) := fun b hlt hb => (hk431.2.2 b hb).elim ((fun _ _ h => List.mem_append_left _ (List.mem_append_left _ (h))) b hlt) (fun h => absurd hlt (Nat.not_lt.2 (Nat.le_trans hSW368.size h)))
             refine WL.nil (WH.ret hSW432 (WH.many (is := [1, 8]) (by kernel_rfl) rfl (List.forall_mem_cons.2 ⟨⟨_, rfl, ?_⟩, List.forall_mem_cons.2 ⟨⟨_, rfl, ?_⟩, fun _ h => by cases h⟩⟩)))
             ·
              refine wl_load_blk (i := 9) (vs := [v83]) (v := v83) tf_29 rfl rfl hS430 rfl rfl rfl (WL.nil (WH.ret hSW432 (WH.on1 8 rfl ?_)))
              obtain ⟨u434, hu434, hF⟩ := bindE hF
              refine wl_call rfl Try.call132 (C_spec_l1Cur__pick__mut__box w426 (x0.1, u425.2.2.1, u425.2.2.2) b0 v0_0 (h0_0.rsto (hS430.sel [1, 0] rfl)) 20 (hS430.sel [0] rfl).base0 _ hu434) rfl ?_
              rintro _ w435 ⟨rfl, hE436, hM437⟩
              refine ⟨_, rfl, ?_⟩
              have hB438 := hS430.takeB [0] rfl (M := [R.blk b0 131 [v0_0, (.int .i64 u425.2.2.1), (.int .u64 u425.2.2.2)]]) rfl hB429 hE436 hM437
              have hS439 : Sep (wE w0).heap.size w435 [R.blk b0 131 [v0_0, (.int .i64 u434.2.2.1), (.int .u64 u434.2.2.2)], R.rest w0 (fps [R.blk b0 131 [v0_0, (.int .i64 x0.2.1), (.int .u64 x0.2.2)]]), R.blk b2 53 [(.slice none 0 0), (.slice none 0 0), (.int .i64 0), (.int .i64 0)], R.blk b7 53 [(.slice none 0 0), (.slice none 0 0), (.int .i64 0), (.int .i64 0)], R.own ty_63 F20 v19 u13.1.1, R.own ty_3 F22 v21 u13.1.2.1, R.blk b23 53 [v19, v21, (.int .i64 u13.1.2.2.1), (.int .i64 u13.1.2.2.2)], R.own ty_63 F266 v265 l264, R.own ty_3 F84 v83 l82, R.blk b81 53 [v265, v83, (.int .i64 y85), (.int .i64 y86)]] := hS430.take [0] [1, 2, 3, 4, 5, 6, 7, 8, 9] rfl (M := [R.blk b0 131 [v0_0, (.int .i64 u425.2.2.1), (.int .u64 u425.2.2.2)]]) rfl hM437 hB429.size
              have hk440 := box_kept hM437
              have hSW441 := hSW432.wr' hk440.1 hk440.2.1 (hbs433)
              refine WL.nil (WH.ret hSW441 (WH.tk 9 rfl hP hSW441 (pr_add rfl rfl rfl (WH.on1 10 rfl ?_))))
              obtain ⟨u443, hu443, hF⟩ := bindE hF
              refine wl_indexoF (e := ty_3) (i := 8) Try.underlying29 rfl rfl rfl hS439 rfl hu443 ?_
              rintro p444 _ rfl hp445 ho446
              refine WL.nil (WH.ret hSW441 (WH.on1 11 rfl (wl_storeo (i := 8) (o := 0) (vs := [(.int .i64 (w64 (1 + u434.1)))]) (u' := (w64 (1 + u434.1))) fl_3 tf_3 rfl rfl rfl rfl ho446 hu443 hB438 hS439 rfl rfl ⟨rfl, trivial⟩ rfl ?_)))
              intro w447 hk450 hB448 hS449
              have hSW451 := hSW441.wr' hk450.1 hk450.2.1 (fun _ _ h => List.mem_append_left _ (List.mem_append_right _ h))
              refine WL.nil (WH.ret hSW451 (WH.done (by kernel_rfl) ?_))
              exact fun a ha => hJ336 (u434.2.2.1) (u434.2.2.2) ((seti l82 u425.1 (w64 (1 + u434.1)))) (y85) (y86) (v83) (F84) _ hF hB448 (hS449.sel [1, 0, 2, 3, 4, 5, 6, 7, 8, 9] rfl) a (ha.sub ⟨rfl, rfl, rfl, rfl, trivial⟩)
             ·
              obtain ⟨u453, hu453, hF⟩ := bindE hF
              refine wl_call rfl Try.call132 (C_spec_l1Cur__pick__mut__box w426 (x0.1, u425.2.2.1, u425.2.2.2) b0 v0_0 (h0_0.rsto (hS430.sel [1, 0] rfl)) 20 (hS430.sel [0] rfl).base0 _ hu453) rfl ?_
              rintro _ w454 ⟨rfl, hE455, hM456⟩
              refine ⟨_, rfl, ?_⟩
              have hB457 := hS430.takeB [0] rfl (M := [R.blk b0 131 [v0_0, (.int .i64 u425.2.2.1), (.int .u64 u425.2.2.2)]]) rfl hB429 hE455 hM456
              have hS458 : Sep (wE w0).heap.size w454 [R.blk b0 131 [v0_0, (.int .i64 u453.2.2.1), (.int .u64 u453.2.2.2)], R.rest w0 (fps [R.blk b0 131 [v0_0, (.int .i64 x0.2.1), (.int .u64 x0.2.2)]]), R.blk b2 53 [(.slice none 0 0), (.slice none 0 0), (.int .i64 0), (.int .i64 0)], R.blk b7 53 [(.slice none 0 0), (.slice none 0 0), (.int .i64 0), (.int .i64 0)], R.own ty_63 F20 v19 u13.1.1, R.own ty_3 F22 v21 u13.1.2.1, R.blk b23 53 [v19, v21, (.int .i64 u13.1.2.2.1), (.int .i64 u13.1.2.2.2)], R.own ty_63 F266 v265 l264, R.own ty_3 F84 v83 l82, R.blk b81 53 [v265, v83, (.int .i64 y85), (.int .i64 y86)]] := hS430.take [0] [1, 2, 3, 4, 5, 6, 7, 8, 9] rfl (M := [R.blk b0 131 [v0_0, (.int .i64 u425.2.2.1), (.int .u64 u425.2.2.2)]]) rfl hM456 hB429.size
              have hk459 := box_kept hM456
              have hSW460 := hSW432.wr' hk459.1 hk459.2.1 (hbs433)
              refine WL.nil (WH.ret hSW460 (WH.tk 9 rfl hP hSW460 (pr_add rfl rfl rfl (WH.on1 1 rfl (wl_load_blk (i := 9) (vs := [v83]) (v := v83) tf_29 rfl rfl hS458 rfl rfl rfl (WL.nil (WH.ret hSW460 (WH.on1 10 rfl ?_))))))))
              obtain ⟨u462, hu462, hF⟩ := bindE hF
              refine wl_indexoF (e := ty_3) (i := 8) Try.underlying29 rfl rfl rfl hS458 rfl hu462 ?_
              rintro p463 _ rfl hp464 ho465
              refine WL.nil (WH.ret hSW460 (WH.on1 11 rfl (wl_storeo (i := 8) (o := 0) (vs := [(.int .i64 (w64 (1 + u453.1)))]) (u' := (w64 (1 + u453.1))) fl_3 tf_3 rfl rfl rfl rfl ho465 hu462 hB457 hS458 rfl rfl ⟨rfl, trivial⟩ rfl ?_)))
              intro w466 hk469 hB467 hS468
              have hSW470 := hSW460.wr' hk469.1 hk469.2.1 (fun _ _ h => List.mem_append_left _ (List.mem_append_right _ h))
              refine WL.nil (WH.ret hSW470 (WH.done (by kernel_rfl) ?_))
              exact fun a ha => hJ336 (u453.2.2.1) (u453.2.2.2) ((seti l82 u425.1 (w64 (1 + u453.1)))) (y85) (y86) (v83) (F84) _ hF hB467 (hS468.sel [1, 0, 2, 3, 4, 5, 6, 7, 8, 9] rfl) a (ha.sub ⟨rfl, rfl, rfl, rfl, trivial⟩)
          ·replace hF := ifN h363 hF
           refine W.seq fun K472 hK472 => W.region (wl_eql rfl rfl rfl (wl_assign rfl rfl (WL.nil (fun a ha => hK472 _ _ (W.cond rfl (fun h473 => ?_) (fun h473 => ?_)) a ha))))
           ·replace hF := ifP h473 hF
            refine W.region (wl_move rfl rfl ?_)
            obtain ⟨u474, hu474, hF⟩ := bindE hF
            refine wl_call rfl Try.call132 (C_spec_l1Cur__pick__mut__box w357 (x0.1, u356.2.2.1, u356.2.2.2) b0 v0_0 (h0_0.rsto (hS361.sel [1, 0] rfl)) 20 (hS361.sel [0] rfl).base0 _ hu474) rfl ?_
            rintro _ w475 ⟨rfl, hE476, hM477⟩
            refine ⟨_, rfl, ?_⟩
            have hB478 := hS361.takeB [0] rfl (M := [R.blk b0 131 [v0_0, (.int .i64 u356.2.2.1), (.int .u64 u356.2.2.2)]]) rfl hB360 hE476 hM477
            have hS479 : Sep (wE w0).heap.size w475 [R.blk b0 131 [v0_0, (.int .i64 u474.2.2.1), (.int .u64 u474.2.2.2)], R.rest w0 (fps [R.blk b0 131 [v0_0, (.int .i64 x0.2.1), (.int .u64 x0.2.2)]]), R.blk b2 53 [(.slice none 0 0), (.slice none 0 0), (.int .i64 0), (.int .i64 0)], R.blk b7 53 [(.slice none 0 0), (.slice none 0 0), (.int .i64 0), (.int .i64 0)], R.own ty_63 F20 v19 u13.1.1, R.own ty_3 F22 v21 u13.1.2.1, R.blk b23 53 [v19, v21, (.int .i64 u13.1.2.2.1), (.int .i64 u13.1.2.2.2)], R.own ty_63 F266 v265 l264, R.own ty_3 F84 v83 l82, R.blk b81 53 [v265, v83, (.int .i64 y85), (.int .i64 y86)]] := hS361.take [0] [1, 2, 3, 4, 5, 6, 7, 8, 9] rfl (M := [R.blk b0 131 [v0_0, (.int .i64 u356.2.2.1), (.int .u64 u356.2.2.2)]]) rfl hM477 hB360.size
            refine wl_field (o := 2) (off' := 2) ff_53_2 rfl rfl rfl (wl_store_blk (i := 9) (vs := [(.int .i64 u474.1)]) (cs' := [v265, v83, (.int .i64 u474.1), (.int .i64 y86)]) tf_3 rfl rfl rfl rfl hB478 hS479 rfl rfl ⟨rfl, trivial⟩ rfl ?_)
            intro w480 hk483 hB481 hS482
            refine WL.nil ?_
            exact fun a ha => hJ336 (u474.2.2.1) (u474.2.2.2) (l82) (u474.1) (y86) (v83) (F84) _ hF hB481 (hS482.sel [1, 0, 2, 3, 4, 5, 6, 7, 8, 9] rfl) a (ha.sub ⟨rfl, rfl, rfl, rfl, trivial⟩)
           ·replace hF := ifN h473 hF
            refine W.seq fun K484 hK484 => W.region (wl_eql rfl rfl rfl (wl_assign rfl rfl (WL.nil (fun a ha => hK484 _ _ (W.cond rfl (fun h485 => ?_) (fun h485 => ?_)) a ha))))
            ·replace hF := ifP h485 hF
             refine W.region (wl_move rfl rfl ?_)
             obtain ⟨u486, hu486, hF⟩ := bindE hF
             refine wl_call rfl Try.call132 (C_spec_l1Cur__pick__mut__box w357 (x0.1, u356.2.2.1, u356.2.2.2) b0 v0_0 (h0_0.rsto (hS361.sel [1, 0] rfl)) 24 (hS361.sel [0] rfl).base0 _ hu486) rfl ?_
             rintro _ w487 ⟨rfl, hE488, hM489⟩
             refine ⟨_, rfl, ?_⟩
             have hB490 := hS361.takeB [0] rfl (M := [R.blk b0 131 [v0_0, (.int .i64 u356.2.2.1), (.int .u64 u356.2.2.2)]]) rfl hB360 hE488 hM489
             have hS491 : Sep (wE w0).heap.size w487 [R.blk b0 131 [v0_0, (.int .i64 u486.2.2.1), (.int .u64 u486.2.2.2)], R.rest w0 (fps [R.blk b0 131 [v0_0, (.int .i64 x0.2.1), (.int .u64 x0.2.2)]]), R.blk b2 53 [(.slice none 0 0), (.slice none 0 0), (.int .i64 0), (.int .i64 0)], R.blk b7 53 [(.slice none 0 0), (.slice none 0 0), (.int .i64 0), (.int .i64 0)], R.own ty_63 F20 v19 u13.1.1, R.own ty_3 F22 v21 u13.1.2.1, R.blk b23 53 [v19, v21, (.int .i64 u13.1.2.2.1), (.int .i64 u13.1.2.2.2)], R.own ty_63 F266 v265 l264, R.own ty_3 F84 v83 l82, R.blk b81 53 [v265, v83, (.int .i64 y85), (.int .i64 y86)]] := hS361.take [0] [1, 2, 3, 4, 5, 6, 7, 8, 9] rfl (M := [R.blk b0 131 [v0_0, (.int .i64 u356.2.2.1), (.int .u64 u356.2.2.2)]]) rfl hM489 hB360.size
             refine wl_add rfl rfl rfl (wl_field (o := 3) (off' := 3) ff_53_3 rfl rfl rfl (wl_store_blk (i := 9) (vs := [(.int .i64 (w64 (1 + u486.1)))]) (cs' := [v265, v83, (.int .i64 y85), (.int .i64 (w64 (1 + u486.1)))]) tf_3 rfl rfl rfl rfl hB490 hS491 rfl rfl ⟨rfl, trivial⟩ rfl ?_))
             intro w492 hk495 hB493 hS494
             refine WL.nil ?_
             exact fun a ha => hJ336 (u486.2.2.1) (u486.2.2.2) (l82) (y85) ((w64 (1 + u486.1))) (v83) (F84) _ hF hB493 (hS494.sel [1, 0, 2, 3, 4, 5, 6, 7, 8, 9] rfl) a (ha.sub ⟨rfl, rfl, rfl, rfl, trivial⟩)
            ·replace hF := ifN h485 hF
             refine W.skip ?_
             exact fun a ha => hJ336 (u356.2.2.1) (u356.2.2.2) (l82) (y85) (y86) (v83) (F84) _ hF hB360 (hS361.sel [1, 0, 2, 3, 4, 5, 6, 7, 8, 9] rfl) a (ha.sub ⟨rfl, rfl, rfl, rfl, trivial⟩)
   refine W.regionH mixed_ [] hB35 hS36 ?_
   intro w496 hb497 hB498 hS499
   have hSW500 := KeepX.refl w496 []
   refine WH.tk 0 rfl hP hSW500 (pr_field (o := 1) (off' := 1) ff_53_1 rfl rfl rfl (WH.tk 1 rfl hP hSW500 (pr_load_blk (i := 6) (vs := [v21]) (v := v21) tf_29 rfl rfl hS499 rfl rfl rfl (by simp) (WH.tk 3 rfl hP hSW500 (pr_field (o := 2) (off' := 2) ff_53_2 rfl rfl rfl (WH.tk 4 rfl hP hSW500 (pr_load_blk (i := 6) (vs := [(.int .i64 u13.1.2.2.1)]) (v := (.int .i64 u13.1.2.2.1)) tf_3 rfl rfl hS499 rfl rfl rfl (by simp) (WH.tk 5 rfl hP hSW500 (pr_field (o := 3) (off' := 3) ff_53_3 rfl rfl rfl (WH.tk 6 rfl hP hSW500 (pr_load_blk (i := 6) (vs := [(.int .i64 u13.1.2.2.2)]) (v := (.int .i64 u13.1.2.2.2)) tf_3 rfl rfl hS499 rfl rfl rfl (by simp) (WH.many (is := [2, 8]) (by kernel_rfl) rfl (List.forall_mem_cons.2 ⟨⟨_, rfl, ?_⟩, List.forall_mem_cons.2 ⟨⟨_, rfl, ?_⟩, fun _ h => by cases h⟩⟩)))))))))))))
   ·
    obtain ⟨u501, hu501, hF⟩ := bindE hF
    refine wl_call rfl Try.call216 (C_spec_l1Own w496 u13.1.2.1 v21 (hS499.own_ro (i := 5) rfl) _ hu501) rfl ?_
    rintro _ w504 ⟨v502, F503, rfl, hb505, hM508⟩
    refine ⟨_, rfl, ?_⟩
    have hB506 := hB498.trans (hb505.mono hB498.size)
    have hS507 := hS499.join hb505 hM508 hB498.size
    have hSW510 := hSW500.ext hb505
    refine WL.nil (WH.ret hSW510 (WH.tk 7 rfl hP hSW510 (pr_build (zs := [(.slice none 0 0), (.slice none 0 0), (.int .i64 0), (.int .i64 0)]) (out := [(.slice none 0 0), v502, (.int .i64 u13.1.2.2.1), (.int .i64 u13.1.2.2.2)]) (vs := [v502, (.int .i64 u13.1.2.2.1), (.int .i64 u13.1.2.2.2)]) (css := [[v502], [(.int .i64 u13.1.2.2.1)], [(.int .i64 u13.1.2.2.2)]]) tf_53 pl_53 rfl rfl (by simp only [List.map_cons, List.map_nil, cells_one ((hS507.own_ro (i := 0) rfl).one)] <;> rfl) rfl rfl (WH.on1 8 rfl (wl_alloc (cs := [(.slice none 0 0), (.slice none 0 0), (.int .i64 0), (.int .i64 0)]) tf_53 rfl rfl (Below.self w504) (Sep.nil _ _) ?_)))))
    intro b511 w512 hb513 hB516 hM517
    have hB514 := hB506.trans (hb513.mono hB506.size)
    have hS515 := hS507.join hb513 hM517 hB506.size
    have hn518 : ∀ b ∈ [b511], w496.heap.size ≤ b := fun b hb => Nat.le_trans hSW510.size ((hM517.1 _ (List.mem_cons_self ..)).2.1 b hb).1
    have hSW519 := hSW510.ext hb513
    refine WL.nil (WH.ret hSW519 (WH.on1 9 rfl (wl_store_blk (i := 0) (vs := [(.slice none 0 0), v502, (.int .i64 u13.1.2.2.1), (.int .i64 u13.1.2.2.2)]) (cs' := [(.slice none 0 0), v502, (.int .i64 u13.1.2.2.1), (.int .i64 u13.1.2.2.2)]) tf_53 rfl rfl rfl rfl hB514 hS515 rfl rfl ⟨rfl, (hS515.own_ro (i := 1) rfl).one, rfl, rfl, trivial⟩ rfl ?_)))
    intro w520 hk523 hB521 hS522
    have hSW524 := hSW519.wr' hk523.1 hk523.2.1 (fun b hlt hb => absurd hlt (Nat.not_lt.2 (hn518 b hb)))
    refine WL.nil (WH.ret hSW524 (WH.done (by kernel_rfl) ?_))
    exact fun a ha => hJ88 (u501) (u13.1.2.2.1) (u13.1.2.2.2) (v502) (F503) (b511) _ hF hB521 (hS522.sel [2, 3, 4, 5, 6, 7, 8, 1, 0] rfl) a (ha.sub ⟨rfl, rfl, rfl, rfl, rfl, trivial⟩)
   ·
    refine wl_alloc (cs := [(.slice none 0 0), (.slice none 0 0), (.int .i64 0), (.int .i64 0)]) tf_53 rfl rfl (Below.self w496) (Sep.nil _ _) ?_
    intro b526 w527 hb528 hB531 hM532
    have hB529 := hB498.trans (hb528.mono hB498.size)
    have hS530 := hS499.join hb528 hM532 hB498.size
    have hn533 : ∀ b ∈ [b526], w496.heap.size ≤ b := fun b hb => Nat.le_trans hSW500.size ((hM532.1 _ (List.mem_cons_self ..)).2.1 b hb).1
    have hSW534 := hSW500.ext hb528
    refine WL.nil (WH.ret hSW534 (WH.on1 2 rfl ?_))
    obtain ⟨u535, hu535, hF⟩ := bindE hF
    refine wl_call rfl Try.call216 (C_spec_l1Own w527 u13.1.2.1 v21 (hS530.own_ro (i := 6) rfl) _ hu535) rfl ?_
    rintro _ w538 ⟨v536, F537, rfl, hb539, hM542⟩
    refine ⟨_, rfl, ?_⟩
    have hB540 := hB529.trans (hb539.mono hB529.size)
    have hS541 := hS530.join hb539 hM542 hB529.size
    have hSW544 := hSW534.ext hb539
    refine WL.nil (WH.ret hSW544 (WH.tk 7 rfl hP hSW544 (pr_build (zs := [(.slice none 0 0), (.slice none 0 0), (.int .i64 0), (.int .i64 0)]) (out := [(.slice none 0 0), v536, (.int .i64 u13.1.2.2.1), (.int .i64 u13.1.2.2.2)]) (vs := [v536, (.int .i64 u13.1.2.2.1), (.int .i64 u13.1.2.2.2)]) (css := [[v536], [(.int .i64 u13.1.2.2.1)], [(.int .i64 u13.1.2.2.2)]]) tf_53 pl_53 rfl rfl (by simp only [List.map_cons, List.map_nil, cells_one ((hS541.own_ro (i := 0) rfl).one)] <;> rfl) rfl rfl (WH.on1 9 rfl (wl_store_blk (i := 1) (vs := [(.slice none 0 0), v536, (.int .i64 u13.1.2.2.1), (.int .i64 u13.1.2.2.2)]) (cs' := [(.slice none 0 0), v536, (.int .i64 u13.1.2.2.1), (.int .i64 u13.1.2.2.2)]) tf_53 rfl rfl rfl rfl hB540 hS541 rfl rfl ⟨rfl, (hS541.own_ro (i := 0) rfl).one, rfl, rfl, trivial⟩ rfl ?_)))))
    intro w545 hk548 hB546 hS547
    have hSW549 := hSW544.wr' hk548.1 hk548.2.1 (fun b hlt hb => absurd hlt (Nat.not_lt.2 (hn533 b hb)))
    refine WL.nil (WH.ret hSW549 (WH.done (by kernel_rfl) ?_))
    exact fun a ha => hJ88 (u535) (u13.1.2.2.1) (u13.1.2.2.2) (v536) (F537) (b526) _ hF hB546 (hS547.sel [2, 3, 4, 5, 6, 7, 8, 0, 1] rfl) a (ha.sub ⟨rfl, rfl, rfl, rfl, rfl, trivial⟩)
 refine W.region (wl_load_blk (i := 0) (vs := [v19, v21, (.int .i64 u13.1.2.2.1), (.int .i64 u13.1.2.2.2)]) (v := (.agg #[v19, v21, (.int .i64 u13.1.2.2.1), (.int .i64 u13.1.2.2.2)])) tf_53 rfl rfl hS30 rfl rfl rfl ?_)
 obtain ⟨u551, hu551, hF⟩ := bindE hF
 refine wl_call rfl Try.call145 (C_spec_swGood w28 u13.1 v19 (hS30.own_ro (i := 2) rfl) v21 (hS30.own_ro (i := 3) rfl) _ hu551) rfl ?_
 rintro _ w552 ⟨rfl, hb553⟩
 refine ⟨_, rfl, ?_⟩
 have hB554 := hB29.trans (hb553.mono hB29.size)
 have hS555 := hS30.below hb553
 refine wl_not rfl rfl (wl_move rfl rfl ?_)
 rcases bE (!u551) with h557 | h557
 ·replace hF := ifP h557 hF
  refine wl_off rfl rfl rfl h557 (wl_off rfl rfl rfl h557 (wl_pick_t rfl rfl h557 rfl (WL.nil ?_)))
  exact fun a ha => hJ41 (u13.2.2.1) (u13.2.2.2) (true) _ hF hB554 (hS555.sel [6, 1, 5, 4, 2, 3, 0] rfl) a (ha.sub ⟨rfl, rfl, rfl, rfl, rfl, trivial⟩)
 ·replace hF := ifN h557 hF
  refine wl_on rfl rfl h557 (wl_move rfl rfl (wl_on rfl rfl h557 ?_))
  obtain ⟨u558, hu558, hF⟩ := bindE hF
  refine wl_call rfl Try.call130 (C_spec_l1Cur__one__mut__box w552 (x0.1, u13.2.2.1, u13.2.2.2) b0 v0_0 (h0_0.rsto (hS555.sel [6, 1] rfl)) 4 (hS555.sel [1] rfl).base0 _ hu558) rfl ?_
  rintro _ w559 ⟨rfl, hE560, hM561⟩
  refine ⟨_, rfl, ?_⟩
  have hB562 := hS555.takeB [1] rfl (M := [R.blk b0 131 [v0_0, (.int .i64 u13.2.2.1), (.int .u64 u13.2.2.2)]]) rfl hB554 hE560 hM561
  have hS563 : Sep (wE w0).heap.size w559 [R.blk b0 131 [v0_0, (.int .i64 u558.2.2.1), (.int .u64 u558.2.2.2)], R.blk b23 53 [v19, v21, (.int .i64 u13.1.2.2.1), (.int .i64 u13.1.2.2.2)], R.own ty_63 F20 v19 u13.1.1, R.own ty_3 F22 v21 u13.1.2.1, R.blk b7 53 [(.slice none 0 0), (.slice none 0 0), (.int .i64 0), (.int .i64 0)], R.blk b2 53 [(.slice none 0 0), (.slice none 0 0), (.int .i64 0), (.int .i64 0)], R.rest w0 (fps [R.blk b0 131 [v0_0, (.int .i64 x0.2.1), (.int .u64 x0.2.2)]])] := hS555.take [1] [0, 2, 3, 4, 5, 6] rfl (M := [R.blk b0 131 [v0_0, (.int .i64 u13.2.2.1), (.int .u64 u13.2.2.2)]]) rfl hM561 hB554.size
  refine wl_pick_f rfl rfl h557 rfl (WL.nil ?_)
  exact fun a ha => hJ41 (u558.2.2.1) (u558.2.2.2) (u558.1) _ hF hB562 (hS563.sel [6, 0, 5, 4, 2, 3, 1] rfl) a (ha.sub ⟨rfl, rfl, rfl, rfl, rfl, trivial⟩)
theorem C_spec_DrawSameShows (w0 : World) (x0 : (List Int)) (v0_0 : Value) (h0_0 : rdS ty_5 (· < w0.heap.size) w0 v0_0 x0) (r : (((List (List (Int × Int))) × (List Int) × Int × Int) × ((List (List (Int × Int))) × (List Int) × Int × Int))) (hF : F_spec_DrawSameShows x0 = some r) :
  Calls Try.prog 143 [v0_0].toArray w0 fun e w' => ∃ (q0 : Value) (G0 : List Nat) (q1 : Value) (G1 : List Nat) (q2 : Value) (G2 : List Nat) (q3 : Value) (G3 : List Nat), e = .returned (.tuple #[(.agg #[q0, q1, (.int .i64 r.1.2.2.1), (.int .i64 r.1.2.2.2)]), (.agg #[q2, q3, (.int .i64 r.2.2.2.1), (.int .i64 r.2.2.2.2)])]) ∧ Below w0.heap.size w0 w' ∧ Sep w0.heap.size w' [R.own ty_63 G0 q0 r.1.1, R.own ty_3 G1 q1 r.1.2.1, R.own ty_63 G2 q2 r.2.1, R.own ty_3 G3 q3 r.2.2.1] := by
 refine calls_mk' Try.func143 rfl Try.ntmps143 rfl rfl fun Q hQ hP => ?_
 have hB : Below w0.heap.size w0 w0 := Below.refl _ _
 have hS : Sep w0.heap.size w0 [] := Sep.nil _ _
 unfold F_spec_DrawSameShows at hF
 refine W.seq fun K1 hK1 => W.region (wl_alloc (cs := [(.slice none 0 0), (.slice none 0 0), (.int .i64 0), (.int .i64 0)]) tf_53 rfl rfl hB hS ?_)
 intro b2 w3 hb4 hB5 hS6
 refine wl_alloc (cs := [(.slice none 0 0), (.slice none 0 0), (.int .i64 0), (.int .i64 0)]) tf_53 rfl rfl hB5 hS6 ?_
 intro b7 w8 hb9 hB10 hS11
 refine WL.nil fun a ha => hK1 _ _ (W.seq fun K12 hK12 => (W.region (wl_move rfl rfl (wl_build (zs := [(.slice none 0 0), (.int .i64 0), (.int .u64 0)]) (out := [v0_0, (.int .i64 0), (.int .u64 0)]) (vs := [v0_0]) (css := [[v0_0]]) tf_131 pl_131 rfl rfl (by simp only [List.map_cons, List.map_nil, cells_one ((h0_0.ro hB10).one)] <;> rfl) rfl rfl (wl_box (cs := [v0_0, (.int .i64 0), (.int .u64 0)]) rfl rfl rfl hB10 hS11 ?_))))) a ha
 intro b13 w14 hb15 hB16 hS17
 refine wl_assign rfl rfl (WL.nil (fun a ha => hK12 _ _ (W.seq fun K18 hK18 => (W.region (wl_move rfl rfl ?_))) a ha))
 obtain ⟨u19, hu19, hF⟩ := bindE hF
 refine wl_call rfl Try.call213 (C_spec_l1Cur__showsTwo__mut__box w14 (x0, 0, 0) b13 v0_0 (h0_0.oldo hB16 (hS17.sel [0] rfl)) (hS17.sel [0] rfl).base0 _ hu19) rfl ?_
 rintro _ w20 ⟨v25, F26, v27, F28, v29, F30, v31, F32, rfl, hE21, hM22⟩
 refine ⟨_, rfl, ?_⟩
 have hB23 := hS17.takeB [0] rfl (M := [R.blk b13 131 [v0_0, (.int .i64 0), (.int .u64 0)]]) rfl hB16 hE21 hM22
 have hS24 : Sep w0.heap.size w20 [R.blk b13 131 [v0_0, (.int .i64 u19.2.2.2.1), (.int .u64 u19.2.2.2.2)], R.own ty_63 F26 v25 u19.1.1, R.own ty_3 F28 v27 u19.1.2.1, R.own ty_63 F30 v29 u19.2.1.1, R.own ty_3 F32 v31 u19.2.1.2.1, R.blk b7 53 [(.slice none 0 0), (.slice none 0 0), (.int .i64 0), (.int .i64 0)], R.blk b2 53 [(.slice none 0 0), (.slice none 0 0), (.int .i64 0), (.int .i64 0)]] := hS17.take [0] [1, 2] rfl (M := [R.blk b13 131 [v0_0, (.int .i64 0), (.int .u64 0)]]) rfl hM22 hB16.size
 refine wl_extract rfl rfl rfl (wl_extract rfl rfl rfl (wl_store_blk (i := 6) (vs := [v25, v27, (.int .i64 u19.1.2.2.1), (.int .i64 u19.1.2.2.2)]) (cs' := [v25, v27, (.int .i64 u19.1.2.2.1), (.int .i64 u19.1.2.2.2)]) tf_53 rfl rfl rfl rfl hB23 hS24 rfl rfl ⟨(hS24.own_ro (i := 1) rfl).one, (hS24.own_ro (i := 2) rfl).one, rfl, rfl, trivial⟩ rfl ?_))
 intro w33 hk36 hB34 hS35
 refine wl_store_blk (i := 5) (vs := [v29, v31, (.int .i64 u19.2.1.2.2.1), (.int .i64 u19.2.1.2.2.2)]) (cs' := [v29, v31, (.int .i64 u19.2.1.2.2.1), (.int .i64 u19.2.1.2.2.2)]) tf_53 rfl rfl rfl rfl hB34 hS35 rfl rfl ⟨(hS35.own_ro (i := 3) rfl).one, (hS35.own_ro (i := 4) rfl).one, rfl, rfl, trivial⟩ rfl ?_
 intro w37 hk40 hB38 hS39
 refine WL.nil fun a ha => hK18 _ _ (W.ret ?_) a ha
 have hr := Option.some.inj hF
 subst hr
 exact rets (vs := [(.agg #[v25, v27, (.int .i64 u19.1.2.2.1), (.int .i64 u19.1.2.2.2)]), (.agg #[v29, v31, (.int .i64 u19.2.1.2.2.1), (.int .i64 u19.2.1.2.2.2)])]) hQ rfl ⟨rv_cell (i := 6) tf_53 rfl hS39 rfl rfl rfl, rv_cell (i := 5) tf_53 rfl hS39 rfl rfl rfl, trivial⟩ ⟨v25, F26, v27, F28, v29, F30, v31, F32, rfl, hB38, hS39.sel [1, 2, 3, 4] rfl⟩
theorem C_spec_DrawDifferentCharts (w0 : World) (x0 : (List Int)) (v0_0 : Value) (h0_0 : rdS ty_5 (· < w0.heap.size) w0 v0_0 x0) (r : (((List (List (Int × Int))) × (List Int) × Int × Int) × ((List (List (Int × Int))) × (List Int) × Int × Int))) (hF : F_spec_DrawDifferentCharts x0 = some r) :
  Calls Try.prog 34 [v0_0].toArray w0 fun e w' => ∃ (q0 : Value) (G0 : List Nat) (q1 : Value) (G1 : List Nat) (q2 : Value) (G2 : List Nat) (q3 : Value) (G3 : List Nat), e = .returned (.tuple #[(.agg #[q0, q1, (.int .i64 r.1.2.2.1), (.int .i64 r.1.2.2.2)]), (.agg #[q2, q3, (.int .i64 r.2.2.2.1), (.int .i64 r.2.2.2.2)])]) ∧ Below w0.heap.size w0 w' ∧ Sep w0.heap.size w' [R.own ty_63 G0 q0 r.1.1, R.own ty_3 G1 q1 r.1.2.1, R.own ty_63 G2 q2 r.2.1, R.own ty_3 G3 q3 r.2.2.1] := by
 refine calls_mk' Try.func34 rfl Try.ntmps34 rfl rfl fun Q hQ hP => ?_
 have hB : Below w0.heap.size w0 w0 := Below.refl _ _
 have hS : Sep w0.heap.size w0 [] := Sep.nil _ _
 unfold F_spec_DrawDifferentCharts at hF
 refine W.seq fun K1 hK1 => W.region (wl_alloc (cs := [(.slice none 0 0), (.slice none 0 0), (.int .i64 0), (.int .i64 0)]) tf_53 rfl rfl hB hS ?_)
 intro b2 w3 hb4 hB5 hS6
 refine wl_alloc (cs := [(.slice none 0 0), (.slice none 0 0), (.int .i64 0), (.int .i64 0)]) tf_53 rfl rfl hB5 hS6 ?_
 intro b7 w8 hb9 hB10 hS11
 refine WL.nil fun a ha => hK1 _ _ (W.seq fun K12 hK12 => (W.region (wl_move rfl rfl ?_))) a ha
 obtain ⟨u13, hu13, hF⟩ := bindE hF
 refine wl_call rfl Try.call143 (C_spec_DrawSameShows w8 x0 v0_0 (h0_0.ro hB10) _ hu13) rfl ?_
 rintro _ w22 ⟨v14, F15, v16, F17, v18, F19, v20, F21, rfl, hb23, hM26⟩
 refine ⟨_, rfl, ?_⟩
 have hB24 := hB10.trans (hb23.mono hB10.size)
 have hS25 := hS11.join hb23 hM26 hB10.size
 refine wl_extract rfl rfl rfl (wl_extract rfl rfl rfl (wl_store_blk (i := 5) (vs := [v14, v16, (.int .i64 u13.1.2.2.1), (.int .i64 u13.1.2.2.2)]) (cs' := [v14, v16, (.int .i64 u13.1.2.2.1), (.int .i64 u13.1.2.2.2)]) tf_53 rfl rfl rfl rfl hB24 hS25 rfl rfl ⟨(hS25.own_ro (i := 0) rfl).one, (hS25.own_ro (i := 1) rfl).one, rfl, rfl, trivial⟩ rfl ?_))
 intro w27 hk30 hB28 hS29
 refine wl_store_blk (i := 4) (vs := [v18, v20, (.int .i64 u13.2.2.2.1), (.int .i64 u13.2.2.2.2)]) (cs' := [v18, v20, (.int .i64 u13.2.2.2.1), (.int .i64 u13.2.2.2.2)]) tf_53 rfl rfl rfl rfl hB28 hS29 rfl rfl ⟨(hS29.own_ro (i := 2) rfl).one, (hS29.own_ro (i := 3) rfl).one, rfl, rfl, trivial⟩ rfl ?_
 intro w31 hk34 hB32 hS33
 refine WL.nil fun a ha => hK12 _ _ (W.ret ?_) a ha
 have hr := Option.some.inj hF
 subst hr
 exact rets (vs := [(.agg #[v14, v16, (.int .i64 u13.1.2.2.1), (.int .i64 u13.1.2.2.2)]), (.agg #[v18, v20, (.int .i64 u13.2.2.2.1), (.int .i64 u13.2.2.2.2)])]) hQ rfl ⟨rv_cell (i := 5) tf_53 rfl hS33 rfl rfl rfl, rv_cell (i := 4) tf_53 rfl hS33 rfl rfl rfl, trivial⟩ ⟨v14, F15, v16, F17, v18, F19, v20, F21, rfl, hB32, hS33.sel [0, 1, 2, 3] rfl⟩
theorem C_slices_Equal_impl_Spot_impl_Spot (w0 : World) (x0 : (List (Int × Int))) (v0_0 : Value) (h0_0 : rdS ty_68 (· < w0.heap.size) w0 v0_0 x0) (x1 : (List (Int × Int))) (v1_0 : Value) (h1_0 : rdS ty_68 (· < w0.heap.size) w0 v1_0 x1) (r : Bool) (hF : F_slices_Equal_impl_Spot_impl_Spot x0 x1 = some r) :
  Calls Try.prog 144 [v0_0, v1_0].toArray w0 fun e w' => e = .returned (.bool r) ∧ Below w0.heap.size w0 w' := by
 refine calls_mk' Try.func144 rfl Try.ntmps144 rfl rfl fun Q hQ hP => ?_
 have hB : Below w0.heap.size w0 w0 := Below.refl _ _
 have hS : Sep w0.heap.size w0 [] := Sep.nil _ _
 unfold F_slices_Equal_impl_Spot_impl_Spot at hF
 refine W.seq fun K1 hK1 => W.region (wl_assign rfl rfl (WL.nil (fun a ha => hK1 _ _ (W.seq fun K2 hK2 => (W.seq fun K3 hK3 => (W.region (wl_move rfl rfl (wl_lenr (e := ty_68) (l := x0) Try.underlying63 rfl rfl h0_0 (wl_move rfl rfl (wl_lenr (e := ty_68) (l := x1) Try.underlying63 rfl rfl h1_0 (wl_neq rfl rfl rfl (WL.nil ?_))))))))) a ha)))
 refine fun a ha => hK3 _ _ (W.cond rfl (fun h4 => ?_) (fun h4 => ?_)) a ha
 ·replace hF := ifP h4 hF
  refine W.seq fun K5 hK5 => W.region (wl_assign rfl rfl (WL.nil (fun a ha => hK5 _ _ (W.ret ?_) a ha)))
  have hr := Option.some.inj hF
  subst hr
  exact rets (vs := [(.bool false)]) hQ rfl ⟨rv_tmp rfl, trivial⟩ ⟨rfl, hB⟩
 ·replace hF := ifN h4 hF
  refine W.skip fun a ha => hK2 _ _ (W.seq fun K6 hK6 => (W.seq fun K7 hK7 => (W.region (wl_move rfl rfl (wl_lenr (e := ty_68) (l := x0) Try.underlying63 rfl rfl h0_0 (wl_move rfl rfl (WL.nil (fun a ha => hK7 _ _ (W.block (W.loopk (fun m a w8 => ∃ (y11 : Int), St 26 [(0, v0_0), (1, v1_0), (12, (.int .i64 (List.length x0 : Int))), (13, (.int .i64 y11))] a ∧ Below w0.heap.size w0 w8 ∧ Sep w0.heap.size w8 [] ∧ F_slices_Equal_impl_Spot_impl_Spot_L1 x0 x1 m y11 = some r) FU ?_ ?_)) a ha)))))))) a ha
  ·
   exact fun a ha => ⟨0, ha.sub ⟨rfl, rfl, rfl, rfl, trivial⟩, hB, (hS.sel [] rfl), hF⟩
  ·
   rintro m14 a w8 ⟨y11, ha, hB9, hS10, hF⟩ KL13 hKL13
   refine W.at ?_ ha
   cases m14 with
   | zero => exact noneE hF
   | succ m14 =>
    obtain ⟨nx12, hnx12⟩ : ∃ k, k = F_slices_Equal_impl_Spot_impl_Spot_L1 x0 x1 m14 := ⟨_, rfl⟩
    rw [F_slices_Equal_impl_Spot_impl_Spot_L1, ← hnx12] at hF
    refine W.seq fun K15 hK15 => W.region (wl_lss rfl rfl rfl (WL.nil (fun a ha => hK15 _ _ (W.seq fun K16 hK16 => (W.cond rfl (fun h17 => ?_) (fun h17 => ?_))) a ha)))
    ·replace hF := ifP h17 hF
     refine W.skip fun a ha => hK16 _ _ (W.seq fun K18 hK18 => (W.block (W.seq fun K19 hK19 => (W.region (wl_move rfl rfl (wl_assign rfl rfl (WL.nil (fun a ha => hK19 _ _ (W.seq fun K20 hK20 => (W.regionH mixed_ [] hB9 hS10 ?_)) a ha)))))))) a ha
     intro w21 hb22 hB23 hS24
     have hSW25 := KeepX.refl w21 []
     refine WH.tk 0 rfl hP hSW25 (pr_move rfl rfl (WH.tk 1 rfl hP hSW25 (pr_move rfl rfl ?_)))
     obtain ⟨u26, hu26, hF⟩ := bindE hF
     refine WH.tk 2 rfl hP hSW25 (pr_index (e := ty_68) Try.underlying63 rfl rfl rfl h0_0 hu26 ?_)
     rintro p27 _ rfl hp28
     refine WH.tk 3 rfl hP hSW25 (pr_load_p (vs := [(.int .i64 u26.1), (.int .i64 u26.2)]) (v := (.agg #[(.int .i64 u26.1), (.int .i64 u26.2)])) tf_68 rfl rfl (hp28.kx hB23 (by simp)) rfl rfl (WH.tk 4 rfl hP hSW25 (pr_move rfl rfl (WH.tk 5 rfl hP hSW25 (pr_move rfl rfl ?_)))))
     obtain ⟨u29, hu29, hF⟩ := bindE hF
     refine WH.tk 6 rfl hP hSW25 (pr_index (e := ty_68) Try.underlying63 rfl rfl rfl h1_0 hu29 ?_)
     rintro p30 _ rfl hp31
     refine WH.tk 7 rfl hP hSW25 (pr_load_p (vs := [(.int .i64 u29.1), (.int .i64 u29.2)]) (v := (.agg #[(.int .i64 u29.1), (.int .i64 u29.2)])) tf_68 rfl rfl (hp31.kx hB23 (by simp)) rfl rfl (WH.tk 8 rfl hP hSW25 (pr_nes Try.eqGuardType68 (eq_68 u26 u29) rfl rfl rfl (WH.done (by kernel_rfl) (fun a ha => hK20 _ _ (W.cond rfl (fun h32 => ?_) (fun h32 => ?_)) a ha)))))
     ·replace hF := ifP h32 hF
      refine W.seq fun K33 hK33 => W.region (wl_assign rfl rfl (WL.nil (fun a ha => hK33 _ _ (W.ret ?_) a ha)))
      have hr := Option.some.inj hF
      subst hr
      exact rets (vs := [(.bool false)]) hQ rfl ⟨rv_tmp rfl, trivial⟩ ⟨rfl, hB23⟩
     ·replace hF := ifN h32 hF
      refine W.skip fun a ha => hK18 _ _ (W.region (wl_add rfl rfl rfl (wl_move rfl rfl (WL.nil ?_)))) a ha
      rw [hnx12] at hF
      exact fun a ha => hKL13 a _ m14 (Nat.lt_succ_self m14) ⟨(w64 (y11 + 1)), ha.sub ⟨rfl, rfl, rfl, rfl, trivial⟩, hB23, (hS24.sel [] rfl), hF⟩
    ·replace hF := ifN h17 hF
     refine W.exit fun a ha => hK6 _ _ (W.seq fun K34 hK34 => (W.region (wl_assign rfl rfl (WL.nil (fun a ha => hK34 _ _ (W.ret ?_) a ha))))) a ha
     have hr := Option.some.inj hF
     subst hr
     exact rets (vs := [(.bool true)]) hQ rfl ⟨rv_tmp rfl, trivial⟩ ⟨rfl, hB9⟩
theorem C_impl_DifferentCharts (w0 : World) (x0 : ((List (List (Int × Int))) × (List Int) × Int × Int)) (v0_0 : Value) (h0_0 : rdS ty_63 (· < w0.heap.size) w0 v0_0 x0.1) (v0_1 : Value) (h0_1 : rdS ty_3 (· < w0.heap.size) w0 v0_1 x0.2.1) (x1 : ((List (List (Int × Int))) × (List Int) × Int × Int)) (v1_0 : Value) (h1_0 : rdS ty_63 (· < w0.heap.size) w0 v1_0 x1.1) (v1_1 : Value) (h1_1 : rdS ty_3 (· < w0.heap.size) w0 v1_1 x1.2.1) (r : ((List Int) × Bool)) (hF : F_impl_DifferentCharts x0 x1 = some r) :
  Calls Try.prog 35 [(.agg #[v0_0, v0_1, (.int .i64 x0.2.2.1), (.int .i64 x0.2.2.2)]), (.agg #[v1_0, v1_1, (.int .i64 x1.2.2.1), (.int .i64 x1.2.2.2)])].toArray w0 fun e w' => ∃ (q0 : Value) (G0 : List Nat), e = .returned (.tuple #[q0, (.bool r.2)]) ∧ Below w0.heap.size w0 w' ∧ Sep w0.heap.size w' [R.own ty_3 G0 q0 r.1] := by
 refine calls_mk' Try.func35 rfl Try.ntmps35 rfl rfl fun Q hQ hP => ?_
 have hB : Below w0.heap.size w0 w0 := Below.refl _ _
 have hS : Sep w0.heap.size w0 [] := Sep.nil _ _
 unfold F_impl_DifferentCharts at hF
 refine W.seq fun K1 hK1 => W.region (wl_box (cs := [v0_0, v0_1, (.int .i64 x0.2.2.1), (.int .i64 x0.2.2.2)]) rfl rfl rfl hB hS ?_)
 intro b2 w3 hb4 hB5 hS6
 refine wl_box (cs := [v1_0, v1_1, (.int .i64 x1.2.2.1), (.int .i64 x1.2.2.2)]) rfl rfl rfl hB5 hS6 ?_
 intro b7 w8 hb9 hB10 hS11
 refine wl_assign rfl rfl (wl_assign rfl rfl (WL.nil (fun a ha => hK1 _ _ (W.seq fun K12 hK12 => (W.seq fun K13 hK13 => ?_)) a ha)))
 obtain ⟨k18, hk18, hF⟩ := jE1 hF
 have hJ19 : ∀ (y17 : Bool) (w14 : World) (_ : k18 y17 = some r) (_ : Below w0.heap.size w0 w14) (_ : Sep w0.heap.size w14 [R.blk b2 53 [v0_0, v0_1, (.int .i64 x0.2.2.1), (.int .i64 x0.2.2.2)], R.blk b7 53 [v1_0, v1_1, (.int .i64 x1.2.2.1), (.int .i64 x1.2.2.2)]]), ∀ a, St 63 [(2, (.pointer (some ⟨b2, 0, none⟩))), (3, (.pointer (some ⟨b7, 0, none⟩))), (37, (.bool y17))] a → K13 a w14 := by
  intro y17 w14 hF hB15 hS16
  subst hk18
  refine fun a ha => hK13 _ _ (W.cond rfl (fun h20 => ?_) (fun h20 => ?_)) a ha
  ·replace hF := ifP h20 hF
   refine W.seq fun K21 hK21 => W.region (wl_assign rfl rfl (wl_assign rfl rfl (WL.nil (fun a ha => hK21 _ _ (W.ret ?_) a ha))))
   have hS22 := hS16.push0 (r := R.own ty_3 [] (.slice none 0 0) []) rfl fun _ => .inl ⟨rfl, rfl, rfl⟩
   have hr := Option.some.inj hF
   subst hr
   exact rets (vs := [(.slice none 0 0), (.bool false)]) hQ rfl ⟨rv_tmp rfl, rv_tmp rfl, trivial⟩ ⟨(.slice none 0 0), [], rfl, hB15, hS22.sel [0] rfl⟩
  ·replace hF := ifN h20 hF
   refine W.skip fun a ha => hK12 _ _ (W.seq fun K23 hK23 => (W.region (wl_lit (vs := []) (l := []) fl_3 Try.underlying29 rfl rfl rfl rfl rfl rfl hB15 hS16 ?_))) a ha
   intro v24 F25 w26 hb27 hB28 hS29
   refine wl_assign rfl rfl (WL.nil (fun a ha => hK23 _ _ (W.seq fun K30 hK30 => (W.seq fun K31 hK31 => (W.region (wl_field (o := 0) (off' := 0) ff_53_0 rfl rfl rfl (wl_load_blk (i := 1) (vs := [v0_0]) (v := v0_0) tf_51 rfl rfl hS29 rfl rfl rfl (wl_lenr (e := ty_63) (l := x0.1) Try.underlying51 rfl rfl h0_0 (wl_move rfl rfl (WL.nil (fun a ha => hK31 _ _ (W.block ?_) a ha))))))))) a ha))
   refine W.loopk (fun m a w32 => ∃ (l35 : (List Int)) (y38 : Int) (v36 : Value) (F37 : List Nat), St 63 [(2, (.pointer (some ⟨b2, 0, none⟩))), (3, (.pointer (some ⟨b7, 0, none⟩))), (6, v36), (41, (.int .i64 (List.length x0.1 : Int))), (42, (.int .i64 y38))] a ∧ Below w0.heap.size w0 w32 ∧ Sep w0.heap.size w32 [R.blk b2 53 [v0_0, v0_1, (.int .i64 x0.2.2.1), (.int .i64 x0.2.2.2)], R.blk b7 53 [v1_0, v1_1, (.int .i64 x1.2.2.1), (.int .i64 x1.2.2.2)], R.own ty_3 F37 v36 l35] ∧ F_impl_DifferentCharts_L1 x0 x1 m l35 y38 = some r) FU ?_ ?_
   ·
    exact fun a ha => ⟨[], 0, v24, F25, ha.sub ⟨rfl, rfl, rfl, rfl, rfl, trivial⟩, hB28, (hS29.sel [1, 2, 0] rfl), hF⟩
   ·
    rintro m41 a w32 ⟨l35, y38, v36, F37, ha, hB33, hS34, hF⟩ KL40 hKL40
    refine W.at ?_ ha
    cases m41 with
    | zero => exact noneE hF
    | succ m41 =>
     obtain ⟨nx39, hnx39⟩ : ∃ k, k = F_impl_DifferentCharts_L1 x0 x1 m41 := ⟨_, rfl⟩
     rw [F_impl_DifferentCharts_L1, ← hnx39] at hF
     refine W.seq fun K42 hK42 => W.region (wl_lss rfl rfl rfl (WL.nil (fun a ha => hK42 _ _ (W.seq fun K43 hK43 => (W.cond rfl (fun h44 => ?_) (fun h44 => ?_))) a ha)))
     ·replace hF := ifP h44 hF
      refine W.skip fun a ha => hK43 _ _ (W.seq fun K45 hK45 => ?_) a ha
      obtain ⟨k52, hk52, hF⟩ := jE1 hF
      have hJ53 : ∀ (l49 : (List Int)) (v50 : Value) (F51 : List Nat) (w46 : World) (_ : k52 l49 = some r) (_ : Below w0.heap.size w0 w46) (_ : Sep w0.heap.size w46 [R.blk b2 53 [v0_0, v0_1, (.int .i64 x0.2.2.1), (.int .i64 x0.2.2.2)], R.blk b7 53 [v1_0, v1_1, (.int .i64 x1.2.2.1), (.int .i64 x1.2.2.2)], R.own ty_3 F51 v50 l49]), ∀ a, St 63 [(2, (.pointer (some ⟨b2, 0, none⟩))), (3, (.pointer (some ⟨b7, 0, none⟩))), (6, v50), (41, (.int .i64 (List.length x0.1 : Int))), (42, (.int .i64 y38))] a → K45 a w46 := by
       intro l49 v50 F51 w46 hF hB47 hS48
       subst hk52
       refine fun a ha => hK45 _ _ (W.region (wl_add rfl rfl rfl (wl_move rfl rfl (WL.nil ?_)))) a ha
       rw [hnx39] at hF
       exact fun a ha => hKL40 a _ m41 (Nat.lt_succ_self m41) ⟨l49, (w64 (y38 + 1)), v50, F51, ha.sub ⟨rfl, rfl, rfl, rfl, rfl, trivial⟩, hB47, (hS48.sel [0, 1, 2] rfl), hF⟩
      refine W.block (W.seq fun K54 hK54 => (W.region (wl_move rfl rfl (wl_assign rfl rfl (WL.nil (fun a ha => hK54 _ _ (W.seq fun K55 hK55 => (W.regionH mixed_ [] hB33 hS34 ?_)) a ha))))))
      intro w56 hb57 hB58 hS59
      have hSW60 := KeepX.refl w56 []
      refine WH.tk 0 rfl hP hSW60 (pr_field (o := 0) (off' := 0) ff_53_0 rfl rfl rfl (WH.tk 1 rfl hP hSW60 (pr_load_blk (i := 0) (vs := [v0_0]) (v := v0_0) tf_51 rfl rfl hS59 rfl rfl rfl (by simp) (WH.tk 2 rfl hP hSW60 (pr_move rfl rfl ?_)))))
      obtain ⟨u61, hu61, hF⟩ := bindE hF
      refine WH.tk 3 rfl hP hSW60 (pr_index (e := ty_63) Try.underlying51 rfl rfl rfl h0_0 hu61 ?_)
      rintro p62 _ ⟨v64, rfl, hv65⟩ hp63
      refine WH.tk 4 rfl hP hSW60 (pr_load_p (vs := [v64]) (v := v64) tf_63 rfl rfl (hp63.kx hB58 (by simp)) rfl rfl (WH.tk 5 rfl hP hSW60 (pr_field (o := 0) (off' := 0) ff_53_0 rfl rfl rfl (WH.tk 6 rfl hP hSW60 (pr_load_blk (i := 1) (vs := [v1_0]) (v := v1_0) tf_51 rfl rfl hS59 rfl rfl rfl (by simp) (WH.tk 7 rfl hP hSW60 (pr_move rfl rfl ?_)))))))
      obtain ⟨u66, hu66, hF⟩ := bindE hF
      refine WH.tk 8 rfl hP hSW60 (pr_index (e := ty_63) Try.underlying51 rfl rfl rfl h1_0 hu66 ?_)
      rintro p67 _ ⟨v69, rfl, hv70⟩ hp68
      refine WH.tk 9 rfl hP hSW60 (pr_load_p (vs := [v69]) (v := v69) tf_63 rfl rfl (hp68.kx hB58 (by simp)) rfl rfl (WH.on1 10 rfl ?_))
      obtain ⟨u71, hu71, hF⟩ := bindE hF
      refine wl_call rfl Try.call144 (C_slices_Equal_impl_Spot_impl_Spot w56 u61 v64 (hv65.ro hB58) u66 v69 (hv70.ro hB58) _ hu71) rfl ?_
      rintro _ w72 ⟨rfl, hb73⟩
      refine ⟨_, rfl, ?_⟩
      have hB74 := hB58.trans (hb73.mono hB58.size)
      have hS75 := hS59.below hb73
      have hSW77 := hSW60.ext hb73
      refine WL.nil (WH.ret hSW77 (WH.tk 11 rfl hP hSW77 (pr_not rfl rfl (WH.done (by kernel_rfl) (fun a ha => hK55 _ _ (W.cond rfl (fun h78 => ?_) (fun h78 => ?_)) a ha)))))
      ·replace hF := ifP h78 hF
       refine W.region (wl_move rfl rfl (wl_move rfl rfl (wl_lit (vs := [(.int .i64 y38)]) (l := [y38]) fl_3 Try.underlying29 rfl rfl rfl rfl rfl rfl hB74 hS75 ?_)))
       intro v79 F80 w81 hb82 hB83 hS84
       obtain ⟨u85, hu85, hF⟩ := bindE hF
       refine wl_append (i := 3) (S := (· < w81.heap.size)) fl_3 Try.underlying29 rfl rfl rfl hB83 hS84 rfl (hS84.own_ro (i := 0) rfl) hu85 ?_
       intro v86 F87 w88 hk89 hB90 hS91
       refine wl_assign rfl rfl (WL.nil ?_)
       exact fun a ha => hJ53 (u85) (v86) (F87) _ hF hB90 (hS91.sel [1, 2, 3] rfl) a (ha.sub ⟨rfl, rfl, rfl, rfl, rfl, trivial⟩)
      ·replace hF := ifN h78 hF
       refine W.skip ?_
       exact fun a ha => hJ53 (l35) (v36) (F37) _ hF hB74 (hS75.sel [0, 1, 2] rfl) a (ha.sub ⟨rfl, rfl, rfl, rfl, rfl, trivial⟩)
     ·replace hF := ifN h44 hF
      refine W.exit fun a ha => hK30 _ _ (W.seq fun K92 hK92 => (W.region (wl_move rfl rfl (wl_assign rfl rfl (wl_assign rfl rfl (WL.nil (fun a ha => hK92 _ _ (W.ret ?_) a ha))))))) a ha
      have hr := Option.some.inj hF
      subst hr
      exact rets (vs := [v36, (.bool true)]) hQ rfl ⟨rv_tmp rfl, rv_tmp rfl, trivial⟩ ⟨v36, F37, rfl, hB33, hS34.sel [2] rfl⟩
 refine W.regionH mixed_ [] hB10 hS11 ?_
 intro w93 hb94 hB95 hS96
 have hSW97 := KeepX.refl w93 []
 refine WH.tk 0 rfl hP hSW97 (pr_load_blk (i := 1) (vs := [v0_0, v0_1, (.int .i64 x0.2.2.1), (.int .i64 x0.2.2.2)]) (v := (.agg #[v0_0, v0_1, (.int .i64 x0.2.2.1), (.int .i64 x0.2.2.2)])) tf_53 rfl rfl hS96 rfl rfl rfl (by simp) (WH.on1 1 rfl ?_))
 obtain ⟨u98, hu98, hF⟩ := bindE hF
 refine wl_call rfl Try.call60 (C_impl_IsShow w93 x0 v0_0 (h0_0.ro hB95) v0_1 (h0_1.ro hB95) _ hu98) rfl ?_
 rintro _ w99 ⟨rfl, hb100⟩
 refine ⟨_, rfl, ?_⟩
 have hB101 := hB95.trans (hb100.mono hB95.size)
 have hS102 := hS96.below hb100
 have hSW104 := hSW97.ext hb100
 refine WL.nil (WH.ret hSW104 (WH.tk 2 rfl hP hSW104 (pr_not rfl rfl (WH.tk 3 rfl hP hSW104 (pr_move rfl rfl ?_)))))
 rcases bE (!u98) with h105 | h105
 ·replace hF := ifP h105 hF
  refine WH.off (i := 4) rfl (by kernel_rfl) (by kernel_rfl) (by kernel_rfl) hP rfl rfl h105 rfl hSW104 (WH.off (i := 5) rfl (by kernel_rfl) (by kernel_rfl) (by kernel_rfl) hP rfl rfl h105 rfl hSW104 (WH.off (i := 6) rfl (by kernel_rfl) (by kernel_rfl) (by kernel_rfl) hP rfl rfl h105 rfl hSW104 (WH.tk 7 rfl hP hSW104 (pr_pick_t rfl rfl h105 rfl (WH.tk 8 rfl hP hSW104 (pr_move rfl rfl (WH.off (i := 9) rfl (by kernel_rfl) (by kernel_rfl) (by kernel_rfl) hP rfl rfl rfl rfl hSW104 (WH.off (i := 10) rfl (by kernel_rfl) (by kernel_rfl) (by kernel_rfl) hP rfl rfl rfl rfl hSW104 (WH.off (i := 11) rfl (by kernel_rfl) (by kernel_rfl) (by kernel_rfl) hP rfl rfl rfl rfl hSW104 (WH.off (i := 12) rfl (by kernel_rfl) (by kernel_rfl) (by kernel_rfl) hP rfl rfl rfl rfl hSW104 (WH.off (i := 13) rfl (by kernel_rfl) (by kernel_rfl) (by kernel_rfl) hP rfl rfl rfl rfl hSW104 ?_)))))))))))
  refine WH.off (i := 14) rfl (by kernel_rfl) (by kernel_rfl) (by kernel_rfl) hP rfl rfl rfl rfl hSW104 (WH.off (i := 15) rfl (by kernel_rfl) (by kernel_rfl) (by kernel_rfl) hP rfl rfl rfl rfl hSW104 (WH.tk 16 rfl hP hSW104 (pr_pick_t rfl rfl rfl rfl (WH.tk 17 rfl hP hSW104 (pr_move rfl rfl (WH.off (i := 18) rfl (by kernel_rfl) (by kernel_rfl) (by kernel_rfl) hP rfl rfl rfl rfl hSW104 (WH.off (i := 19) rfl (by kernel_rfl) (by kernel_rfl) (by kernel_rfl) hP rfl rfl rfl rfl hSW104 (WH.off (i := 20) rfl (by kernel_rfl) (by kernel_rfl) (by kernel_rfl) hP rfl rfl rfl rfl hSW104 (WH.off (i := 21) rfl (by kernel_rfl) (by kernel_rfl) (by kernel_rfl) hP rfl rfl rfl rfl hSW104 (WH.off (i := 22) rfl (by kernel_rfl) (by kernel_rfl) (by kernel_rfl) hP rfl rfl rfl rfl hSW104 (WH.off (i := 23) rfl (by kernel_rfl) (by kernel_rfl) (by kernel_rfl) hP rfl rfl rfl rfl hSW104 ?_)))))))))))
  refine WH.off (i := 24) rfl (by kernel_rfl) (by kernel_rfl) (by kernel_rfl) hP rfl rfl rfl rfl hSW104 (WH.off (i := 25) rfl (by kernel_rfl) (by kernel_rfl) (by kernel_rfl) hP rfl rfl rfl rfl hSW104 (WH.off (i := 26) rfl (by kernel_rfl) (by kernel_rfl) (by kernel_rfl) hP rfl rfl rfl rfl hSW104 (WH.off (i := 27) rfl (by kernel_rfl) (by kernel_rfl) (by kernel_rfl) hP rfl rfl rfl rfl hSW104 (WH.off (i := 28) rfl (by kernel_rfl) (by kernel_rfl) (by kernel_rfl) hP rfl rfl rfl rfl hSW104 (WH.tk 29 rfl hP hSW104 (pr_pick_t rfl rfl rfl rfl (WH.done (by kernel_rfl) ?_)))))))
  exact fun a ha => hJ19 (true) _ hF hB101 (hS102.sel [1, 0] rfl) a (ha.sub ⟨rfl, rfl, rfl, trivial⟩)
 ·replace hF := ifN h105 hF
  refine WH.takexg (i := 4) rfl (by kernel_rfl) (by kernel_rfl) (by kernel_rfl) hP rfl rfl h105 hSW104 (pr_load_blk (i := 0) (vs := [v1_0, v1_1, (.int .i64 x1.2.2.1), (.int .i64 x1.2.2.2)]) (v := (.agg #[v1_0, v1_1, (.int .i64 x1.2.2.1), (.int .i64 x1.2.2.2)])) tf_53 rfl rfl hS96 rfl rfl rfl (by simp) (WH.on1 5 rfl (wl_on rfl rfl h105 ?_)))
  obtain ⟨u106, hu106, hF⟩ := bindE hF
  refine wl_call rfl Try.call60 (C_impl_IsShow w99 x1 v1_0 (h1_0.ro hB101) v1_1 (h1_1.ro hB101) _ hu106) rfl ?_
  rintro _ w107 ⟨rfl, hb108⟩
  refine ⟨_, rfl, ?_⟩
  have hB109 := hB101.trans (hb108.mono hB101.size)
  have hS110 := hS102.below hb108
  have hSW112 := hSW104.ext hb108
  refine WL.nil (WH.ret hSW112 (WH.takexg (i := 6) rfl (by kernel_rfl) (by kernel_rfl) (by kernel_rfl) hP rfl rfl h105 hSW112 (pr_not rfl rfl (WH.tk 7 rfl hP hSW112 (pr_pick_f rfl rfl h105 rfl (WH.tk 8 rfl hP hSW112 (pr_move rfl rfl ?_)))))))
  rcases bE (!u106) with h113 | h113
  ·replace hF := ifP h113 hF
   refine WH.off (i := 9) rfl (by kernel_rfl) (by kernel_rfl) (by kernel_rfl) hP rfl rfl h113 rfl hSW112 (WH.off (i := 10) rfl (by kernel_rfl) (by kernel_rfl) (by kernel_rfl) hP rfl rfl h113 rfl hSW112 (WH.off (i := 11) rfl (by kernel_rfl) (by kernel_rfl) (by kernel_rfl) hP rfl rfl h113 rfl hSW112 (WH.off (i := 12) rfl (by kernel_rfl) (by kernel_rfl) (by kernel_rfl) hP rfl rfl h113 rfl hSW112 (WH.off (i := 13) rfl (by kernel_rfl) (by kernel_rfl) (by kernel_rfl) hP rfl rfl h113 rfl hSW112 (WH.off (i := 14) rfl (by kernel_rfl) (by kernel_rfl) (by kernel_rfl) hP rfl rfl h113 rfl hSW112 (WH.off (i := 15) rfl (by kernel_rfl) (by kernel_rfl) (by kernel_rfl) hP rfl rfl h113 rfl hSW112 (WH.tk 16 rfl hP hSW112 (pr_pick_t rfl rfl h113 rfl (WH.tk 17 rfl hP hSW112 (pr_move rfl rfl (WH.off (i := 18) rfl (by kernel_rfl) (by kernel_rfl) (by kernel_rfl) hP rfl rfl rfl rfl hSW112 ?_)))))))))))
   refine WH.off (i := 19) rfl (by kernel_rfl) (by kernel_rfl) (by kernel_rfl) hP rfl rfl rfl rfl hSW112 (WH.off (i := 20) rfl (by kernel_rfl) (by kernel_rfl) (by kernel_rfl) hP rfl rfl rfl rfl hSW112 (WH.off (i := 21) rfl (by kernel_rfl) (by kernel_rfl) (by kernel_rfl) hP rfl rfl rfl rfl hSW112 (WH.off (i := 22) rfl (by kernel_rfl) (by kernel_rfl) (by kernel_rfl) hP rfl rfl rfl rfl hSW112 (WH.off (i := 23) rfl (by kernel_rfl) (by kernel_rfl) (by kernel_rfl) hP rfl rfl rfl rfl hSW112 (WH.off (i := 24) rfl (by kernel_rfl) (by kernel_rfl) (by kernel_rfl) hP rfl rfl rfl rfl hSW112 (WH.off (i := 25) rfl (by kernel_rfl) (by kernel_rfl) (by kernel_rfl) hP rfl rfl rfl rfl hSW112 (WH.off (i := 26) rfl (by kernel_rfl) (by kernel_rfl) (by kernel_rfl) hP rfl rfl rfl rfl hSW112 (WH.off (i := 27) rfl (by kernel_rfl) (by kernel_rfl) (by kernel_rfl) hP rfl rfl rfl rfl hSW112 ?_))))))))
   refine WH.off (i := 28) rfl (by kernel_rfl) (by kernel_rfl) (by kernel_rfl) hP rfl rfl rfl rfl hSW112 (WH.tk 29 rfl hP hSW112 (pr_pick_t rfl rfl rfl rfl (WH.done (by kernel_rfl) ?_)))
   exact fun a ha => hJ19 (true) _ hF hB109 (hS110.sel [1, 0] rfl) a (ha.sub ⟨rfl, rfl, rfl, trivial⟩)
  ·replace hF := ifN h113 hF
   refine WH.takexg (i := 9) rfl (by kernel_rfl) (by kernel_rfl) (by kernel_rfl) hP rfl rfl h113 hSW112 (pr_field (o := 0) (off' := 0) ff_53_0 rfl rfl rfl (WH.takexg (i := 10) rfl (by kernel_rfl) (by kernel_rfl) (by kernel_rfl) hP rfl rfl h113 hSW112 (pr_load_blk (i := 1) (vs := [v0_0]) (v := v0_0) tf_51 rfl rfl hS96 rfl rfl rfl (by simp) (WH.takexg (i := 11) rfl (by kernel_rfl) (by kernel_rfl) (by kernel_rfl) hP rfl rfl h113 hSW112 (pr_lenr (e := ty_63) (l := x0.1) Try.underlying51 rfl rfl h0_0 (WH.takexg (i := 12) rfl (by kernel_rfl) (by kernel_rfl) (by kernel_rfl) hP rfl rfl h113 hSW112 (pr_field (o := 0) (off' := 0) ff_53_0 rfl rfl rfl (WH.takexg (i := 13) rfl (by kernel_rfl) (by kernel_rfl) (by kernel_rfl) hP rfl rfl h113 hSW112 (pr_load_blk (i := 0) (vs := [v1_0]) (v := v1_0) tf_51 rfl rfl hS96 rfl rfl rfl (by simp) ?_)))))))))
   refine WH.takexg (i := 14) rfl (by kernel_rfl) (by kernel_rfl) (by kernel_rfl) hP rfl rfl h113 hSW112 (pr_lenr (e := ty_63) (l := x1.1) Try.underlying51 rfl rfl h1_0 (WH.takexg (i := 15) rfl (by kernel_rfl) (by kernel_rfl) (by kernel_rfl) hP rfl rfl h113 hSW112 (pr_neq rfl rfl rfl (WH.tk 16 rfl hP hSW112 (pr_pick_f rfl rfl h113 rfl (WH.tk 17 rfl hP hSW112 (pr_move rfl rfl ?_)))))))
   rcases bE ((List.length x0.1 : Int) != (List.length x1.1 : Int)) with h114 | h114
   ·replace hF := ifP h114 hF
    refine WH.off (i := 18) rfl (by kernel_rfl) (by kernel_rfl) (by kernel_rfl) hP rfl rfl h114 rfl hSW112 (WH.off (i := 19) rfl (by kernel_rfl) (by kernel_rfl) (by kernel_rfl) hP rfl rfl h114 rfl hSW112 (WH.off (i := 20) rfl (by kernel_rfl) (by kernel_rfl) (by kernel_rfl) hP rfl rfl h114 rfl hSW112 (WH.off (i := 21) rfl (by kernel_rfl) (by kernel_rfl) (by kernel_rfl) hP rfl rfl h114 rfl hSW112 (WH.off (i := 22) rfl (by kernel_rfl) (by kernel_rfl) (by kernel_rfl) hP rfl rfl h114 rfl hSW112 (WH.off (i := 23) rfl (by kernel_rfl) (by kernel_rfl) (by kernel_rfl) hP rfl rfl h114 rfl hSW112 (WH.off (i := 24) rfl (by kernel_rfl) (by kernel_rfl) (by kernel_rfl) hP rfl rfl h114 rfl hSW112 (WH.off (i := 25) rfl (by kernel_rfl) (by kernel_rfl) (by kernel_rfl) hP rfl rfl h114 rfl hSW112 (WH.off (i := 26) rfl (by kernel_rfl) (by kernel_rfl) (by kernel_rfl) hP rfl rfl h114 rfl hSW112 ?_))))))))
    refine WH.off (i := 27) rfl (by kernel_rfl) (by kernel_rfl) (by kernel_rfl) hP rfl rfl h114 rfl hSW112 (WH.off (i := 28) rfl (by kernel_rfl) (by kernel_rfl) (by kernel_rfl) hP rfl rfl h114 rfl hSW112 (WH.tk 29 rfl hP hSW112 (pr_pick_t rfl rfl h114 rfl (WH.done (by kernel_rfl) ?_))))
    exact fun a ha => hJ19 (true) _ hF hB109 (hS110.sel [1, 0] rfl) a (ha.sub ⟨rfl, rfl, rfl, trivial⟩)
   ·replace hF := ifN h114 hF
    refine WH.takexg (i := 18) rfl (by kernel_rfl) (by kernel_rfl) (by kernel_rfl) hP rfl rfl h114 hSW112 (pr_field (o := 0) (off' := 0) ff_53_0 rfl rfl rfl (WH.takexg (i := 19) rfl (by kernel_rfl) (by kernel_rfl) (by kernel_rfl) hP rfl rfl h114 hSW112 (pr_load_blk (i := 1) (vs := [v0_0]) (v := v0_0) tf_51 rfl rfl hS96 rfl rfl rfl (by simp) ?_)))
    obtain ⟨u115, hu115, hF⟩ := bindE hF
    refine WH.takexg (i := 20) rfl (by kernel_rfl) (by kernel_rfl) (by kernel_rfl) hP rfl rfl h114 hSW112 (pr_index (e := ty_63) Try.underlying51 rfl rfl rfl h0_0 hu115 ?_)
    rintro p116 _ ⟨v118, rfl, hv119⟩ hp117
    refine WH.takexg (i := 21) rfl (by kernel_rfl) (by kernel_rfl) (by kernel_rfl) hP rfl rfl h114 hSW112 (pr_load_p (vs := [v118]) (v := v118) tf_63 rfl rfl (hp117.kx hB95 (by simp)) rfl rfl (WH.takexg (i := 22) rfl (by kernel_rfl) (by kernel_rfl) (by kernel_rfl) hP rfl rfl h114 hSW112 (pr_lenr (e := ty_68) (l := u115) Try.underlying63 rfl rfl hv119 (WH.takexg (i := 23) rfl (by kernel_rfl) (by kernel_rfl) (by kernel_rfl) hP rfl rfl h114 hSW112 (pr_field (o := 0) (off' := 0) ff_53_0 rfl rfl rfl (WH.takexg (i := 24) rfl (by kernel_rfl) (by kernel_rfl) (by kernel_rfl) hP rfl rfl h114 hSW112 (pr_load_blk (i := 0) (vs := [v1_0]) (v := v1_0) tf_51 rfl rfl hS96 rfl rfl rfl (by simp) ?_)))))))
    obtain ⟨u120, hu120, hF⟩ := bindE hF
    refine WH.takexg (i := 25) rfl (by kernel_rfl) (by kernel_rfl) (by kernel_rfl) hP rfl rfl h114 hSW112 (pr_index (e := ty_63) Try.underlying51 rfl rfl rfl h1_0 hu120 ?_)
    rintro p121 _ ⟨v123, rfl, hv124⟩ hp122
    refine WH.takexg (i := 26) rfl (by kernel_rfl) (by kernel_rfl) (by kernel_rfl) hP rfl rfl h114 hSW112 (pr_load_p (vs := [v123]) (v := v123) tf_63 rfl rfl (hp122.kx hB95 (by simp)) rfl rfl (WH.takexg (i := 27) rfl (by kernel_rfl) (by kernel_rfl) (by kernel_rfl) hP rfl rfl h114 hSW112 (pr_lenr (e := ty_68) (l := u120) Try.underlying63 rfl rfl hv124 (WH.takexg (i := 28) rfl (by kernel_rfl) (by kernel_rfl) (by kernel_rfl) hP rfl rfl h114 hSW112 (pr_neq rfl rfl rfl (WH.tk 29 rfl hP hSW112 (pr_pick_f rfl rfl h114 rfl (WH.done (by kernel_rfl) ?_))))))))
    exact fun a ha => hJ19 (((List.length u115 : Int) != (List.length u120 : Int))) _ hF hB109 (hS110.sel [1, 0] rfl) a (ha.sub ⟨rfl, rfl, rfl, trivial⟩)
theorem C_spec_mgSame (w0 : World) (x0 : (List (Int × Int))) (v0_0 : Value) (h0_0 : rdS ty_68 (· < w0.heap.size) w0 v0_0 x0) (x1 : (List (Int × Int))) (v1_0 : Value) (h1_0 : rdS ty_68 (· < w0.heap.size) w0 v1_0 x1) (r : Bool) (hF : F_spec_mgSame x0 x1 = some r) :
  Calls Try.prog 230 [v0_0, v1_0].toArray w0 fun e w' => e = .returned (.bool r) ∧ Below w0.heap.size w0 w' := by
 refine calls_mk' Try.func230 rfl Try.ntmps230 rfl rfl fun Q hQ hP => ?_
 have hB : Below w0.heap.size w0 w0 := Below.refl _ _
 have hS : Sep w0.heap.size w0 [] := Sep.nil _ _
 unfold F_spec_mgSame at hF
 refine W.seq fun K1 hK1 => W.region (wl_assign rfl rfl (WL.nil (fun a ha => hK1 _ _ (W.seq fun K2 hK2 => (W.seq fun K3 hK3 => (W.region (wl_move rfl rfl (wl_lenr (e := ty_68) (l := x0) Try.underlying63 rfl rfl h0_0 (wl_move rfl rfl (WL.nil (fun a ha => hK3 _ _ (W.block ?_) a ha)))))))) a ha)))
 refine W.loopk (fun m a w4 => ∃ (y7 : Int), St 21 [(1, v1_0), (7, v0_0), (8, (.int .i64 (List.length x0 : Int))), (9, (.int .i64 y7))] a ∧ Below w0.heap.size w0 w4 ∧ Sep w0.heap.size w4 [] ∧ F_spec_mgSame_L1 x0 x1 m y7 = some r) FU ?_ ?_
 ·
  exact fun a ha => ⟨0, ha.sub ⟨rfl, rfl, rfl, rfl, trivial⟩, hB, (hS.sel [] rfl), hF⟩
 ·
  rintro m10 a w4 ⟨y7, ha, hB5, hS6, hF⟩ KL9 hKL9
  refine W.at ?_ ha
  cases m10 with
  | zero => exact noneE hF
  | succ m10 =>
   obtain ⟨nx8, hnx8⟩ : ∃ k, k = F_spec_mgSame_L1 x0 x1 m10 := ⟨_, rfl⟩
   rw [F_spec_mgSame_L1, ← hnx8] at hF
   refine W.seq fun K11 hK11 => W.region (wl_lss rfl rfl rfl (WL.nil (fun a ha => hK11 _ _ (W.seq fun K12 hK12 => (W.cond rfl (fun h13 => ?_) (fun h13 => ?_))) a ha)))
   ·replace hF := ifP h13 hF
    refine W.skip fun a ha => hK12 _ _ (W.seq fun K14 hK14 => (W.block (W.seq fun K15 hK15 => (W.region (wl_move rfl rfl ?_))))) a ha
    obtain ⟨u16, hu16, hF⟩ := bindE hF
    refine wl_index (e := ty_68) Try.underlying63 rfl rfl rfl h0_0 hu16 ?_
    rintro p17 _ rfl hp18
    refine wl_load_p (vs := [(.int .i64 u16.1), (.int .i64 u16.2)]) (v := (.agg #[(.int .i64 u16.1), (.int .i64 u16.2)])) tf_68 rfl rfl (hp18.ro hB5) rfl rfl (wl_alloc (cs := [(.int .i64 0), (.int .i64 0)]) tf_68 rfl rfl hB5 hS6 ?_)
    intro b19 w20 hb21 hB22 hS23
    refine wl_assign rfl rfl (wl_store_blk (i := 0) (vs := [(.int .i64 u16.1), (.int .i64 u16.2)]) (cs' := [(.int .i64 u16.1), (.int .i64 u16.2)]) tf_68 rfl rfl rfl rfl hB22 hS23 rfl rfl ⟨rfl, rfl, trivial⟩ rfl ?_)
    intro w24 hk27 hB25 hS26
    refine WL.nil fun a ha => hK15 _ _ (W.seq fun K28 hK28 => (W.regionH mixed_ [] hB25 hS26 ?_)) a ha
    intro w29 hb30 hB31 hS32
    have hSW33 := KeepX.refl w29 []
    refine WH.tk 0 rfl hP hSW33 (pr_load_blk (i := 0) (vs := [(.int .i64 u16.1), (.int .i64 u16.2)]) (v := (.agg #[(.int .i64 u16.1), (.int .i64 u16.2)])) tf_68 rfl rfl hS32 rfl rfl rfl (by simp) (WH.tk 1 rfl hP hSW33 (pr_move rfl rfl (WH.tk 2 rfl hP hSW33 (pr_move rfl rfl ?_)))))
    obtain ⟨u34, hu34, hF⟩ := bindE hF
    refine WH.tk 3 rfl hP hSW33 (pr_index (e := ty_68) Try.underlying63 rfl rfl rfl h1_0 hu34 ?_)
    rintro p35 _ rfl hp36
    refine WH.tk 4 rfl hP hSW33 (pr_load_p (vs := [(.int .i64 u34.1), (.int .i64 u34.2)]) (v := (.agg #[(.int .i64 u34.1), (.int .i64 u34.2)])) tf_68 rfl rfl (hp36.kx hB31 (by simp)) rfl rfl (WH.tk 5 rfl hP hSW33 (pr_nes Try.eqGuardType68 (eq_68 u16 u34) rfl rfl rfl (WH.done (by kernel_rfl) (fun a ha => hK28 _ _ (W.cond rfl (fun h37 => ?_) (fun h37 => ?_)) a ha)))))
    ·replace hF := ifP h37 hF
     refine W.seq fun K38 hK38 => W.region (wl_assign rfl rfl (WL.nil (fun a ha => hK38 _ _ (W.ret ?_) a ha)))
     have hr := Option.some.inj hF
     subst hr
     exact rets (vs := [(.bool false)]) hQ rfl ⟨rv_tmp rfl, trivial⟩ ⟨rfl, hB31⟩
    ·replace hF := ifN h37 hF
     refine W.skip fun a ha => hK14 _ _ (W.region (wl_add rfl rfl rfl (wl_move rfl rfl (WL.nil ?_)))) a ha
     rw [hnx8] at hF
     exact fun a ha => hKL9 a _ m10 (Nat.lt_succ_self m10) ⟨(w64 (y7 + 1)), ha.sub ⟨rfl, rfl, rfl, rfl, trivial⟩, hB31, (hS32.sel [] rfl), hF⟩
   ·replace hF := ifN h13 hF
    refine W.exit fun a ha => hK2 _ _ (W.seq fun K39 hK39 => (W.region (wl_assign rfl rfl (WL.nil (fun a ha => hK39 _ _ (W.ret ?_) a ha))))) a ha
    have hr := Option.some.inj hF
    subst hr
    exact rets (vs := [(.bool true)]) hQ rfl ⟨rv_tmp rfl, trivial⟩ ⟨rfl, hB5⟩
theorem C_spec_cpDifferent (w0 : World) (x0 : ((List (List (Int × Int))) × (List Int) × Int × Int)) (v0_0 : Value) (h0_0 : rdS ty_63 (· < w0.heap.size) w0 v0_0 x0.1) (v0_1 : Value) (h0_1 : rdS ty_3 (· < w0.heap.size) w0 v0_1 x0.2.1) (x1 : ((List (List (Int × Int))) × (List Int) × Int × Int)) (v1_0 : Value) (h1_0 : rdS ty_63 (· < w0.heap.size) w0 v1_0 x1.1) (v1_1 : Value) (h1_1 : rdS ty_3 (· < w0.heap.size) w0 v1_1 x1.2.1) (r : (List Int)) (hF : F_spec_cpDifferent x0 x1 = some r) :
  Calls Try.prog 146 [(.agg #[v0_0, v0_1, (.int .i64 x0.2.2.1), (.int .i64 x0.2.2.2)]), (.agg #[v1_0, v1_1, (.int .i64 x1.2.2.1), (.int .i64 x1.2.2.2)])].toArray w0 fun e w' => ∃ (q0 : Value) (G0 : List Nat), e = .returned q0 ∧ Below w0.heap.size w0 w' ∧ Sep w0.heap.size w' [R.own ty_3 G0 q0 r] := by
 refine calls_mk' Try.func146 rfl Try.ntmps146 rfl rfl fun Q hQ hP => ?_
 have hB : Below w0.heap.size w0 w0 := Below.refl _ _
 have hS : Sep w0.heap.size w0 [] := Sep.nil _ _
 unfold F_spec_cpDifferent at hF
 refine W.seq fun K1 hK1 => W.region (wl_box (cs := [v0_0, v0_1, (.int .i64 x0.2.2.1), (.int .i64 x0.2.2.2)]) rfl rfl rfl hB hS ?_)
 intro b2 w3 hb4 hB5 hS6
 refine wl_box (cs := [v1_0, v1_1, (.int .i64 x1.2.2.1), (.int .i64 x1.2.2.2)]) rfl rfl rfl hB5 hS6 ?_
 intro b7 w8 hb9 hB10 hS11
 refine wl_assign rfl rfl (WL.nil (fun a ha => hK1 _ _ (W.seq fun K12 hK12 => (W.region (wl_assign rfl rfl (WL.nil (fun a ha => hK12 _ _ (W.seq fun K13 hK13 => (W.seq fun K14 hK14 => (W.region (wl_field (o := 0) (off' := 0) ff_53_0 rfl rfl rfl (wl_load_blk (i := 1) (vs := [v0_0]) (v := v0_0) tf_51 rfl rfl hS11 rfl rfl rfl (wl_lenr (e := ty_63) (l := x0.1) Try.underlying51 rfl rfl h0_0 ?_)))))) a ha))))) a ha))
 refine wl_move rfl rfl (WL.nil (fun a ha => hK14 _ _ (W.block (W.loopk (fun m a w15 => ∃ (l18 : (List Int)) (y21 : Int) (v19 : Value) (F20 : List Nat), St 30 [(3, (.pointer (some ⟨b7, 0, none⟩))), (5, v19), (9, v0_0), (10, (.int .i64 (List.length x0.1 : Int))), (11, (.int .i64 y21))] a ∧ Below w0.heap.size w0 w15 ∧ Sep w0.heap.size w15 [R.blk b7 53 [v1_0, v1_1, (.int .i64 x1.2.2.1), (.int .i64 x1.2.2.2)], R.own ty_3 F20 v19 l18] ∧ F_spec_cpDifferent_L1 x0 x1 m l18 y21 = some r) FU ?_ ?_)) a ha))
 ·
  have hS23 := hS11.push0 (r := R.own ty_3 [] (.slice none 0 0) []) rfl fun _ => .inl ⟨rfl, rfl, rfl⟩
  exact fun a ha => ⟨[], 0, (.slice none 0 0), [], ha.sub ⟨rfl, rfl, rfl, rfl, rfl, trivial⟩, hB10, (hS23.sel [1, 0] rfl), hF⟩
 ·
  rintro m25 a w15 ⟨l18, y21, v19, F20, ha, hB16, hS17, hF⟩ KL24 hKL24
  refine W.at ?_ ha
  cases m25 with
  | zero => exact noneE hF
  | succ m25 =>
   obtain ⟨nx22, hnx22⟩ : ∃ k, k = F_spec_cpDifferent_L1 x0 x1 m25 := ⟨_, rfl⟩
   rw [F_spec_cpDifferent_L1, ← hnx22] at hF
   refine W.seq fun K26 hK26 => W.region (wl_lss rfl rfl rfl (WL.nil (fun a ha => hK26 _ _ (W.seq fun K27 hK27 => (W.cond rfl (fun h28 => ?_) (fun h28 => ?_))) a ha)))
   ·replace hF := ifP h28 hF
    refine W.skip fun a ha => hK27 _ _ (W.seq fun K29 hK29 => ?_) a ha
    obtain ⟨k36, hk36, hF⟩ := jE1 hF
    have hJ37 : ∀ (l33 : (List Int)) (v34 : Value) (F35 : List Nat) (w30 : World) (_ : k36 l33 = some r) (_ : Below w0.heap.size w0 w30) (_ : Sep w0.heap.size w30 [R.blk b7 53 [v1_0, v1_1, (.int .i64 x1.2.2.1), (.int .i64 x1.2.2.2)], R.own ty_3 F35 v34 l33]), ∀ a, St 30 [(3, (.pointer (some ⟨b7, 0, none⟩))), (5, v34), (9, v0_0), (10, (.int .i64 (List.length x0.1 : Int))), (11, (.int .i64 y21))] a → K29 a w30 := by
     intro l33 v34 F35 w30 hF hB31 hS32
     subst hk36
     refine fun a ha => hK29 _ _ (W.region (wl_add rfl rfl rfl (wl_move rfl rfl (WL.nil ?_)))) a ha
     rw [hnx22] at hF
     exact fun a ha => hKL24 a _ m25 (Nat.lt_succ_self m25) ⟨l33, (w64 (y21 + 1)), v34, F35, ha.sub ⟨rfl, rfl, rfl, rfl, rfl, trivial⟩, hB31, (hS32.sel [0, 1] rfl), hF⟩
    refine W.block (W.seq fun K38 hK38 => (W.region (wl_move rfl rfl ?_)))
    obtain ⟨u39, hu39, hF⟩ := bindE hF
    refine wl_index (e := ty_63) Try.underlying51 rfl rfl rfl h0_0 hu39 ?_
    rintro p40 _ ⟨v42, rfl, hv43⟩ hp41
    refine wl_load_p (vs := [v42]) (v := v42) tf_63 rfl rfl (hp41.ro hB16) rfl rfl (wl_assign rfl rfl (wl_assign rfl rfl (WL.nil (fun a ha => hK38 _ _ (W.seq fun K44 hK44 => (W.region (wl_move rfl rfl (wl_field (o := 0) (off' := 0) ff_53_0 rfl rfl rfl (wl_load_blk (i := 0) (vs := [v1_0]) (v := v1_0) tf_51 rfl rfl hS17 rfl rfl rfl (wl_move rfl rfl ?_)))))) a ha))))
    obtain ⟨u45, hu45, hF⟩ := bindE hF
    refine wl_index (e := ty_63) Try.underlying51 rfl rfl rfl h1_0 hu45 ?_
    rintro p46 _ ⟨v48, rfl, hv49⟩ hp47
    refine wl_load_p (vs := [v48]) (v := v48) tf_63 rfl rfl (hp47.ro hB16) rfl rfl ?_
    obtain ⟨u50, hu50, hF⟩ := bindE hF
    refine wl_call rfl Try.call230 (C_spec_mgSame w15 u39 v42 (hv43.ro hB16) u45 v48 (hv49.ro hB16) _ hu50) rfl ?_
    rintro _ w51 ⟨rfl, hb52⟩
    refine ⟨_, rfl, ?_⟩
    have hB53 := hB16.trans (hb52.mono hB16.size)
    have hS54 := hS17.below hb52
    refine wl_not rfl rfl (WL.nil (fun a ha => hK44 _ _ (W.cond rfl (fun h56 => ?_) (fun h56 => ?_)) a ha))
    ·replace hF := ifP h56 hF
     refine W.region (wl_move rfl rfl (wl_move rfl rfl (wl_lit (vs := [(.int .i64 y21)]) (l := [y21]) fl_3 Try.underlying29 rfl rfl rfl rfl rfl rfl hB53 hS54 ?_)))
     intro v57 F58 w59 hb60 hB61 hS62
     obtain ⟨u63, hu63, hF⟩ := bindE hF
     refine wl_append (i := 2) (S := (· < w59.heap.size)) fl_3 Try.underlying29 rfl rfl rfl hB61 hS62 rfl (hS62.own_ro (i := 0) rfl) hu63 ?_
     intro v64 F65 w66 hk67 hB68 hS69
     refine wl_assign rfl rfl (WL.nil ?_)
     exact fun a ha => hJ37 (u63) (v64) (F65) _ hF hB68 (hS69.sel [1, 2] rfl) a (ha.sub ⟨rfl, rfl, rfl, rfl, rfl, trivial⟩)
    ·replace hF := ifN h56 hF
     refine W.skip ?_
     exact fun a ha => hJ37 (l18) (v19) (F20) _ hF hB53 (hS54.sel [0, 1] rfl) a (ha.sub ⟨rfl, rfl, rfl, rfl, rfl, trivial⟩)
   ·replace hF := ifN h28 hF
    refine W.exit fun a ha => hK13 _ _ (W.seq fun K70 hK70 => (W.region (wl_move rfl rfl (wl_assign rfl rfl (WL.nil (fun a ha => hK70 _ _ (W.ret ?_) a ha)))))) a ha
    have hr := Option.some.inj hF
    subst hr
    exact rets (vs := [v19]) hQ rfl ⟨rv_tmp rfl, trivial⟩ ⟨v19, F20, rfl, hB16, hS17.sel [1] rfl⟩
theorem C_spec_DifferentCharts (w0 : World) (x0 : ((List (List (Int × Int))) × (List Int) × Int × Int)) (v0_0 : Value) (h0_0 : rdS ty_63 (· < w0.heap.size) w0 v0_0 x0.1) (v0_1 : Value) (h0_1 : rdS ty_3 (· < w0.heap.size) w0 v0_1 x0.2.1) (x1 : ((List (List (Int × Int))) × (List Int) × Int × Int)) (v1_0 : Value) (h1_0 : rdS ty_63 (· < w0.heap.size) w0 v1_0 x1.1) (v1_1 : Value) (h1_1 : rdS ty_3 (· < w0.heap.size) w0 v1_1 x1.2.1) (r : ((List Int) × Bool)) (hF : F_spec_DifferentCharts x0 x1 = some r) :
  Calls Try.prog 36 [(.agg #[v0_0, v0_1, (.int .i64 x0.2.2.1), (.int .i64 x0.2.2.2)]), (.agg #[v1_0, v1_1, (.int .i64 x1.2.2.1), (.int .i64 x1.2.2.2)])].toArray w0 fun e w' => ∃ (q0 : Value) (G0 : List Nat), e = .returned (.tuple #[q0, (.bool r.2)]) ∧ Below w0.heap.size w0 w' ∧ Sep w0.heap.size w' [R.own ty_3 G0 q0 r.1] := by
 refine calls_mk' Try.func36 rfl Try.ntmps36 rfl rfl fun Q hQ hP => ?_
 have hB : Below w0.heap.size w0 w0 := Below.refl _ _
 have hS : Sep w0.heap.size w0 [] := Sep.nil _ _
 unfold F_spec_DifferentCharts at hF
 refine W.seq fun K1 hK1 => W.region (wl_box (cs := [v0_0, v0_1, (.int .i64 x0.2.2.1), (.int .i64 x0.2.2.2)]) rfl rfl rfl hB hS ?_)
 intro b2 w3 hb4 hB5 hS6
 refine wl_box (cs := [v1_0, v1_1, (.int .i64 x1.2.2.1), (.int .i64 x1.2.2.2)]) rfl rfl rfl hB5 hS6 ?_
 intro b7 w8 hb9 hB10 hS11
 refine wl_assign rfl rfl (wl_assign rfl rfl (WL.nil (fun a ha => hK1 _ _ (W.seq fun K12 hK12 => (W.seq fun K13 hK13 => ?_)) a ha)))
 obtain ⟨k18, hk18, hF⟩ := jE1 hF
 have hJ19 : ∀ (y17 : Bool) (w14 : World) (_ : k18 y17 = some r) (_ : Below w0.heap.size w0 w14) (_ : Sep w0.heap.size w14 [R.blk b2 53 [v0_0, v0_1, (.int .i64 x0.2.2.1), (.int .i64 x0.2.2.2)], R.blk b7 53 [v1_0, v1_1, (.int .i64 x1.2.2.1), (.int .i64 x1.2.2.2)]]), ∀ a, St 39 [(2, (.pointer (some ⟨b2, 0, none⟩))), (3, (.pointer (some ⟨b7, 0, none⟩))), (35, (.bool y17))] a → K13 a w14 := by
  intro y17 w14 hF hB15 hS16
  subst hk18
  refine fun a ha => hK13 _ _ (W.cond rfl (fun h20 => ?_) (fun h20 => ?_)) a ha
  ·replace hF := ifP h20 hF
   refine W.seq fun K21 hK21 => W.region (wl_assign rfl rfl (wl_assign rfl rfl (WL.nil (fun a ha => hK21 _ _ (W.ret ?_) a ha))))
   have hS22 := hS16.push0 (r := R.own ty_3 [] (.slice none 0 0) []) rfl fun _ => .inl ⟨rfl, rfl, rfl⟩
   have hr := Option.some.inj hF
   subst hr
   exact rets (vs := [(.slice none 0 0), (.bool false)]) hQ rfl ⟨rv_tmp rfl, rv_tmp rfl, trivial⟩ ⟨(.slice none 0 0), [], rfl, hB15, hS22.sel [0] rfl⟩
  ·replace hF := ifN h20 hF
   refine W.skip fun a ha => hK12 _ _ (W.seq fun K23 hK23 => (W.region (wl_load_blk (i := 0) (vs := [v0_0, v0_1, (.int .i64 x0.2.2.1), (.int .i64 x0.2.2.2)]) (v := (.agg #[v0_0, v0_1, (.int .i64 x0.2.2.1), (.int .i64 x0.2.2.2)])) tf_53 rfl rfl hS16 rfl rfl rfl (wl_load_blk (i := 1) (vs := [v1_0, v1_1, (.int .i64 x1.2.2.1), (.int .i64 x1.2.2.2)]) (v := (.agg #[v1_0, v1_1, (.int .i64 x1.2.2.1), (.int .i64 x1.2.2.2)])) tf_53 rfl rfl hS16 rfl rfl rfl ?_)))) a ha
   obtain ⟨u24, hu24, hF⟩ := bindE hF
   refine wl_call rfl Try.call146 (C_spec_cpDifferent w14 x0 v0_0 (h0_0.ro hB15) v0_1 (h0_1.ro hB15) x1 v1_0 (h1_0.ro hB15) v1_1 (h1_1.ro hB15) _ hu24) rfl ?_
   rintro _ w27 ⟨v25, F26, rfl, hb28, hM31⟩
   refine ⟨_, rfl, ?_⟩
   have hB29 := hB15.trans (hb28.mono hB15.size)
   have hS30 := hS16.join hb28 hM31 hB15.size
   refine wl_assign rfl rfl (wl_assign rfl rfl (WL.nil (fun a ha => hK23 _ _ (W.ret ?_) a ha)))
   have hr := Option.some.inj hF
   subst hr
   exact rets (vs := [v25, (.bool true)]) hQ rfl ⟨rv_tmp rfl, rv_tmp rfl, trivial⟩ ⟨v25, F26, rfl, hB29, hS30.sel [0] rfl⟩
 refine W.regionH mixed_ [] hB10 hS11 ?_
 intro w32 hb33 hB34 hS35
 have hSW36 := KeepX.refl w32 []
 refine WH.tk 0 rfl hP hSW36 (pr_load_blk (i := 1) (vs := [v0_0, v0_1, (.int .i64 x0.2.2.1), (.int .i64 x0.2.2.2)]) (v := (.agg #[v0_0, v0_1, (.int .i64 x0.2.2.1), (.int .i64 x0.2.2.2)])) tf_53 rfl rfl hS35 rfl rfl rfl (by simp) (WH.on1 1 rfl ?_))
 obtain ⟨u37, hu37, hF⟩ := bindE hF
 refine wl_call rfl Try.call145 (C_spec_swGood w32 x0 v0_0 (h0_0.ro hB34) v0_1 (h0_1.ro hB34) _ hu37) rfl ?_
 rintro _ w38 ⟨rfl, hb39⟩
 refine ⟨_, rfl, ?_⟩
 have hB40 := hB34.trans (hb39.mono hB34.size)
 have hS41 := hS35.below hb39
 have hSW43 := hSW36.ext hb39
 refine WL.nil (WH.ret hSW43 (WH.tk 2 rfl hP hSW43 (pr_not rfl rfl (WH.tk 3 rfl hP hSW43 (pr_move rfl rfl ?_)))))
 rcases bE (!u37) with h44 | h44
 ·replace hF := ifP h44 hF
  refine WH.off (i := 4) rfl (by kernel_rfl) (by kernel_rfl) (by kernel_rfl) hP rfl rfl h44 rfl hSW43 (WH.off (i := 5) rfl (by kernel_rfl) (by kernel_rfl) (by kernel_rfl) hP rfl rfl h44 rfl hSW43 (WH.off (i := 6) rfl (by kernel_rfl) (by kernel_rfl) (by kernel_rfl) hP rfl rfl h44 rfl hSW43 (WH.tk 7 rfl hP hSW43 (pr_pick_t rfl rfl h44 rfl (WH.tk 8 rfl hP hSW43 (pr_move rfl rfl (WH.off (i := 9) rfl (by kernel_rfl) (by kernel_rfl) (by kernel_rfl) hP rfl rfl rfl rfl hSW43 (WH.off (i := 10) rfl (by kernel_rfl) (by kernel_rfl) (by kernel_rfl) hP rfl rfl rfl rfl hSW43 (WH.off (i := 11) rfl (by kernel_rfl) (by kernel_rfl) (by kernel_rfl) hP rfl rfl rfl rfl hSW43 (WH.off (i := 12) rfl (by kernel_rfl) (by kernel_rfl) (by kernel_rfl) hP rfl rfl rfl rfl hSW43 (WH.off (i := 13) rfl (by kernel_rfl) (by kernel_rfl) (by kernel_rfl) hP rfl rfl rfl rfl hSW43 ?_)))))))))))
  refine WH.off (i := 14) rfl (by kernel_rfl) (by kernel_rfl) (by kernel_rfl) hP rfl rfl rfl rfl hSW43 (WH.off (i := 15) rfl (by kernel_rfl) (by kernel_rfl) (by kernel_rfl) hP rfl rfl rfl rfl hSW43 (WH.tk 16 rfl hP hSW43 (pr_pick_t rfl rfl rfl rfl (WH.tk 17 rfl hP hSW43 (pr_move rfl rfl (WH.off (i := 18) rfl (by kernel_rfl) (by kernel_rfl) (by kernel_rfl) hP rfl rfl rfl rfl hSW43 (WH.off (i := 19) rfl (by kernel_rfl) (by kernel_rfl) (by kernel_rfl) hP rfl rfl rfl rfl hSW43 (WH.off (i := 20) rfl (by kernel_rfl) (by kernel_rfl) (by kernel_rfl) hP rfl rfl rfl rfl hSW43 (WH.off (i := 21) rfl (by kernel_rfl) (by kernel_rfl) (by kernel_rfl) hP rfl rfl rfl rfl hSW43 (WH.off (i := 22) rfl (by kernel_rfl) (by kernel_rfl) (by kernel_rfl) hP rfl rfl rfl rfl hSW43 (WH.off (i := 23) rfl (by kernel_rfl) (by kernel_rfl) (by kernel_rfl) hP rfl rfl rfl rfl hSW43 ?_)))))))))))
  refine WH.off (i := 24) rfl (by kernel_rfl) (by kernel_rfl) (by kernel_rfl) hP rfl rfl rfl rfl hSW43 (WH.off (i := 25) rfl (by kernel_rfl) (by kernel_rfl) (by kernel_rfl) hP rfl rfl rfl rfl hSW43 (WH.off (i := 26) rfl (by kernel_rfl) (by kernel_rfl) (by kernel_rfl) hP rfl rfl rfl rfl hSW43 (WH.off (i := 27) rfl (by kernel_rfl) (by kernel_rfl) (by kernel_rfl) hP rfl rfl rfl rfl hSW43 (WH.off (i := 28) rfl (by kernel_rfl) (by kernel_rfl) (by kernel_rfl) hP rfl rfl rfl rfl hSW43 (WH.tk 29 rfl hP hSW43 (pr_pick_t rfl rfl rfl rfl (WH.done (by kernel_rfl) ?_)))))))
  exact fun a ha => hJ19 (true) _ hF hB40 (hS41.sel [1, 0] rfl) a (ha.sub ⟨rfl, rfl, rfl, trivial⟩)
 ·replace hF := ifN h44 hF
  refine WH.takexg (i := 4) rfl (by kernel_rfl) (by kernel_rfl) (by kernel_rfl) hP rfl rfl h44 hSW43 (pr_load_blk (i := 0) (vs := [v1_0, v1_1, (.int .i64 x1.2.2.1), (.int .i64 x1.2.2.2)]) (v := (.agg #[v1_0, v1_1, (.int .i64 x1.2.2.1), (.int .i64 x1.2.2.2)])) tf_53 rfl rfl hS35 rfl rfl rfl (by simp) (WH.on1 5 rfl (wl_on rfl rfl h44 ?_)))
  obtain ⟨u45, hu45, hF⟩ := bindE hF
  refine wl_call rfl Try.call145 (C_spec_swGood w38 x1 v1_0 (h1_0.ro hB40) v1_1 (h1_1.ro hB40) _ hu45) rfl ?_
  rintro _ w46 ⟨rfl, hb47⟩
  refine ⟨_, rfl, ?_⟩
  have hB48 := hB40.trans (hb47.mono hB40.size)
  have hS49 := hS41.below hb47
  have hSW51 := hSW43.ext hb47
  refine WL.nil (WH.ret hSW51 (WH.takexg (i := 6) rfl (by kernel_rfl) (by kernel_rfl) (by kernel_rfl) hP rfl rfl h44 hSW51 (pr_not rfl rfl (WH.tk 7 rfl hP hSW51 (pr_pick_f rfl rfl h44 rfl (WH.tk 8 rfl hP hSW51 (pr_move rfl rfl ?_)))))))
  rcases bE (!u45) with h52 | h52
  ·replace hF := ifP h52 hF
   refine WH.off (i := 9) rfl (by kernel_rfl) (by kernel_rfl) (by kernel_rfl) hP rfl rfl h52 rfl hSW51 (WH.off (i := 10) rfl (by kernel_rfl) (by kernel_rfl) (by kernel_rfl) hP rfl rfl h52 rfl hSW51 (WH.off (i := 11) rfl (by kernel_rfl) (by kernel_rfl) (by kernel_rfl) hP rfl rfl h52 rfl hSW51 (WH.off (i := 12) rfl (by kernel_rfl) (by kernel_rfl) (by kernel_rfl) hP rfl rfl h52 rfl hSW51 (WH.off (i := 13) rfl (by kernel_rfl) (by kernel_rfl) (by kernel_rfl) hP rfl rfl h52 rfl hSW51 (WH.off (i := 14) rfl (by kernel_rfl) (by kernel_rfl) (by kernel_rfl) hP rfl rfl h52 rfl hSW51 (WH.off (i := 15) rfl (by kernel_rfl) (by kernel_rfl) (by kernel_rfl) hP rfl rfl h52 rfl hSW51 (WH.tk 16 rfl hP hSW51 (pr_pick_t rfl rfl h52 rfl (WH.tk 17 rfl hP hSW51 (pr_move rfl rfl (WH.off (i := 18) rfl (by kernel_rfl) (by kernel_rfl) (by kernel_rfl) hP rfl rfl rfl rfl hSW51 ?_)))))))))))
   refine WH.off (i := 19) rfl (by kernel_rfl) (by kernel_rfl) (by kernel_rfl) hP rfl rfl rfl rfl hSW51 (WH.off (i := 20) rfl (by kernel_rfl) (by kernel_rfl) (by kernel_rfl) hP rfl rfl rfl rfl hSW51 (WH.off (i := 21) rfl (by kernel_rfl) (by kernel_rfl) (by kernel_rfl) hP rfl rfl rfl rfl hSW51 (WH.off (i := 22) rfl (by kernel_rfl) (by kernel_rfl) (by kernel_rfl) hP rfl rfl rfl rfl hSW51 (WH.off (i := 23) rfl (by kernel_rfl) (by kernel_rfl) (by kernel_rfl) hP rfl rfl rfl rfl hSW51 (WH.off (i := 24) rfl (by kernel_rfl) (by kernel_rfl) (by kernel_rfl) hP rfl rfl rfl rfl hSW51 (WH.off (i := 25) rfl (by kernel_rfl) (by kernel_rfl) (by kernel_rfl) hP rfl rfl rfl rfl hSW51 (WH.off (i := 26) rfl (by kernel_rfl) (by kernel_rfl) (by kernel_rfl) hP rfl rfl rfl rfl hSW51 (WH.off (i := 27) rfl (by kernel_rfl) (by kernel_rfl) (by kernel_rfl) hP rfl rfl rfl rfl hSW51 ?_))))))))
   refine WH.off (i := 28) rfl (by kernel_rfl) (by kernel_rfl) (by kernel_rfl) hP rfl rfl rfl rfl hSW51 (WH.tk 29 rfl hP hSW51 (pr_pick_t rfl rfl rfl rfl (WH.done (by kernel_rfl) ?_)))
   exact fun a ha => hJ19 (true) _ hF hB48 (hS49.sel [1, 0] rfl) a (ha.sub ⟨rfl, rfl, rfl, trivial⟩)
  ·replace hF := ifN h52 hF
   refine WH.takexg (i := 9) rfl (by kernel_rfl) (by kernel_rfl) (by kernel_rfl) hP rfl rfl h52 hSW51 (pr_field (o := 0) (off' := 0) ff_53_0 rfl rfl rfl (WH.takexg (i := 10) rfl (by kernel_rfl) (by kernel_rfl) (by kernel_rfl) hP rfl rfl h52 hSW51 (pr_load_blk (i := 1) (vs := [v0_0]) (v := v0_0) tf_51 rfl rfl hS35 rfl rfl rfl (by simp) (WH.takexg (i := 11) rfl (by kernel_rfl) (by kernel_rfl) (by kernel_rfl) hP rfl rfl h52 hSW51 (pr_lenr (e := ty_63) (l := x0.1) Try.underlying51 rfl rfl h0_0 (WH.takexg (i := 12) rfl (by kernel_rfl) (by kernel_rfl) (by kernel_rfl) hP rfl rfl h52 hSW51 (pr_field (o := 0) (off' := 0) ff_53_0 rfl rfl rfl (WH.takexg (i := 13) rfl (by kernel_rfl) (by kernel_rfl) (by kernel_rfl) hP rfl rfl h52 hSW51 (pr_load_blk (i := 0) (vs := [v1_0]) (v := v1_0) tf_51 rfl rfl hS35 rfl rfl rfl (by simp) ?_)))))))))
   refine WH.takexg (i := 14) rfl (by kernel_rfl) (by kernel_rfl) (by kernel_rfl) hP rfl rfl h52 hSW51 (pr_lenr (e := ty_63) (l := x1.1) Try.underlying51 rfl rfl h1_0 (WH.takexg (i := 15) rfl (by kernel_rfl) (by kernel_rfl) (by kernel_rfl) hP rfl rfl h52 hSW51 (pr_neq rfl rfl rfl (WH.tk 16 rfl hP hSW51 (pr_pick_f rfl rfl h52 rfl (WH.tk 17 rfl hP hSW51 (pr_move rfl rfl ?_)))))))
   rcases bE ((List.length x0.1 : Int) != (List.length x1.1 : Int)) with h53 | h53
   ·replace hF := ifP h53 hF
    refine WH.off (i := 18) rfl (by kernel_rfl) (by kernel_rfl) (by kernel_rfl) hP rfl rfl h53 rfl hSW51 (WH.off (i := 19) rfl (by kernel_rfl) (by kernel_rfl) (by kernel_rfl) hP rfl rfl h53 rfl hSW51 (WH.off (i := 20) rfl (by kernel_rfl) (by kernel_rfl) (by kernel_rfl) hP rfl rfl h53 rfl hSW51 (WH.off (i := 21) rfl (by kernel_rfl) (by kernel_rfl) (by kernel_rfl) hP rfl rfl h53 rfl hSW51 (WH.off (i := 22) rfl (by kernel_rfl) (by kernel_rfl) (by kernel_rfl) hP rfl rfl h53 rfl hSW51 (WH.off (i := 23) rfl (by kernel_rfl) (by kernel_rfl) (by kernel_rfl) hP rfl rfl h53 rfl hSW51 (WH.off (i := 24) rfl (by kernel_rfl) (by kernel_rfl) (by kernel_rfl) hP rfl rfl h53 rfl hSW51 (WH.off (i := 25) rfl (by kernel_rfl) (by kernel_rfl) (by kernel_rfl) hP rfl rfl h53 rfl hSW51 (WH.off (i := 26) rfl (by kernel_rfl) (by kernel_rfl) (by kernel_rfl) hP rfl rfl h53 rfl hSW51 ?_))))))))
    refine WH.off (i := 27) rfl (by kernel_rfl) (by kernel_rfl) (by kernel_rfl) hP rfl rfl h53 rfl hSW51 (WH.off (i := 28) rfl (by kernel_rfl) (by kernel_rfl) (by kernel_rfl) hP rfl rfl h53 rfl hSW51 (WH.tk 29 rfl hP hSW51 (pr_pick_t rfl rfl h53 rfl (WH.done (by kernel_rfl) ?_))))
    exact fun a ha => hJ19 (true) _ hF hB48 (hS49.sel [1, 0] rfl) a (ha.sub ⟨rfl, rfl, rfl, trivial⟩)
   ·replace hF := ifN h53 hF
    refine WH.takexg (i := 18) rfl (by kernel_rfl) (by kernel_rfl) (by kernel_rfl) hP rfl rfl h53 hSW51 (pr_field (o := 0) (off' := 0) ff_53_0 rfl rfl rfl (WH.takexg (i := 19) rfl (by kernel_rfl) (by kernel_rfl) (by kernel_rfl) hP rfl rfl h53 hSW51 (pr_load_blk (i := 1) (vs := [v0_0]) (v := v0_0) tf_51 rfl rfl hS35 rfl rfl rfl (by simp) ?_)))
    obtain ⟨u54, hu54, hF⟩ := bindE hF
    refine WH.takexg (i := 20) rfl (by kernel_rfl) (by kernel_rfl) (by kernel_rfl) hP rfl rfl h53 hSW51 (pr_index (e := ty_63) Try.underlying51 rfl rfl rfl h0_0 hu54 ?_)
    rintro p55 _ ⟨v57, rfl, hv58⟩ hp56
    refine WH.takexg (i := 21) rfl (by kernel_rfl) (by kernel_rfl) (by kernel_rfl) hP rfl rfl h53 hSW51 (pr_load_p (vs := [v57]) (v := v57) tf_63 rfl rfl (hp56.kx hB34 (by simp)) rfl rfl (WH.takexg (i := 22) rfl (by kernel_rfl) (by kernel_rfl) (by kernel_rfl) hP rfl rfl h53 hSW51 (pr_lenr (e := ty_68) (l := u54) Try.underlying63 rfl rfl hv58 (WH.takexg (i := 23) rfl (by kernel_rfl) (by kernel_rfl) (by kernel_rfl) hP rfl rfl h53 hSW51 (pr_field (o := 0) (off' := 0) ff_53_0 rfl rfl rfl (WH.takexg (i := 24) rfl (by kernel_rfl) (by kernel_rfl) (by kernel_rfl) hP rfl rfl h53 hSW51 (pr_load_blk (i := 0) (vs := [v1_0]) (v := v1_0) tf_51 rfl rfl hS35 rfl rfl rfl (by simp) ?_)))))))
    obtain ⟨u59, hu59, hF⟩ := bindE hF
    refine WH.takexg (i := 25) rfl (by kernel_rfl) (by kernel_rfl) (by kernel_rfl) hP rfl rfl h53 hSW51 (pr_index (e := ty_63) Try.underlying51 rfl rfl rfl h1_0 hu59 ?_)
    rintro p60 _ ⟨v62, rfl, hv63⟩ hp61
    refine WH.takexg (i := 26) rfl (by kernel_rfl) (by kernel_rfl) (by kernel_rfl) hP rfl rfl h53 hSW51 (pr_load_p (vs := [v62]) (v := v62) tf_63 rfl rfl (hp61.kx hB34 (by simp)) rfl rfl (WH.takexg (i := 27) rfl (by kernel_rfl) (by kernel_rfl) (by kernel_rfl) hP rfl rfl h53 hSW51 (pr_lenr (e := ty_68) (l := u59) Try.underlying63 rfl rfl hv63 (WH.takexg (i := 28) rfl (by kernel_rfl) (by kernel_rfl) (by kernel_rfl) hP rfl rfl h53 hSW51 (pr_neq rfl rfl rfl (WH.tk 29 rfl hP hSW51 (pr_pick_f rfl rfl h53 rfl (WH.done (by kernel_rfl) ?_))))))))
    exact fun a ha => hJ19 (((List.length u54 : Int) != (List.length u59 : Int))) _ hF hB48 (hS49.sel [1, 0] rfl) a (ha.sub ⟨rfl, rfl, rfl, trivial⟩)
theorem C_slices_Equal_int_int (w0 : World) (x0 : (List Int)) (v0_0 : Value) (h0_0 : rdS ty_3 (· < w0.heap.size) w0 v0_0 x0) (x1 : (List Int)) (v1_0 : Value) (h1_0 : rdS ty_3 (· < w0.heap.size) w0 v1_0 x1) (r : Bool) (hF : F_slices_Equal_int_int x0 x1 = some r) :
  Calls Try.prog 147 [v0_0, v1_0].toArray w0 fun e w' => e = .returned (.bool r) ∧ Below w0.heap.size w0 w' := by
 refine calls_mk' Try.func147 rfl Try.ntmps147 rfl rfl fun Q hQ hP => ?_
 have hB : Below w0.heap.size w0 w0 := Below.refl _ _
 have hS : Sep w0.heap.size w0 [] := Sep.nil _ _
 unfold F_slices_Equal_int_int at hF
 refine W.seq fun K1 hK1 => W.region (wl_assign rfl rfl (WL.nil (fun a ha => hK1 _ _ (W.seq fun K2 hK2 => (W.seq fun K3 hK3 => (W.region (wl_move rfl rfl (wl_lenr (e := ty_3) (l := x0) Try.underlying29 rfl rfl h0_0 (wl_move rfl rfl (wl_lenr (e := ty_3) (l := x1) Try.underlying29 rfl rfl h1_0 (wl_neq rfl rfl rfl (WL.nil ?_))))))))) a ha)))
 refine fun a ha => hK3 _ _ (W.cond rfl (fun h4 => ?_) (fun h4 => ?_)) a ha
 ·replace hF := ifP h4 hF
  refine W.seq fun K5 hK5 => W.region (wl_assign rfl rfl (WL.nil (fun a ha => hK5 _ _ (W.ret ?_) a ha)))
  have hr := Option.some.inj hF
  subst hr
  exact rets (vs := [(.bool false)]) hQ rfl ⟨rv_tmp rfl, trivial⟩ ⟨rfl, hB⟩
 ·replace hF := ifN h4 hF
  refine W.skip fun a ha => hK2 _ _ (W.seq fun K6 hK6 => (W.seq fun K7 hK7 => (W.region (wl_move rfl rfl (wl_lenr (e := ty_3) (l := x0) Try.underlying29 rfl rfl h0_0 (wl_move rfl rfl (WL.nil (fun a ha => hK7 _ _ (W.block (W.loopk (fun m a w8 => ∃ (y11 : Int), St 26 [(0, v0_0), (1, v1_0), (12, (.int .i64 (List.length x0 : Int))), (13, (.int .i64 y11))] a ∧ Below w0.heap.size w0 w8 ∧ Sep w0.heap.size w8 [] ∧ F_slices_Equal_int_int_L1 x0 x1 m y11 = some r) FU ?_ ?_)) a ha)))))))) a ha
  ·
   exact fun a ha => ⟨0, ha.sub ⟨rfl, rfl, rfl, rfl, trivial⟩, hB, (hS.sel [] rfl), hF⟩
  ·
   rintro m14 a w8 ⟨y11, ha, hB9, hS10, hF⟩ KL13 hKL13
   refine W.at ?_ ha
   cases m14 with
   | zero => exact noneE hF
   | succ m14 =>
    obtain ⟨nx12, hnx12⟩ : ∃ k, k = F_slices_Equal_int_int_L1 x0 x1 m14 := ⟨_, rfl⟩
    rw [F_slices_Equal_int_int_L1, ← hnx12] at hF
    refine W.seq fun K15 hK15 => W.region (wl_lss rfl rfl rfl (WL.nil (fun a ha => hK15 _ _ (W.seq fun K16 hK16 => (W.cond rfl (fun h17 => ?_) (fun h17 => ?_))) a ha)))
    ·replace hF := ifP h17 hF
     refine W.skip fun a ha => hK16 _ _ (W.seq fun K18 hK18 => (W.block (W.seq fun K19 hK19 => (W.region (wl_move rfl rfl (wl_assign rfl rfl (WL.nil (fun a ha => hK19 _ _ (W.seq fun K20 hK20 => (W.regionH mixed_ [] hB9 hS10 ?_)) a ha)))))))) a ha
     intro w21 hb22 hB23 hS24
     have hSW25 := KeepX.refl w21 []
     refine WH.tk 0 rfl hP hSW25 (pr_move rfl rfl (WH.tk 1 rfl hP hSW25 (pr_move rfl rfl ?_)))
     obtain ⟨u26, hu26, hF⟩ := bindE hF
     refine WH.tk 2 rfl hP hSW25 (pr_index (e := ty_3) Try.underlying29 rfl rfl rfl h0_0 hu26 ?_)
     rintro p27 _ rfl hp28
     refine WH.tk 3 rfl hP hSW25 (pr_load_p (vs := [(.int .i64 u26)]) (v := (.int .i64 u26)) tf_3 rfl rfl (hp28.kx hB23 (by simp)) rfl rfl (WH.tk 4 rfl hP hSW25 (pr_move rfl rfl (WH.tk 5 rfl hP hSW25 (pr_move rfl rfl ?_)))))
     obtain ⟨u29, hu29, hF⟩ := bindE hF
     refine WH.tk 6 rfl hP hSW25 (pr_index (e := ty_3) Try.underlying29 rfl rfl rfl h1_0 hu29 ?_)
     rintro p30 _ rfl hp31
     refine WH.tk 7 rfl hP hSW25 (pr_load_p (vs := [(.int .i64 u29)]) (v := (.int .i64 u29)) tf_3 rfl rfl (hp31.kx hB23 (by simp)) rfl rfl (WH.tk 8 rfl hP hSW25 (pr_neq rfl rfl rfl (WH.done (by kernel_rfl) (fun a ha => hK20 _ _ (W.cond rfl (fun h32 => ?_) (fun h32 => ?_)) a ha)))))
     ·replace hF := ifP h32 hF
      refine W.seq fun K33 hK33 => W.region (wl_assign rfl rfl (WL.nil (fun a ha => hK33 _ _ (W.ret ?_) a ha)))
      have hr := Option.some.inj hF
      subst hr
      exact rets (vs := [(.bool false)]) hQ rfl ⟨rv_tmp rfl, trivial⟩ ⟨rfl, hB23⟩
     ·replace hF := ifN h32 hF
      refine W.skip fun a ha => hK18 _ _ (W.region (wl_add rfl rfl rfl (wl_move rfl rfl (WL.nil ?_)))) a ha
      rw [hnx12] at hF
      exact fun a ha => hKL13 a _ m14 (Nat.lt_succ_self m14) ⟨(w64 (y11 + 1)), ha.sub ⟨rfl, rfl, rfl, rfl, trivial⟩, hB23, (hS24.sel [] rfl), hF⟩
    ·replace hF := ifN h17 hF
     refine W.exit fun a ha => hK6 _ _ (W.seq fun K34 hK34 => (W.region (wl_assign rfl rfl (WL.nil (fun a ha => hK34 _ _ (W.ret ?_) a ha))))) a ha
     have hr := Option.some.inj hF
     subst hr
     exact rets (vs := [(.bool true)]) hQ rfl ⟨rv_tmp rfl, trivial⟩ ⟨rfl, hB9⟩
theorem C_impl_SameShows (w0 : World) (x0 : ((List (List (Int × Int))) × (List Int) × Int × Int)) (v0_0 : Value) (h0_0 : rdS ty_63 (· < w0.heap.size) w0 v0_0 x0.1) (v0_1 : Value) (h0_1 : rdS ty_3 (· < w0.heap.size) w0 v0_1 x0.2.1) (x1 : ((List (List (Int × Int))) × (List Int) × Int × Int)) (v1_0 : Value) (h1_0 : rdS ty_63 (· < w0.heap.size) w0 v1_0 x1.1) (v1_1 : Value) (h1_1 : rdS ty_3 (· < w0.heap.size) w0 v1_1 x1.2.1) (r : (Bool × Bool)) (hF : F_impl_SameShows x0 x1 = some r) :
  Calls Try.prog 37 [(.agg #[v0_0, v0_1, (.int .i64 x0.2.2.1), (.int .i64 x0.2.2.2)]), (.agg #[v1_0, v1_1, (.int .i64 x1.2.2.1), (.int .i64 x1.2.2.2)])].toArray w0 fun e w' => e = .returned (.tuple #[(.bool r.1), (.bool r.2)]) ∧ Below w0.heap.size w0 w' := by
 refine calls_mk' Try.func37 rfl Try.ntmps37 rfl rfl fun Q hQ hP => ?_
 have hB : Below w0.heap.size w0 w0 := Below.refl _ _
 have hS : Sep w0.heap.size w0 [] := Sep.nil _ _
 unfold F_impl_SameShows at hF
 refine W.seq fun K1 hK1 => W.region (wl_box (cs := [v0_0, v0_1, (.int .i64 x0.2.2.1), (.int .i64 x0.2.2.2)]) rfl rfl rfl hB hS ?_)
 intro b2 w3 hb4 hB5 hS6
 refine wl_box (cs := [v1_0, v1_1, (.int .i64 x1.2.2.1), (.int .i64 x1.2.2.2)]) rfl rfl rfl hB5 hS6 ?_
 intro b7 w8 hb9 hB10 hS11
 refine wl_assign rfl rfl (wl_assign rfl rfl (WL.nil (fun a ha => hK1 _ _ (W.seq fun K12 hK12 => (W.seq fun K13 hK13 => ?_)) a ha)))
 obtain ⟨k18, hk18, hF⟩ := jE1 hF
 have hJ19 : ∀ (y17 : Bool) (w14 : World) (_ : k18 y17 = some r) (_ : Below w0.heap.size w0 w14) (_ : Sep w0.heap.size w14 [R.blk b2 53 [v0_0, v0_1, (.int .i64 x0.2.2.1), (.int .i64 x0.2.2.2)], R.blk b7 53 [v1_0, v1_1, (.int .i64 x1.2.2.1), (.int .i64 x1.2.2.2)]]), ∀ a, St 63 [(2, (.pointer (some ⟨b2, 0, none⟩))), (3, (.pointer (some ⟨b7, 0, none⟩))), (14, (.bool y17))] a → K13 a w14 := by
  intro y17 w14 hF hB15 hS16
  subst hk18
  refine fun a ha => hK13 _ _ (W.cond rfl (fun h20 => ?_) (fun h20 => ?_)) a ha
  ·replace hF := ifP h20 hF
   refine W.seq fun K21 hK21 => W.region (wl_assign rfl rfl (wl_assign rfl rfl (WL.nil (fun a ha => hK21 _ _ (W.ret ?_) a ha))))
   have hr := Option.some.inj hF
   subst hr
   exact rets (vs := [(.bool false), (.bool false)]) hQ rfl ⟨rv_tmp rfl, rv_tmp rfl, trivial⟩ ⟨rfl, hB15⟩
  ·replace hF := ifN h20 hF
   refine W.skip fun a ha => hK12 _ _ (W.seq fun K22 hK22 => (W.seq fun K23 hK23 => ?_)) a ha
   obtain ⟨k28, hk28, hF⟩ := jE1 hF
   have hJ29 : ∀ (y27 : Bool) (w24 : World) (_ : k28 y27 = some r) (_ : Below w0.heap.size w0 w24) (_ : Sep w0.heap.size w24 [R.blk b2 53 [v0_0, v0_1, (.int .i64 x0.2.2.1), (.int .i64 x0.2.2.2)], R.blk b7 53 [v1_0, v1_1, (.int .i64 x1.2.2.1), (.int .i64 x1.2.2.2)]]), ∀ a, St 63 [(2, (.pointer (some ⟨b2, 0, none⟩))), (3, (.pointer (some ⟨b7, 0, none⟩))), (43, (.bool y27))] a → K23 a w24 := by
    intro y27 w24 hF hB25 hS26
    subst hk28
    refine fun a ha => hK23 _ _ (W.cond rfl (fun h30 => ?_) (fun h30 => ?_)) a ha
    ·replace hF := ifP h30 hF
     refine W.seq fun K31 hK31 => W.region (wl_assign rfl rfl (wl_assign rfl rfl (WL.nil (fun a ha => hK31 _ _ (W.ret ?_) a ha))))
     have hr := Option.some.inj hF
     subst hr
     exact rets (vs := [(.bool false), (.bool true)]) hQ rfl ⟨rv_tmp rfl, rv_tmp rfl, trivial⟩ ⟨rfl, hB25⟩
    ·replace hF := ifN h30 hF
     refine W.skip fun a ha => hK22 _ _ (W.seq fun K32 hK32 => (W.seq fun K33 hK33 => (W.region (wl_field (o := 0) (off' := 0) ff_53_0 rfl rfl rfl (wl_load_blk (i := 0) (vs := [v0_0]) (v := v0_0) tf_51 rfl rfl hS26 rfl rfl rfl (wl_lenr (e := ty_63) (l := x0.1) Try.underlying51 rfl rfl h0_0 (wl_move rfl rfl (WL.nil (fun a ha => hK33 _ _ (W.block (W.loopk (fun m a w34 => ∃ (y37 : Int), St 63 [(2, (.pointer (some ⟨b2, 0, none⟩))), (3, (.pointer (some ⟨b7, 0, none⟩))), (46, (.int .i64 (List.length x0.1 : Int))), (47, (.int .i64 y37))] a ∧ Below w0.heap.size w0 w34 ∧ Sep w0.heap.size w34 [R.blk b2 53 [v0_0, v0_1, (.int .i64 x0.2.2.1), (.int .i64 x0.2.2.2)], R.blk b7 53 [v1_0, v1_1, (.int .i64 x1.2.2.1), (.int .i64 x1.2.2.2)]] ∧ F_impl_SameShows_L1 x0 x1 m y37 = some r) FU ?_ ?_)) a ha))))))))) a ha
     ·
      exact fun a ha => ⟨0, ha.sub ⟨rfl, rfl, rfl, rfl, trivial⟩, hB25, (hS26.sel [0, 1] rfl), hF⟩
     ·
      rintro m40 a w34 ⟨y37, ha, hB35, hS36, hF⟩ KL39 hKL39
      refine W.at ?_ ha
      cases m40 with
      | zero => exact noneE hF
      | succ m40 =>
       obtain ⟨nx38, hnx38⟩ : ∃ k, k = F_impl_SameShows_L1 x0 x1 m40 := ⟨_, rfl⟩
       rw [F_impl_SameShows_L1, ← hnx38] at hF
       refine W.seq fun K41 hK41 => W.region (wl_lss rfl rfl rfl (WL.nil (fun a ha => hK41 _ _ (W.seq fun K42 hK42 => (W.cond rfl (fun h43 => ?_) (fun h43 => ?_))) a ha)))
       ·replace hF := ifP h43 hF
        refine W.skip fun a ha => hK42 _ _ (W.seq fun K44 hK44 => (W.block (W.seq fun K45 hK45 => (W.region (wl_move rfl rfl (wl_assign rfl rfl (WL.nil (fun a ha => hK45 _ _ (W.seq fun K46 hK46 => (W.regionH mixed_ [] hB35 hS36 ?_)) a ha)))))))) a ha
        intro w47 hb48 hB49 hS50
        have hSW51 := KeepX.refl w47 []
        refine WH.tk 0 rfl hP hSW51 (pr_field (o := 0) (off' := 0) ff_53_0 rfl rfl rfl (WH.tk 1 rfl hP hSW51 (pr_load_blk (i := 0) (vs := [v0_0]) (v := v0_0) tf_51 rfl rfl hS50 rfl rfl rfl (by simp) (WH.tk 2 rfl hP hSW51 (pr_move rfl rfl ?_)))))
        obtain ⟨u52, hu52, hF⟩ := bindE hF
        refine WH.tk 3 rfl hP hSW51 (pr_index (e := ty_63) Try.underlying51 rfl rfl rfl h0_0 hu52 ?_)
        rintro p53 _ ⟨v55, rfl, hv56⟩ hp54
        refine WH.tk 4 rfl hP hSW51 (pr_load_p (vs := [v55]) (v := v55) tf_63 rfl rfl (hp54.kx hB49 (by simp)) rfl rfl (WH.tk 5 rfl hP hSW51 (pr_field (o := 0) (off' := 0) ff_53_0 rfl rfl rfl (WH.tk 6 rfl hP hSW51 (pr_load_blk (i := 1) (vs := [v1_0]) (v := v1_0) tf_51 rfl rfl hS50 rfl rfl rfl (by simp) (WH.tk 7 rfl hP hSW51 (pr_move rfl rfl ?_)))))))
        obtain ⟨u57, hu57, hF⟩ := bindE hF
        refine WH.tk 8 rfl hP hSW51 (pr_index (e := ty_63) Try.underlying51 rfl rfl rfl h1_0 hu57 ?_)
        rintro p58 _ ⟨v60, rfl, hv61⟩ hp59
        refine WH.tk 9 rfl hP hSW51 (pr_load_p (vs := [v60]) (v := v60) tf_63 rfl rfl (hp59.kx hB49 (by simp)) rfl rfl (WH.on1 10 rfl ?_))
        obtain ⟨u62, hu62, hF⟩ := bindE hF
        refine wl_call rfl Try.call144 (C_slices_Equal_impl_Spot_impl_Spot w47 u52 v55 (hv56.ro hB49) u57 v60 (hv61.ro hB49) _ hu62) rfl ?_
        rintro _ w63 ⟨rfl, hb64⟩
        refine ⟨_, rfl, ?_⟩
        have hB65 := hB49.trans (hb64.mono hB49.size)
        have hS66 := hS50.below hb64
        have hSW68 := hSW51.ext hb64
        refine WL.nil (WH.ret hSW68 (WH.tk 11 rfl hP hSW68 (pr_not rfl rfl (WH.done (by kernel_rfl) (fun a ha => hK46 _ _ (W.cond rfl (fun h69 => ?_) (fun h69 => ?_)) a ha)))))
        ·replace hF := ifP h69 hF
         refine W.seq fun K70 hK70 => W.region (wl_assign rfl rfl (wl_assign rfl rfl (WL.nil (fun a ha => hK70 _ _ (W.ret ?_) a ha))))
         have hr := Option.some.inj hF
         subst hr
         exact rets (vs := [(.bool false), (.bool true)]) hQ rfl ⟨rv_tmp rfl, rv_tmp rfl, trivial⟩ ⟨rfl, hB65⟩
        ·replace hF := ifN h69 hF
         refine W.skip fun a ha => hK44 _ _ (W.region (wl_add rfl rfl rfl (wl_move rfl rfl (WL.nil ?_)))) a ha
         rw [hnx38] at hF
         exact fun a ha => hKL39 a _ m40 (Nat.lt_succ_self m40) ⟨(w64 (y37 + 1)), ha.sub ⟨rfl, rfl, rfl, rfl, trivial⟩, hB65, (hS66.sel [0, 1] rfl), hF⟩
       ·replace hF := ifN h43 hF
        refine W.exit fun a ha => hK32 _ _ (W.seq fun K71 hK71 => (W.region (wl_assign rfl rfl (wl_assign rfl rfl (WL.nil (fun a ha => hK71 _ _ (W.ret ?_) a ha)))))) a ha
        have hr := Option.some.inj hF
        subst hr
        exact rets (vs := [(.bool true), (.bool true)]) hQ rfl ⟨rv_tmp rfl, rv_tmp rfl, trivial⟩ ⟨rfl, hB35⟩
   refine W.region (wl_field (o := 0) (off' := 0) ff_53_0 rfl rfl rfl (wl_load_blk (i := 0) (vs := [v0_0]) (v := v0_0) tf_51 rfl rfl hS16 rfl rfl rfl (wl_lenr (e := ty_63) (l := x0.1) Try.underlying51 rfl rfl h0_0 (wl_field (o := 0) (off' := 0) ff_53_0 rfl rfl rfl (wl_load_blk (i := 1) (vs := [v1_0]) (v := v1_0) tf_51 rfl rfl hS16 rfl rfl rfl (wl_lenr (e := ty_63) (l := x1.1) Try.underlying51 rfl rfl h1_0 (wl_neq rfl rfl rfl (wl_move rfl rfl ?_))))))))
   rcases bE ((List.length x0.1 : Int) != (List.length x1.1 : Int)) with h72 | h72
   ·replace hF := ifP h72 hF
    refine wl_off rfl rfl rfl h72 (wl_off rfl rfl rfl h72 (wl_off rfl rfl rfl h72 (wl_off rfl rfl rfl h72 (wl_off rfl rfl rfl h72 (wl_off rfl rfl rfl h72 (wl_pick_t rfl rfl h72 rfl (wl_move rfl rfl (wl_off rfl rfl rfl rfl (wl_off rfl rfl rfl rfl (wl_off rfl rfl rfl rfl (wl_off rfl rfl rfl rfl (wl_off rfl rfl rfl rfl (wl_pick_t rfl rfl rfl rfl ?_)))))))))))))
    refine wl_move rfl rfl (wl_off rfl rfl rfl rfl (wl_off rfl rfl rfl rfl (wl_off rfl rfl rfl rfl (wl_off rfl rfl rfl rfl (wl_off rfl rfl rfl rfl (wl_pick_t rfl rfl rfl rfl (WL.nil ?_)))))))
    exact fun a ha => hJ29 (true) _ hF hB15 (hS16.sel [0, 1] rfl) a (ha.sub ⟨rfl, rfl, rfl, trivial⟩)
   ·replace hF := ifN h72 hF
    refine wl_on rfl rfl h72 (wl_field (o := 1) (off' := 1) ff_53_1 rfl rfl rfl (wl_on rfl rfl h72 (wl_load_blk (i := 0) (vs := [v0_1]) (v := v0_1) tf_29 rfl rfl hS16 rfl rfl rfl (wl_on rfl rfl h72 (wl_field (o := 1) (off' := 1) ff_53_1 rfl rfl rfl (wl_on rfl rfl h72 (wl_load_blk (i := 1) (vs := [v1_1]) (v := v1_1) tf_29 rfl rfl hS16 rfl rfl rfl (wl_on rfl rfl h72 ?_))))))))
    obtain ⟨u73, hu73, hF⟩ := bindE hF
    refine wl_call rfl Try.call147 (C_slices_Equal_int_int w14 x0.2.1 v0_1 (h0_1.ro hB15) x1.2.1 v1_1 (h1_1.ro hB15) _ hu73) rfl ?_
    rintro _ w74 ⟨rfl, hb75⟩
    refine ⟨_, rfl, ?_⟩
    have hB76 := hB15.trans (hb75.mono hB15.size)
    have hS77 := hS16.below hb75
    refine wl_on rfl rfl h72 (wl_not rfl rfl (wl_pick_f rfl rfl h72 rfl (wl_move rfl rfl ?_)))
    rcases bE (!u73) with h79 | h79
    ·replace hF := ifP h79 hF
     refine wl_off rfl rfl rfl h79 (wl_off rfl rfl rfl h79 (wl_off rfl rfl rfl h79 (wl_off rfl rfl rfl h79 (wl_off rfl rfl rfl h79 (wl_pick_t rfl rfl h79 rfl (wl_move rfl rfl (wl_off rfl rfl rfl rfl (wl_off rfl rfl rfl rfl (wl_off rfl rfl rfl rfl (wl_off rfl rfl rfl rfl (wl_off rfl rfl rfl rfl (wl_pick_t rfl rfl rfl rfl (WL.nil ?_)))))))))))))
     exact fun a ha => hJ29 (true) _ hF hB76 (hS77.sel [0, 1] rfl) a (ha.sub ⟨rfl, rfl, rfl, trivial⟩)
    ·replace hF := ifN h79 hF
     refine wl_on rfl rfl h79 (wl_field (o := 2) (off' := 2) ff_53_2 rfl rfl rfl (wl_on rfl rfl h79 (wl_load_blk (i := 0) (vs := [(.int .i64 x0.2.2.1)]) (v := (.int .i64 x0.2.2.1)) tf_3 rfl rfl hS77 rfl rfl rfl (wl_on rfl rfl h79 (wl_field (o := 2) (off' := 2) ff_53_2 rfl rfl rfl (wl_on rfl rfl h79 (wl_load_blk (i := 1) (vs := [(.int .i64 x1.2.2.1)]) (v := (.int .i64 x1.2.2.1)) tf_3 rfl rfl hS77 rfl rfl rfl (wl_on rfl rfl h79 (wl_neq rfl rfl rfl (wl_pick_f rfl rfl h79 rfl (wl_move rfl rfl ?_)))))))))))
     rcases bE (x0.2.2.1 != x1.2.2.1) with h80 | h80
     ·replace hF := ifP h80 hF
      refine wl_off rfl rfl rfl h80 (wl_off rfl rfl rfl h80 (wl_off rfl rfl rfl h80 (wl_off rfl rfl rfl h80 (wl_off rfl rfl rfl h80 (wl_pick_t rfl rfl h80 rfl (WL.nil ?_))))))
      exact fun a ha => hJ29 (true) _ hF hB76 (hS77.sel [0, 1] rfl) a (ha.sub ⟨rfl, rfl, rfl, trivial⟩)
     ·replace hF := ifN h80 hF
      refine wl_on rfl rfl h80 (wl_field (o := 3) (off' := 3) ff_53_3 rfl rfl rfl (wl_on rfl rfl h80 (wl_load_blk (i := 0) (vs := [(.int .i64 x0.2.2.2)]) (v := (.int .i64 x0.2.2.2)) tf_3 rfl rfl hS77 rfl rfl rfl (wl_on rfl rfl h80 (wl_field (o := 3) (off' := 3) ff_53_3 rfl rfl rfl (wl_on rfl rfl h80 (wl_load_blk (i := 1) (vs := [(.int .i64 x1.2.2.2)]) (v := (.int .i64 x1.2.2.2)) tf_3 rfl rfl hS77 rfl rfl rfl (wl_on rfl rfl h80 (wl_neq rfl rfl rfl (wl_pick_f rfl rfl h80 rfl (WL.nil ?_)))))))))))
      exact fun a ha => hJ29 ((x0.2.2.2 != x1.2.2.2)) _ hF hB76 (hS77.sel [0, 1] rfl) a (ha.sub ⟨rfl, rfl, rfl, trivial⟩)
 refine W.region (wl_load_blk (i := 1) (vs := [v0_0, v0_1, (.int .i64 x0.2.2.1), (.int .i64 x0.2.2.2)]) (v := (.agg #[v0_0, v0_1, (.int .i64 x0.2.2.1), (.int .i64 x0.2.2.2)])) tf_53 rfl rfl hS11 rfl rfl rfl ?_)
 obtain ⟨u81, hu81, hF⟩ := bindE hF
 refine wl_call rfl Try.call60 (C_impl_IsShow w8 x0 v0_0 (h0_0.ro hB10) v0_1 (h0_1.ro hB10) _ hu81) rfl ?_
 rintro _ w82 ⟨rfl, hb83⟩
 refine ⟨_, rfl, ?_⟩
 have hB84 := hB10.trans (hb83.mono hB10.size)
 have hS85 := hS11.below hb83
 refine wl_not rfl rfl (wl_move rfl rfl ?_)
 rcases bE (!u81) with h87 | h87
 ·replace hF := ifP h87 hF
  refine wl_off rfl rfl rfl h87 (wl_off rfl rfl rfl h87 (wl_off rfl rfl rfl h87 (wl_pick_t rfl rfl h87 rfl (WL.nil ?_))))
  exact fun a ha => hJ19 (true) _ hF hB84 (hS85.sel [1, 0] rfl) a (ha.sub ⟨rfl, rfl, rfl, trivial⟩)
 ·replace hF := ifN h87 hF
  refine wl_on rfl rfl h87 (wl_load_blk (i := 0) (vs := [v1_0, v1_1, (.int .i64 x1.2.2.1), (.int .i64 x1.2.2.2)]) (v := (.agg #[v1_0, v1_1, (.int .i64 x1.2.2.1), (.int .i64 x1.2.2.2)])) tf_53 rfl rfl hS85 rfl rfl rfl (wl_on rfl rfl h87 ?_))
  obtain ⟨u88, hu88, hF⟩ := bindE hF
  refine wl_call rfl Try.call60 (C_impl_IsShow w82 x1 v1_0 (h1_0.ro hB84) v1_1 (h1_1.ro hB84) _ hu88) rfl ?_
  rintro _ w89 ⟨rfl, hb90⟩
  refine ⟨_, rfl, ?_⟩
  have hB91 := hB84.trans (hb90.mono hB84.size)
  have hS92 := hS85.below hb90
  refine wl_on rfl rfl h87 (wl_not rfl rfl (wl_pick_f rfl rfl h87 rfl (WL.nil ?_)))
  exact fun a ha => hJ19 ((!u88)) _ hF hB91 (hS92.sel [1, 0] rfl) a (ha.sub ⟨rfl, rfl, rfl, trivial⟩)
theorem C_spec_l1Same (w0 : World) (x0 : (List Int)) (v0_0 : Value) (h0_0 : rdS ty_3 (· < w0.heap.size) w0 v0_0 x0) (x1 : (List Int)) (v1_0 : Value) (h1_0 : rdS ty_3 (· < w0.heap.size) w0 v1_0 x1) (r : Bool) (hF : F_spec_l1Same x0 x1 = some r) :
  Calls Try.prog 148 [v0_0, v1_0].toArray w0 fun e w' => e = .returned (.bool r) ∧ Below w0.heap.size w0 w' := by
 refine calls_mk' Try.func148 rfl Try.ntmps148 rfl rfl fun Q hQ hP => ?_
 have hB : Below w0.heap.size w0 w0 := Below.refl _ _
 have hS : Sep w0.heap.size w0 [] := Sep.nil _ _
 unfold F_spec_l1Same at hF
 refine W.seq fun K1 hK1 => W.region (wl_assign rfl rfl (WL.nil (fun a ha => hK1 _ _ (W.seq fun K2 hK2 => (W.seq fun K3 hK3 => (W.region (wl_move rfl rfl (wl_lenr (e := ty_3) (l := x0) Try.underlying29 rfl rfl h0_0 (wl_move rfl rfl (wl_lenr (e := ty_3) (l := x1) Try.underlying29 rfl rfl h1_0 (wl_neq rfl rfl rfl (WL.nil ?_))))))))) a ha)))
 refine fun a ha => hK3 _ _ (W.cond rfl (fun h4 => ?_) (fun h4 => ?_)) a ha
 ·replace hF := ifP h4 hF
  refine W.seq fun K5 hK5 => W.region (wl_assign rfl rfl (WL.nil (fun a ha => hK5 _ _ (W.ret ?_) a ha)))
  have hr := Option.some.inj hF
  subst hr
  exact rets (vs := [(.bool false)]) hQ rfl ⟨rv_tmp rfl, trivial⟩ ⟨rfl, hB⟩
 ·replace hF := ifN h4 hF
  refine W.skip fun a ha => hK2 _ _ (W.seq fun K6 hK6 => (W.seq fun K7 hK7 => (W.region (wl_move rfl rfl (wl_lenr (e := ty_3) (l := x0) Try.underlying29 rfl rfl h0_0 (wl_move rfl rfl (WL.nil (fun a ha => hK7 _ _ (W.block (W.loopk (fun m a w8 => ∃ (y11 : Int), St 26 [(0, v0_0), (1, v1_0), (12, (.int .i64 (List.length x0 : Int))), (13, (.int .i64 y11))] a ∧ Below w0.heap.size w0 w8 ∧ Sep w0.heap.size w8 [] ∧ F_spec_l1Same_L1 x0 x1 m y11 = some r) FU ?_ ?_)) a ha)))))))) a ha
  ·
   exact fun a ha => ⟨0, ha.sub ⟨rfl, rfl, rfl, rfl, trivial⟩, hB, (hS.sel [] rfl), hF⟩
  ·
   rintro m14 a w8 ⟨y11, ha, hB9, hS10, hF⟩ KL13 hKL13
   refine W.at ?_ ha
   cases m14 with
   | zero => exact noneE hF
   | succ m14 =>
    obtain ⟨nx12, hnx12⟩ : ∃ k, k = F_spec_l1Same_L1 x0 x1 m14 := ⟨_, rfl⟩
    rw [F_spec_l1Same_L1, ← hnx12] at hF
    refine W.seq fun K15 hK15 => W.region (wl_lss rfl rfl rfl (WL.nil (fun a ha => hK15 _ _ (W.seq fun K16 hK16 => (W.cond rfl (fun h17 => ?_) (fun h17 => ?_))) a ha)))
    ·replace hF := ifP h17 hF
     refine W.skip fun a ha => hK16 _ _ (W.seq fun K18 hK18 => (W.block (W.seq fun K19 hK19 => (W.region (wl_move rfl rfl (wl_assign rfl rfl (WL.nil (fun a ha => hK19 _ _ (W.seq fun K20 hK20 => (W.regionH mixed_ [] hB9 hS10 ?_)) a ha)))))))) a ha
     intro w21 hb22 hB23 hS24
     have hSW25 := KeepX.refl w21 []
     refine WH.tk 0 rfl hP hSW25 (pr_move rfl rfl (WH.tk 1 rfl hP hSW25 (pr_move rfl rfl ?_)))
     obtain ⟨u26, hu26, hF⟩ := bindE hF
     refine WH.tk 2 rfl hP hSW25 (pr_index (e := ty_3) Try.underlying29 rfl rfl rfl h0_0 hu26 ?_)
     rintro p27 _ rfl hp28
     refine WH.tk 3 rfl hP hSW25 (pr_load_p (vs := [(.int .i64 u26)]) (v := (.int .i64 u26)) tf_3 rfl rfl (hp28.kx hB23 (by simp)) rfl rfl (WH.tk 4 rfl hP hSW25 (pr_move rfl rfl (WH.tk 5 rfl hP hSW25 (pr_move rfl rfl ?_)))))
     obtain ⟨u29, hu29, hF⟩ := bindE hF
     refine WH.tk 6 rfl hP hSW25 (pr_index (e := ty_3) Try.underlying29 rfl rfl rfl h1_0 hu29 ?_)
     rintro p30 _ rfl hp31
     refine WH.tk 7 rfl hP hSW25 (pr_load_p (vs := [(.int .i64 u29)]) (v := (.int .i64 u29)) tf_3 rfl rfl (hp31.kx hB23 (by simp)) rfl rfl (WH.tk 8 rfl hP hSW25 (pr_neq rfl rfl rfl (WH.done (by kernel_rfl) (fun a ha => hK20 _ _ (W.cond rfl (fun h32 => ?_) (fun h32 => ?_)) a ha)))))
     ·replace hF := ifP h32 hF
      refine W.seq fun K33 hK33 => W.region (wl_assign rfl rfl (WL.nil (fun a ha => hK33 _ _ (W.ret ?_) a ha)))
      have hr := Option.some.inj hF
      subst hr
      exact rets (vs := [(.bool false)]) hQ rfl ⟨rv_tmp rfl, trivial⟩ ⟨rfl, hB23⟩
     ·replace hF := ifN h32 hF
      refine W.skip fun a ha => hK18 _ _ (W.region (wl_add rfl rfl rfl (wl_move rfl rfl (WL.nil ?_)))) a ha
      rw [hnx12] at hF
      exact fun a ha => hKL13 a _ m14 (Nat.lt_succ_self m14) ⟨(w64 (y11 + 1)), ha.sub ⟨rfl, rfl, rfl, rfl, trivial⟩, hB23, (hS24.sel [] rfl), hF⟩
    ·replace hF := ifN h17 hF
     refine W.exit fun a ha => hK6 _ _ (W.seq fun K34 hK34 => (W.region (wl_assign rfl rfl (WL.nil (fun a ha => hK34 _ _ (W.ret ?_) a ha))))) a ha
     have hr := Option.some.inj hF
     subst hr
     exact rets (vs := [(.bool true)]) hQ rfl ⟨rv_tmp rfl, trivial⟩ ⟨rfl, hB9⟩
theorem C_spec_SameShows (w0 : World) (x0 : ((List (List (Int × Int))) × (List Int) × Int × Int)) (v0_0 : Value) (h0_0 : rdS ty_63 (· < w0.heap.size) w0 v0_0 x0.1) (v0_1 : Value) (h0_1 : rdS ty_3 (· < w0.heap.size) w0 v0_1 x0.2.1) (x1 : ((List (List (Int × Int))) × (List Int) × Int × Int)) (v1_0 : Value) (h1_0 : rdS ty_63 (· < w0.heap.size) w0 v1_0 x1.1) (v1_1 : Value) (h1_1 : rdS ty_3 (· < w0.heap.size) w0 v1_1 x1.2.1) (r : (Bool × Bool)) (hF : F_spec_SameShows x0 x1 = some r) :
  Calls Try.prog 38 [(.agg #[v0_0, v0_1, (.int .i64 x0.2.2.1), (.int .i64 x0.2.2.2)]), (.agg #[v1_0, v1_1, (.int .i64 x1.2.2.1), (.int .i64 x1.2.2.2)])].toArray w0 fun e w' => e = .returned (.tuple #[(.bool r.1), (.bool r.2)]) ∧ Below w0.heap.size w0 w' := by
 refine calls_mk' Try.func38 rfl Try.ntmps38 rfl rfl fun Q hQ hP => ?_
 have hB : Below w0.heap.size w0 w0 := Below.refl _ _
 have hS : Sep w0.heap.size w0 [] := Sep.nil _ _
 unfold F_spec_SameShows at hF
 refine W.seq fun K1 hK1 => W.region (wl_box (cs := [v0_0, v0_1, (.int .i64 x0.2.2.1), (.int .i64 x0.2.2.2)]) rfl rfl rfl hB hS ?_)
 intro b2 w3 hb4 hB5 hS6
 refine wl_box (cs := [v1_0, v1_1, (.int .i64 x1.2.2.1), (.int .i64 x1.2.2.2)]) rfl rfl rfl hB5 hS6 ?_
 intro b7 w8 hb9 hB10 hS11
 refine wl_assign rfl rfl (wl_assign rfl rfl (WL.nil (fun a ha => hK1 _ _ (W.seq fun K12 hK12 => (W.seq fun K13 hK13 => ?_)) a ha)))
 obtain ⟨k18, hk18, hF⟩ := jE1 hF
 have hJ19 : ∀ (y17 : Bool) (w14 : World) (_ : k18 y17 = some r) (_ : Below w0.heap.size w0 w14) (_ : Sep w0.heap.size w14 [R.blk b2 53 [v0_0, v0_1, (.int .i64 x0.2.2.1), (.int .i64 x0.2.2.2)], R.blk b7 53 [v1_0, v1_1, (.int .i64 x1.2.2.1), (.int .i64 x1.2.2.2)]]), ∀ a, St 60 [(2, (.pointer (some ⟨b2, 0, none⟩))), (3, (.pointer (some ⟨b7, 0, none⟩))), (13, (.bool y17))] a → K13 a w14 := by
  intro y17 w14 hF hB15 hS16
  subst hk18
  refine fun a ha => hK13 _ _ (W.cond rfl (fun h20 => ?_) (fun h20 => ?_)) a ha
  ·replace hF := ifP h20 hF
   refine W.seq fun K21 hK21 => W.region (wl_assign rfl rfl (wl_assign rfl rfl (WL.nil (fun a ha => hK21 _ _ (W.ret ?_) a ha))))
   have hr := Option.some.inj hF
   subst hr
   exact rets (vs := [(.bool false), (.bool false)]) hQ rfl ⟨rv_tmp rfl, rv_tmp rfl, trivial⟩ ⟨rfl, hB15⟩
  ·replace hF := ifN h20 hF
   refine W.skip fun a ha => hK12 _ _ (W.seq fun K22 hK22 => (W.seq fun K23 hK23 => ?_)) a ha
   obtain ⟨k28, hk28, hF⟩ := jE1 hF
   have hJ29 : ∀ (y27 : Bool) (w24 : World) (_ : k28 y27 = some r) (_ : Below w0.heap.size w0 w24) (_ : Sep w0.heap.size w24 [R.blk b2 53 [v0_0, v0_1, (.int .i64 x0.2.2.1), (.int .i64 x0.2.2.2)], R.blk b7 53 [v1_0, v1_1, (.int .i64 x1.2.2.1), (.int .i64 x1.2.2.2)]]), ∀ a, St 60 [(2, (.pointer (some ⟨b2, 0, none⟩))), (3, (.pointer (some ⟨b7, 0, none⟩))), (33, (.bool y27))] a → K23 a w24 := by
    intro y27 w24 hF hB25 hS26
    subst hk28
    refine fun a ha => hK23 _ _ (W.cond rfl (fun h30 => ?_) (fun h30 => ?_)) a ha
    ·replace hF := ifP h30 hF
     refine W.seq fun K31 hK31 => W.region (wl_assign rfl rfl (wl_assign rfl rfl (WL.nil (fun a ha => hK31 _ _ (W.ret ?_) a ha))))
     have hr := Option.some.inj hF
     subst hr
     exact rets (vs := [(.bool false), (.bool true)]) hQ rfl ⟨rv_tmp rfl, rv_tmp rfl, trivial⟩ ⟨rfl, hB25⟩
    ·replace hF := ifN h30 hF
     refine W.skip fun a ha => hK22 _ _ (W.seq fun K32 hK32 => ?_) a ha
     obtain ⟨k37, hk37, hF⟩ := jE1 hF
     have hJ38 : ∀ (y36 : Bool) (w33 : World) (_ : k37 y36 = some r) (_ : Below w0.heap.size w0 w33) (_ : Sep w0.heap.size w33 []), ∀ a, St 60 [(4, (.bool y36)), (5, (.bool true))] a → K32 a w33 := by
      intro y36 w33 hF hB34 hS35
      subst hk37
      refine fun a ha => hK32 _ _ (W.ret ?_) a ha
      have hr := Option.some.inj hF
      subst hr
      exact rets (vs := [(.bool y36), (.bool true)]) hQ rfl ⟨rv_tmp rfl, rv_tmp rfl, trivial⟩ ⟨rfl, hB34⟩
     refine W.region (wl_load_blk (i := 0) (vs := [v0_0, v0_1, (.int .i64 x0.2.2.1), (.int .i64 x0.2.2.2)]) (v := (.agg #[v0_0, v0_1, (.int .i64 x0.2.2.1), (.int .i64 x0.2.2.2)])) tf_53 rfl rfl hS26 rfl rfl rfl (wl_load_blk (i := 1) (vs := [v1_0, v1_1, (.int .i64 x1.2.2.1), (.int .i64 x1.2.2.2)]) (v := (.agg #[v1_0, v1_1, (.int .i64 x1.2.2.1), (.int .i64 x1.2.2.2)])) tf_53 rfl rfl hS26 rfl rfl rfl ?_))
     obtain ⟨u39, hu39, hF⟩ := bindE hF
     refine wl_call rfl Try.call146 (C_spec_cpDifferent w24 x0 v0_0 (h0_0.ro hB25) v0_1 (h0_1.ro hB25) x1 v1_0 (h1_0.ro hB25) v1_1 (h1_1.ro hB25) _ hu39) rfl ?_
     rintro _ w42 ⟨v40, F41, rfl, hb43, hM46⟩
     refine ⟨_, rfl, ?_⟩
     have hB44 := hB25.trans (hb43.mono hB25.size)
     have hS45 := hS26.join hb43 hM46 hB25.size
     refine wl_lenr (e := ty_3) (l := u39) Try.underlying29 rfl rfl (hS45.own_ro (i := 0) rfl) (wl_eql rfl rfl rfl (wl_move rfl rfl ?_))
     rcases bE ((List.length u39 : Int) == 0) with h47 | h47
     ·replace hF := ifP h47 hF
      refine wl_on rfl rfl h47 (wl_field (o := 1) (off' := 1) ff_53_1 rfl rfl rfl (wl_on rfl rfl h47 (wl_load_blk (i := 1) (vs := [v0_1]) (v := v0_1) tf_29 rfl rfl hS45 rfl rfl rfl (wl_on rfl rfl h47 (wl_field (o := 1) (off' := 1) ff_53_1 rfl rfl rfl (wl_on rfl rfl h47 (wl_load_blk (i := 2) (vs := [v1_1]) (v := v1_1) tf_29 rfl rfl hS45 rfl rfl rfl (wl_on rfl rfl h47 ?_))))))))
      obtain ⟨u48, hu48, hF⟩ := bindE hF
      refine wl_call rfl Try.call148 (C_spec_l1Same w42 x0.2.1 v0_1 (h0_1.ro hB44) x1.2.1 v1_1 (h1_1.ro hB44) _ hu48) rfl ?_
      rintro _ w49 ⟨rfl, hb50⟩
      refine ⟨_, rfl, ?_⟩
      have hB51 := hB44.trans (hb50.mono hB44.size)
      have hS52 := hS45.below hb50
      refine wl_pick_t rfl rfl h47 rfl (wl_move rfl rfl ?_)
      rcases bE u48 with h54 | h54
      ·replace hF := ifP h54 hF
       refine wl_on rfl rfl h54 (wl_field (o := 2) (off' := 2) ff_53_2 rfl rfl rfl (wl_on rfl rfl h54 (wl_load_blk (i := 1) (vs := [(.int .i64 x0.2.2.1)]) (v := (.int .i64 x0.2.2.1)) tf_3 rfl rfl hS52 rfl rfl rfl (wl_on rfl rfl h54 (wl_field (o := 2) (off' := 2) ff_53_2 rfl rfl rfl (wl_on rfl rfl h54 (wl_load_blk (i := 2) (vs := [(.int .i64 x1.2.2.1)]) (v := (.int .i64 x1.2.2.1)) tf_3 rfl rfl hS52 rfl rfl rfl (wl_on rfl rfl h54 (wl_eql rfl rfl rfl (wl_pick_t rfl rfl h54 rfl (wl_move rfl rfl ?_)))))))))))
       rcases bE (x0.2.2.1 == x1.2.2.1) with h55 | h55
       ·replace hF := ifP h55 hF
        refine wl_on rfl rfl h55 (wl_field (o := 3) (off' := 3) ff_53_3 rfl rfl rfl (wl_on rfl rfl h55 (wl_load_blk (i := 1) (vs := [(.int .i64 x0.2.2.2)]) (v := (.int .i64 x0.2.2.2)) tf_3 rfl rfl hS52 rfl rfl rfl (wl_on rfl rfl h55 (wl_field (o := 3) (off' := 3) ff_53_3 rfl rfl rfl (wl_on rfl rfl h55 (wl_load_blk (i := 2) (vs := [(.int .i64 x1.2.2.2)]) (v := (.int .i64 x1.2.2.2)) tf_3 rfl rfl hS52 rfl rfl rfl (wl_on rfl rfl h55 (wl_eql rfl rfl rfl (wl_pick_t rfl rfl h55 rfl (wl_assign rfl rfl (wl_assign rfl rfl (WL.nil ?_)))))))))))))
        exact fun a ha => hJ38 ((x0.2.2.2 == x1.2.2.2)) _ hF hB51 (hS52.sel [] rfl) a (ha.sub ⟨rfl, rfl, trivial⟩)
       ·replace hF := ifN h55 hF
        refine wl_off rfl rfl rfl h55 (wl_off rfl rfl rfl h55 (wl_off rfl rfl rfl h55 (wl_off rfl rfl rfl h55 (wl_off rfl rfl rfl h55 (wl_pick_f rfl rfl h55 rfl (wl_assign rfl rfl (wl_assign rfl rfl (WL.nil ?_))))))))
        exact fun a ha => hJ38 (false) _ hF hB51 (hS52.sel [] rfl) a (ha.sub ⟨rfl, rfl, trivial⟩)
      ·replace hF := ifN h54 hF
       refine wl_off rfl rfl rfl h54 (wl_off rfl rfl rfl h54 (wl_off rfl rfl rfl h54 (wl_off rfl rfl rfl h54 (wl_off rfl rfl rfl h54 (wl_pick_f rfl rfl h54 rfl (wl_move rfl rfl (wl_off rfl rfl rfl rfl (wl_off rfl rfl rfl rfl (wl_off rfl rfl rfl rfl (wl_off rfl rfl rfl rfl (wl_off rfl rfl rfl rfl (wl_pick_f rfl rfl rfl rfl (wl_assign rfl rfl ?_)))))))))))))
       refine wl_assign rfl rfl (WL.nil ?_)
       exact fun a ha => hJ38 (false) _ hF hB51 (hS52.sel [] rfl) a (ha.sub ⟨rfl, rfl, trivial⟩)
     ·replace hF := ifN h47 hF
      refine wl_off rfl rfl rfl h47 (wl_off rfl rfl rfl h47 (wl_off rfl rfl rfl h47 (wl_off rfl rfl rfl h47 (wl_off rfl rfl rfl h47 (wl_pick_f rfl rfl h47 rfl (wl_move rfl rfl (wl_off rfl rfl rfl rfl (wl_off rfl rfl rfl rfl (wl_off rfl rfl rfl rfl (wl_off rfl rfl rfl rfl (wl_off rfl rfl rfl rfl (wl_pick_f rfl rfl rfl rfl (wl_move rfl rfl ?_)))))))))))))
      refine wl_off rfl rfl rfl rfl (wl_off rfl rfl rfl rfl (wl_off rfl rfl rfl rfl (wl_off rfl rfl rfl rfl (wl_off rfl rfl rfl rfl (wl_pick_f rfl rfl rfl rfl (wl_assign rfl rfl (wl_assign rfl rfl (WL.nil ?_))))))))
      exact fun a ha => hJ38 (false) _ hF hB44 (hS45.sel [] rfl) a (ha.sub ⟨rfl, rfl, trivial⟩)
   refine W.regionH mixed_ [] hB15 hS16 ?_
   intro w56 hb57 hB58 hS59
   have hSW60 := KeepX.refl w56 []
   refine WH.tk 0 rfl hP hSW60 (pr_field (o := 0) (off' := 0) ff_53_0 rfl rfl rfl (WH.tk 1 rfl hP hSW60 (pr_load_blk (i := 0) (vs := [v0_0]) (v := v0_0) tf_51 rfl rfl hS59 rfl rfl rfl (by simp) (WH.tk 2 rfl hP hSW60 (pr_lenr (e := ty_63) (l := x0.1) Try.underlying51 rfl rfl h0_0 (WH.tk 3 rfl hP hSW60 (pr_field (o := 0) (off' := 0) ff_53_0 rfl rfl rfl (WH.tk 4 rfl hP hSW60 (pr_load_blk (i := 1) (vs := [v1_0]) (v := v1_0) tf_51 rfl rfl hS59 rfl rfl rfl (by simp) (WH.tk 5 rfl hP hSW60 (pr_lenr (e := ty_63) (l := x1.1) Try.underlying51 rfl rfl h1_0 (WH.tk 6 rfl hP hSW60 (pr_neq rfl rfl rfl ?_)))))))))))))
   refine WH.tk 7 rfl hP hSW60 (pr_move rfl rfl ?_)
   rcases bE ((List.length x0.1 : Int) != (List.length x1.1 : Int)) with h61 | h61
   ·replace hF := ifP h61 hF
    refine WH.off (i := 8) rfl (by kernel_rfl) (by kernel_rfl) (by kernel_rfl) hP rfl rfl h61 rfl hSW60 (WH.off (i := 9) rfl (by kernel_rfl) (by kernel_rfl) (by kernel_rfl) hP rfl rfl h61 rfl hSW60 (WH.off (i := 10) rfl (by kernel_rfl) (by kernel_rfl) (by kernel_rfl) hP rfl rfl h61 rfl hSW60 (WH.off (i := 11) rfl (by kernel_rfl) (by kernel_rfl) (by kernel_rfl) hP rfl rfl h61 rfl hSW60 (WH.off (i := 12) rfl (by kernel_rfl) (by kernel_rfl) (by kernel_rfl) hP rfl rfl h61 rfl hSW60 (WH.off (i := 13) rfl (by kernel_rfl) (by kernel_rfl) (by kernel_rfl) hP rfl rfl h61 rfl hSW60 (WH.off (i := 14) rfl (by kernel_rfl) (by kernel_rfl) (by kernel_rfl) hP rfl rfl h61 rfl hSW60 (WH.off (i := 15) rfl (by kernel_rfl) (by kernel_rfl) (by kernel_rfl) hP rfl rfl h61 rfl hSW60 (WH.off (i := 16) rfl (by kernel_rfl) (by kernel_rfl) (by kernel_rfl) hP rfl rfl h61 rfl hSW60 ?_))))))))
    refine WH.off (i := 17) rfl (by kernel_rfl) (by kernel_rfl) (by kernel_rfl) hP rfl rfl h61 rfl hSW60 (WH.off (i := 18) rfl (by kernel_rfl) (by kernel_rfl) (by kernel_rfl) hP rfl rfl h61 rfl hSW60 (WH.tk 19 rfl hP hSW60 (pr_pick_t rfl rfl h61 rfl (WH.done (by kernel_rfl) ?_))))
    exact fun a ha => hJ29 (true) _ hF hB58 (hS59.sel [0, 1] rfl) a (ha.sub ⟨rfl, rfl, rfl, trivial⟩)
   ·replace hF := ifN h61 hF
    refine WH.takexg (i := 8) rfl (by kernel_rfl) (by kernel_rfl) (by kernel_rfl) hP rfl rfl h61 hSW60 (pr_field (o := 0) (off' := 0) ff_53_0 rfl rfl rfl (WH.takexg (i := 9) rfl (by kernel_rfl) (by kernel_rfl) (by kernel_rfl) hP rfl rfl h61 hSW60 (pr_load_blk (i := 0) (vs := [v0_0]) (v := v0_0) tf_51 rfl rfl hS59 rfl rfl rfl (by simp) ?_)))
    obtain ⟨u62, hu62, hF⟩ := bindE hF
    refine WH.takexg (i := 10) rfl (by kernel_rfl) (by kernel_rfl) (by kernel_rfl) hP rfl rfl h61 hSW60 (pr_index (e := ty_63) Try.underlying51 rfl rfl rfl h0_0 hu62 ?_)
    rintro p63 _ ⟨v65, rfl, hv66⟩ hp64
    refine WH.takexg (i := 11) rfl (by kernel_rfl) (by kernel_rfl) (by kernel_rfl) hP rfl rfl h61 hSW60 (pr_load_p (vs := [v65]) (v := v65) tf_63 rfl rfl (hp64.kx hB58 (by simp)) rfl rfl (WH.takexg (i := 12) rfl (by kernel_rfl) (by kernel_rfl) (by kernel_rfl) hP rfl rfl h61 hSW60 (pr_lenr (e := ty_68) (l := u62) Try.underlying63 rfl rfl hv66 (WH.takexg (i := 13) rfl (by kernel_rfl) (by kernel_rfl) (by kernel_rfl) hP rfl rfl h61 hSW60 (pr_field (o := 0) (off' := 0) ff_53_0 rfl rfl rfl (WH.takexg (i := 14) rfl (by kernel_rfl) (by kernel_rfl) (by kernel_rfl) hP rfl rfl h61 hSW60 (pr_load_blk (i := 1) (vs := [v1_0]) (v := v1_0) tf_51 rfl rfl hS59 rfl rfl rfl (by simp) ?_)))))))
    obtain ⟨u67, hu67, hF⟩ := bindE hF
    refine WH.takexg (i := 15) rfl (by kernel_rfl) (by kernel_rfl) (by kernel_rfl) hP rfl rfl h61 hSW60 (pr_index (e := ty_63) Try.underlying51 rfl rfl rfl h1_0 hu67 ?_)
    rintro p68 _ ⟨v70, rfl, hv71⟩ hp69
    refine WH.takexg (i := 16) rfl (by kernel_rfl) (by kernel_rfl) (by kernel_rfl) hP rfl rfl h61 hSW60 (pr_load_p (vs := [v70]) (v := v70) tf_63 rfl rfl (hp69.kx hB58 (by simp)) rfl rfl (WH.takexg (i := 17) rfl (by kernel_rfl) (by kernel_rfl) (by kernel_rfl) hP rfl rfl h61 hSW60 (pr_lenr (e := ty_68) (l := u67) Try.underlying63 rfl rfl hv71 (WH.takexg (i := 18) rfl (by kernel_rfl) (by kernel_rfl) (by kernel_rfl) hP rfl rfl h61 hSW60 (pr_neq rfl rfl rfl (WH.tk 19 rfl hP hSW60 (pr_pick_f rfl rfl h61 rfl (WH.done (by kernel_rfl) ?_))))))))
    exact fun a ha => hJ29 (((List.length u62 : Int) != (List.length u67 : Int))) _ hF hB58 (hS59.sel [0, 1] rfl) a (ha.sub ⟨rfl, rfl, rfl, trivial⟩)
 refine W.region (wl_load_blk (i := 1) (vs := [v0_0, v0_1, (.int .i64 x0.2.2.1), (.int .i64 x0.2.2.2)]) (v := (.agg #[v0_0, v0_1, (.int .i64 x0.2.2.1), (.int .i64 x0.2.2.2)])) tf_53 rfl rfl hS11 rfl rfl rfl ?_)
 obtain ⟨u72, hu72, hF⟩ := bindE hF
 refine wl_call rfl Try.call145 (C_spec_swGood w8 x0 v0_0 (h0_0.ro hB10) v0_1 (h0_1.ro hB10) _ hu72) rfl ?_
 rintro _ w73 ⟨rfl, hb74⟩
 refine ⟨_, rfl, ?_⟩
 have hB75 := hB10.trans (hb74.mono hB10.size)
 have hS76 := hS11.below hb74
 refine wl_not rfl rfl (wl_move rfl rfl ?_)
 rcases bE (!u72) with h78 | h78
 ·replace hF := ifP h78 hF
  refine wl_off rfl rfl rfl h78 (wl_off rfl rfl rfl h78 (wl_off rfl rfl rfl h78 (wl_pick_t rfl rfl h78 rfl (WL.nil ?_))))
  exact fun a ha => hJ19 (true) _ hF hB75 (hS76.sel [1, 0] rfl) a (ha.sub ⟨rfl, rfl, rfl, trivial⟩)
 ·replace hF := ifN h78 hF
  refine wl_on rfl rfl h78 (wl_load_blk (i := 0) (vs := [v1_0, v1_1, (.int .i64 x1.2.2.1), (.int .i64 x1.2.2.2)]) (v := (.agg #[v1_0, v1_1, (.int .i64 x1.2.2.1), (.int .i64 x1.2.2.2)])) tf_53 rfl rfl hS76 rfl rfl rfl (wl_on rfl rfl h78 ?_))
  obtain ⟨u79, hu79, hF⟩ := bindE hF
  refine wl_call rfl Try.call145 (C_spec_swGood w73 x1 v1_0 (h1_0.ro hB75) v1_1 (h1_1.ro hB75) _ hu79) rfl ?_
  rintro _ w80 ⟨rfl, hb81⟩
  refine ⟨_, rfl, ?_⟩
  have hB82 := hB75.trans (hb81.mono hB75.size)
  have hS83 := hS76.below hb81
  refine wl_on rfl rfl h78 (wl_not rfl rfl (wl_pick_f rfl rfl h78 rfl (WL.nil ?_)))
  exact fun a ha => hJ19 ((!u79)) _ hF hB82 (hS83.sel [1, 0] rfl) a (ha.sub ⟨rfl, rfl, rfl, trivial⟩)
theorem C_spec_DrawWaySums (w0 : World) (x0 : (List Int)) (v0_0 : Value) (h0_0 : rdS ty_5 (· < w0.heap.size) w0 v0_0 x0) (r : ((List (List (Int × Int))) × (List Int) × Int × Int)) (hF : F_spec_DrawWaySums x0 = some r) :
  Calls Try.prog 39 [v0_0].toArray w0 fun e w' => ∃ (q0 : Value) (G0 : List Nat) (q1 : Value) (G1 : List Nat), e = .returned (.agg #[q0, q1, (.int .i64 r.2.2.1), (.int .i64 r.2.2.2)]) ∧ Below w0.heap.size w0 w' ∧ Sep w0.heap.size w' [R.own ty_63 G0 q0 r.1, R.own ty_3 G1 q1 r.2.1] := by
 refine calls_mk' Try.func39 rfl Try.ntmps39 rfl rfl fun Q hQ hP => ?_
 have hB : Below w0.heap.size w0 w0 := Below.refl _ _
 have hS : Sep w0.heap.size w0 [] := Sep.nil _ _
 unfold F_spec_DrawWaySums at hF
 refine W.seq fun K1 hK1 => W.region (wl_alloc (cs := [(.slice none 0 0), (.slice none 0 0), (.int .i64 0), (.int .i64 0)]) tf_53 rfl rfl hB hS ?_)
 intro b2 w3 hb4 hB5 hS6
 refine WL.nil fun a ha => hK1 _ _ (W.seq fun K7 hK7 => (W.region (wl_move rfl rfl (wl_build (zs := [(.slice none 0 0), (.int .i64 0), (.int .u64 0)]) (out := [v0_0, (.int .i64 0), (.int .u64 0)]) (vs := [v0_0]) (css := [[v0_0]]) tf_131 pl_131 rfl rfl (by simp only [List.map_cons, List.map_nil, cells_one ((h0_0.ro hB5).one)] <;> rfl) rfl rfl (wl_box (cs := [v0_0, (.int .i64 0), (.int .u64 0)]) rfl rfl rfl hB5 hS6 ?_))))) a ha
 intro b8 w9 hb10 hB11 hS12
 refine wl_assign rfl rfl (WL.nil (fun a ha => hK7 _ _ (W.seq fun K13 hK13 => (W.region (wl_move rfl rfl ?_))) a ha))
 obtain ⟨u14, hu14, hF⟩ := bindE hF
 refine wl_call rfl Try.call149 (C_spec_l1Cur__show__mut__box w9 (x0, 0, 0) b8 v0_0 (h0_0.oldo hB11 (hS12.sel [0] rfl)) (hS12.sel [0] rfl).base0 _ hu14) rfl ?_
 rintro _ w15 ⟨v20, F21, v22, F23, rfl, hE16, hM17⟩
 refine ⟨_, rfl, ?_⟩
 have hB18 := hS12.takeB [0] rfl (M := [R.blk b8 131 [v0_0, (.int .i64 0), (.int .u64 0)]]) rfl hB11 hE16 hM17
 have hS19 : Sep w0.heap.size w15 [R.blk b8 131 [v0_0, (.int .i64 u14.2.2.1), (.int .u64 u14.2.2.2)], R.own ty_63 F21 v20 u14.1.1, R.own ty_3 F23 v22 u14.1.2.1, R.blk b2 53 [(.slice none 0 0), (.slice none 0 0), (.int .i64 0), (.int .i64 0)]] := hS12.take [0] [1] rfl (M := [R.blk b8 131 [v0_0, (.int .i64 0), (.int .u64 0)]]) rfl hM17 hB11.size
 refine wl_store_blk (i := 3) (vs := [v20, v22, (.int .i64 u14.1.2.2.1), (.int .i64 u14.1.2.2.2)]) (cs' := [v20, v22, (.int .i64 u14.1.2.2.1), (.int .i64 u14.1.2.2.2)]) tf_53 rfl rfl rfl rfl hB18 hS19 rfl rfl ⟨(hS19.own_ro (i := 1) rfl).one, (hS19.own_ro (i := 2) rfl).one, rfl, rfl, trivial⟩ rfl ?_
 intro w24 hk27 hB25 hS26
 refine WL.nil fun a ha => hK13 _ _ (W.ret ?_) a ha
 have hr := Option.some.inj hF
 subst hr
 exact rets (vs := [(.agg #[v20, v22, (.int .i64 u14.1.2.2.1), (.int .i64 u14.1.2.2.2)])]) hQ rfl ⟨rv_cell (i := 3) tf_53 rfl hS26 rfl rfl rfl, trivial⟩ ⟨v20, F21, v22, F23, rfl, hB25, hS26.sel [1, 2] rfl⟩
theorem C_impl_waySums (w0 : World) (x0 : ((List (List (Int × Int))) × (List Int) × Int × Int)) (v0_0 : Value) (h0_0 : rdS ty_63 (· < w0.heap.size) w0 v0_0 x0.1) (v0_1 : Value) (h0_1 : rdS ty_3 (· < w0.heap.size) w0 v0_1 x0.2.1) (r : (List Int)) (hF : F_impl_waySums x0 = some r) :
  Calls Try.prog 150 [(.agg #[v0_0, v0_1, (.int .i64 x0.2.2.1), (.int .i64 x0.2.2.2)])].toArray w0 fun e w' => ∃ (q0 : Value) (G0 : List Nat), e = .returned q0 ∧ Below w0.heap.size w0 w' ∧ Sep w0.heap.size w' [R.own ty_3 G0 q0 r] := by
 refine calls_mk' Try.func150 rfl Try.ntmps150 rfl rfl fun Q hQ hP => ?_
 have hB : Below w0.heap.size w0 w0 := Below.refl _ _
 have hS : Sep w0.heap.size w0 [] := Sep.nil _ _
 unfold F_impl_waySums at hF
 refine W.seq fun K1 hK1 => W.region (wl_box (cs := [v0_0, v0_1, (.int .i64 x0.2.2.1), (.int .i64 x0.2.2.2)]) rfl rfl rfl hB hS ?_)
 intro b2 w3 hb4 hB5 hS6
 refine wl_assign rfl rfl (WL.nil (fun a ha => hK1 _ _ (W.seq fun K7 hK7 => (W.region (wl_field (o := 0) (off' := 0) ff_53_0 rfl rfl rfl (wl_load_blk (i := 0) (vs := [v0_0]) (v := v0_0) tf_51 rfl rfl hS6 rfl rfl rfl ?_)))) a ha))
 obtain ⟨u8, hu8, hF⟩ := bindE hF
 refine wl_index (e := ty_63) Try.underlying51 rfl rfl rfl h0_0 hu8 ?_
 rintro p9 _ ⟨v11, rfl, hv12⟩ hp10
 refine wl_load_p (vs := [v11]) (v := v11) tf_63 rfl rfl (hp10.ro hB5) rfl rfl (wl_lenr (e := ty_68) (l := u8) Try.underlying63 rfl rfl hv12 ?_)
 obtain ⟨u13, hu13, hF⟩ := bindE hF
 refine wl_make (e := ty_3) Try.underlying29 rfl rfl hu13 hB5 hS6 ?_
 intro v14 F15 w16 hb17 hB18 hS19
 refine wl_assign rfl rfl (WL.nil (fun a ha => hK7 _ _ (W.seq fun K20 hK20 => (W.seq fun K21 hK21 => (W.region (wl_field (o := 1) (off' := 1) ff_53_1 rfl rfl rfl (wl_load_blk (i := 1) (vs := [v0_1]) (v := v0_1) tf_29 rfl rfl hS19 rfl rfl rfl (wl_lenr (e := ty_3) (l := x0.2.1) Try.underlying29 rfl rfl h0_1 (wl_move rfl rfl (WL.nil (fun a ha => hK21 _ _ (W.block (W.loopk (fun m a w22 => ∃ (l25 : (List Int)) (y28 : Int) (v26 : Value) (F27 : List Nat), St 42 [(1, (.pointer (some ⟨b2, 0, none⟩))), (3, v26), (15, (.int .i64 (List.length x0.2.1 : Int))), (16, (.int .i64 y28))] a ∧ Below w0.heap.size w0 w22 ∧ Sep w0.heap.size w22 [R.blk b2 53 [v0_0, v0_1, (.int .i64 x0.2.2.1), (.int .i64 x0.2.2.2)], R.own ty_3 F27 v26 l25] ∧ F_impl_waySums_L1 x0 m l25 y28 = some r) FU ?_ ?_)) a ha))))))))) a ha))
 ·
  exact fun a ha => ⟨u13, 0, v14, F15, ha.sub ⟨rfl, rfl, rfl, rfl, trivial⟩, hB18, (hS19.sel [1, 0] rfl), hF⟩
 ·
  rintro m31 a w22 ⟨l25, y28, v26, F27, ha, hB23, hS24, hF⟩ KL30 hKL30
  refine W.at ?_ ha
  cases m31 with
  | zero => exact noneE hF
  | succ m31 =>
   obtain ⟨nx29, hnx29⟩ : ∃ k, k = F_impl_waySums_L1 x0 m31 := ⟨_, rfl⟩
   rw [F_impl_waySums_L1, ← hnx29] at hF
   refine W.seq fun K32 hK32 => W.region (wl_lss rfl rfl rfl (WL.nil (fun a ha => hK32 _ _ (W.seq fun K33 hK33 => (W.cond rfl (fun h34 => ?_) (fun h34 => ?_))) a ha)))
   ·replace hF := ifP h34 hF
    refine W.skip fun a ha => hK33 _ _ (W.seq fun K35 hK35 => (W.block (W.seq fun K36 hK36 => (W.region (wl_move rfl rfl (wl_assign rfl rfl (WL.nil (fun a ha => hK36 _ _ (W.seq fun K37 hK37 => (W.region (wl_load_blk (i := 0) (vs := [v0_0, v0_1, (.int .i64 x0.2.2.1), (.int .i64 x0.2.2.2)]) (v := (.agg #[v0_0, v0_1, (.int .i64 x0.2.2.1), (.int .i64 x0.2.2.2)])) tf_53 rfl rfl hS24 rfl rfl rfl (wl_move rfl rfl ?_)))) a ha)))))))) a ha
    obtain ⟨u38, hu38, hF⟩ := bindE hF
    refine wl_call rfl Try.call152 (C_impl_showMoves w22 x0 v0_0 (h0_0.ro hB23) v0_1 (h0_1.ro hB23) y28 _ hu38) rfl ?_
    rintro _ w41 ⟨v39, F40, rfl, hb42, hM45⟩
    refine ⟨_, rfl, ?_⟩
    have hB43 := hB23.trans (hb42.mono hB23.size)
    have hS44 := hS24.join hb42 hM45 hB23.size
    refine wl_lenr (e := ty_70) (l := u38) Try.underlying64 rfl rfl (hS44.own_ro (i := 0) rfl) (wl_move rfl rfl (WL.nil (fun a ha => hK37 _ _ (W.block (W.loopk (fun m a w46 => ∃ (l49 : (List Int)) (y52 : Int) (v50 : Value) (F51 : List Nat), St 42 [(1, (.pointer (some ⟨b2, 0, none⟩))), (3, v50), (15, (.int .i64 (List.length x0.2.1 : Int))), (16, (.int .i64 y28)), (21, v39), (22, (.int .i64 (List.length u38 : Int))), (23, (.int .i64 y52))] a ∧ Below w0.heap.size w0 w46 ∧ Sep w0.heap.size w46 [R.blk b2 53 [v0_0, v0_1, (.int .i64 x0.2.2.1), (.int .i64 x0.2.2.2)], R.own ty_3 F51 v50 l49, R.own ty_70 F40 v39 u38] ∧ F_impl_waySums_L2 u38 nx29 y28 m l49 y52 = some r) FU ?_ ?_)) a ha)))
    ·
     exact fun a ha => ⟨l25, 0, v26, F27, ha.sub ⟨rfl, rfl, rfl, rfl, rfl, rfl, rfl, trivial⟩, hB43, (hS44.sel [1, 2, 0] rfl), hF⟩
    ·
     rintro m55 a w46 ⟨l49, y52, v50, F51, ha, hB47, hS48, hF⟩ KL54 hKL54
     refine W.at ?_ ha
     cases m55 with
     | zero => exact noneE hF
     | succ m55 =>
      obtain ⟨nx53, hnx53⟩ : ∃ k, k = F_impl_waySums_L2 u38 nx29 y28 m55 := ⟨_, rfl⟩
      rw [F_impl_waySums_L2, ← hnx53] at hF
      refine W.seq fun K56 hK56 => W.region (wl_lss rfl rfl rfl (WL.nil (fun a ha => hK56 _ _ (W.seq fun K57 hK57 => (W.cond rfl (fun h58 => ?_) (fun h58 => ?_))) a ha)))
      ·replace hF := ifP h58 hF
       refine W.skip fun a ha => hK57 _ _ (W.seq fun K59 hK59 => ?_) a ha
       obtain ⟨k66, hk66, hF⟩ := jE1 hF
       have hJ67 : ∀ (l63 : (List Int)) (v64 : Value) (F65 : List Nat) (w60 : World) (_ : k66 l63 = some r) (_ : Below w0.heap.size w0 w60) (_ : Sep w0.heap.size w60 [R.blk b2 53 [v0_0, v0_1, (.int .i64 x0.2.2.1), (.int .i64 x0.2.2.2)], R.own ty_3 F65 v64 l63, R.own ty_70 F40 v39 u38]), ∀ a, St 42 [(1, (.pointer (some ⟨b2, 0, none⟩))), (3, v64), (15, (.int .i64 (List.length x0.2.1 : Int))), (16, (.int .i64 y28)), (21, v39), (22, (.int .i64 (List.length u38 : Int))), (23, (.int .i64 y52))] a → K59 a w60 := by
        intro l63 v64 F65 w60 hF hB61 hS62
        subst hk66
        refine fun a ha => hK59 _ _ (W.region (wl_add rfl rfl rfl (wl_move rfl rfl (WL.nil ?_)))) a ha
        rw [hnx53] at hF
        exact fun a ha => hKL54 a _ m55 (Nat.lt_succ_self m55) ⟨l63, (w64 (y52 + 1)), v64, F65, ha.sub ⟨rfl, rfl, rfl, rfl, rfl, rfl, rfl, trivial⟩, hB61, (hS62.sel [0, 1, 2] rfl), hF⟩
       refine W.block (W.seq fun K68 hK68 => (W.region (wl_move rfl rfl ?_)))
       obtain ⟨u69, hu69, hF⟩ := bindE hF
       refine wl_indexo (e := ty_70) (i := 2) Try.underlying64 rfl rfl rfl hS48 rfl hu69 ?_
       rintro p70 _ rfl hp71 ho72
       refine wl_load_p (vs := [(.int .i64 u69.1.1), (.int .i64 u69.1.2), (.int .i64 u69.2.1.1), (.int .i64 u69.2.1.2), (.int .i64 u69.2.2)]) (v := (.agg #[(.int .i64 u69.1.1), (.int .i64 u69.1.2), (.int .i64 u69.2.1.1), (.int .i64 u69.2.1.2), (.int .i64 u69.2.2)])) tf_70 rfl rfl hp71 rfl rfl (wl_alloc (cs := [(.int .i64 0), (.int .i64 0), (.int .i64 0), (.int .i64 0), (.int .i64 0)]) tf_70 rfl rfl hB47 hS48 ?_)
       intro b73 w74 hb75 hB76 hS77
       refine wl_assign rfl rfl (wl_store_blk (i := 0) (vs := [(.int .i64 u69.1.1), (.int .i64 u69.1.2), (.int .i64 u69.2.1.1), (.int .i64 u69.2.1.2), (.int .i64 u69.2.2)]) (cs' := [(.int .i64 u69.1.1), (.int .i64 u69.1.2), (.int .i64 u69.2.1.1), (.int .i64 u69.2.1.2), (.int .i64 u69.2.2)]) tf_70 rfl rfl rfl rfl hB76 hS77 rfl rfl ⟨rfl, rfl, rfl, rfl, rfl, trivial⟩ rfl ?_)
       intro w78 hk81 hB79 hS80
       refine WL.nil fun a ha => hK68 _ _ (W.regionH mixed_ F51 hB79 hS80 ?_) a ha
       intro w82 hb83 hB84 hS85
       have hSW86 := KeepX.refl w82 F51
       refine WH.tk 0 rfl hP hSW86 (pr_move rfl rfl (WH.tk 1 rfl hP hSW86 (pr_move rfl rfl ?_)))
       obtain ⟨u87, hu87, hF⟩ := bindE hF
       refine WH.tk 2 rfl hP hSW86 (pr_indexo (e := ty_3) (i := 2) Try.underlying29 rfl rfl rfl hS85 rfl hu87 ?_)
       rintro p88 _ rfl hp89 ho90
       refine WH.tk 4 rfl hP hSW86 (pr_field (o := 0) (off' := 0) ff_70_0 rfl rfl rfl (WH.tk 5 rfl hP hSW86 (pr_load_blk (i := 0) (vs := [(.int .i64 u69.1.1), (.int .i64 u69.1.2)]) (v := (.agg #[(.int .i64 u69.1.1), (.int .i64 u69.1.2)])) tf_68 rfl rfl hS85 rfl rfl rfl (hS85.disj (i := 0) (j := 2) rfl rfl rfl b73 (by simp [R.blk])) (WH.tk 6 rfl hP hSW86 (pr_field (o := 2) (off' := 2) ff_70_1 rfl rfl rfl (WH.tk 7 rfl hP hSW86 (pr_load_blk (i := 0) (vs := [(.int .i64 u69.2.1.1), (.int .i64 u69.2.1.2)]) (v := (.agg #[(.int .i64 u69.2.1.1), (.int .i64 u69.2.1.2)])) tf_68 rfl rfl hS85 rfl rfl rfl (hS85.disj (i := 0) (j := 2) rfl rfl rfl b73 (by simp [R.blk])) (WH.many (is := [3, 8]) (by kernel_rfl) rfl (List.forall_mem_cons.2 ⟨⟨_, rfl, ?_⟩, List.forall_mem_cons.2 ⟨⟨_, rfl, ?_⟩, fun _ h => by cases h⟩⟩)))))))))
       ·
        refine wl_load_p (vs := [(.int .i64 u87)]) (v := (.int .i64 u87)) tf_3 rfl rfl hp89 rfl rfl (WL.nil (WH.ret hSW86 (WH.on1 8 rfl ?_)))
        obtain ⟨u91, hu91, hF⟩ := bindE hF
        refine wl_call rfl Try.call153 (C_impl_squareOf w82 u69.1 u69.2.1 _ hu91) rfl ?_
        rintro _ w92 ⟨rfl, hb93⟩
        refine ⟨_, rfl, ?_⟩
        have hB94 := hB84.trans (hb93.mono hB84.size)
        have hS95 := hS85.below hb93
        have hSW97 := hSW86.ext hb93
        refine WL.nil (WH.ret hSW97 (WH.tk 9 rfl hP hSW97 (pr_add rfl rfl rfl (WH.on1 10 rfl ?_))))
        obtain ⟨u99, hu99, hF⟩ := bindE hF
        refine wl_indexo (e := ty_3) (i := 2) Try.underlying29 rfl rfl rfl hS95 rfl hu99 ?_
        rintro p100 _ rfl hp101 ho102
        refine WL.nil (WH.ret hSW97 (WH.on1 11 rfl (wl_storeo (i := 2) (o := 0) (vs := [(.int .i64 (w64 (u87 + u91)))]) (u' := (w64 (u87 + u91))) fl_3 tf_3 rfl rfl rfl rfl ho102 hu99 hB94 hS95 rfl rfl ⟨rfl, trivial⟩ rfl ?_)))
        intro w103 hk106 hB104 hS105
        have hSW107 := hSW97.wr' hk106.1 hk106.2.1 (fun _ _ h => h)
        refine WL.nil (WH.ret hSW107 (WH.done (by kernel_rfl) ?_))
        exact fun a ha => hJ67 ((seti l49 y52 (w64 (u87 + u91)))) (v50) (F51) _ hF hB104 (hS105.sel [1, 2, 3] rfl) a (ha.sub ⟨rfl, rfl, rfl, rfl, rfl, rfl, rfl, trivial⟩)
       ·
        obtain ⟨u109, hu109, hF⟩ := bindE hF
        refine wl_call rfl Try.call153 (C_impl_squareOf w82 u69.1 u69.2.1 _ hu109) rfl ?_
        rintro _ w110 ⟨rfl, hb111⟩
        refine ⟨_, rfl, ?_⟩
        have hB112 := hB84.trans (hb111.mono hB84.size)
        have hS113 := hS85.below hb111
        have hSW115 := hSW86.ext hb111
        have hbS116 : Below w82.heap.size w82 w110 := hb111
        refine WL.nil (WH.ret hSW115 (WH.on1 3 rfl (wl_load_p (vs := [(.int .i64 u87)]) (v := (.int .i64 u87)) tf_3 rfl rfl (hp89.ro hbS116) rfl rfl (WL.nil (WH.ret hSW115 (WH.tk 9 rfl hP hSW115 (pr_add rfl rfl rfl (WH.on1 10 rfl ?_))))))))
        obtain ⟨u117, hu117, hF⟩ := bindE hF
        refine wl_indexo (e := ty_3) (i := 2) Try.underlying29 rfl rfl rfl hS113 rfl hu117 ?_
        rintro p118 _ rfl hp119 ho120
        refine WL.nil (WH.ret hSW115 (WH.on1 11 rfl (wl_storeo (i := 2) (o := 0) (vs := [(.int .i64 (w64 (u87 + u109)))]) (u' := (w64 (u87 + u109))) fl_3 tf_3 rfl rfl rfl rfl ho120 hu117 hB112 hS113 rfl rfl ⟨rfl, trivial⟩ rfl ?_)))
        intro w121 hk124 hB122 hS123
        have hSW125 := hSW115.wr' hk124.1 hk124.2.1 (fun _ _ h => h)
        refine WL.nil (WH.ret hSW125 (WH.done (by kernel_rfl) ?_))
        exact fun a ha => hJ67 ((seti l49 y52 (w64 (u87 + u109)))) (v50) (F51) _ hF hB122 (hS123.sel [1, 2, 3] rfl) a (ha.sub ⟨rfl, rfl, rfl, rfl, rfl, rfl, rfl, trivial⟩)
      ·replace hF := ifN h58 hF
       refine W.exit fun a ha => hK35 _ _ (W.region (wl_add rfl rfl rfl (wl_move rfl rfl (WL.nil ?_)))) a ha
       rw [hnx29] at hF
       exact fun a ha => hKL30 a _ m31 (Nat.lt_succ_self m31) ⟨l49, (w64 (y28 + 1)), v50, F51, ha.sub ⟨rfl, rfl, rfl, rfl, trivial⟩, hB47, (hS48.sel [0, 1] rfl), hF⟩
   ·replace hF := ifN h34 hF
    refine W.exit fun a ha => hK20 _ _ (W.seq fun K127 hK127 => (W.region (wl_move rfl rfl (wl_assign rfl rfl (WL.nil (fun a ha => hK127 _ _ (W.ret ?_) a ha)))))) a ha
    have hr := Option.some.inj hF
    subst hr
    exact rets (vs := [v26]) hQ rfl ⟨rv_tmp rfl, trivial⟩ ⟨v26, F27, rfl, hB23, hS24.sel [1] rfl⟩
theorem C_impl_WaySums (w0 : World) (x0 : ((List (List (Int × Int))) × (List Int) × Int × Int)) (v0_0 : Value) (h0_0 : rdS ty_63 (· < w0.heap.size) w0 v0_0 x0.1) (v0_1 : Value) (h0_1 : rdS ty_3 (· < w0.heap.size) w0 v0_1 x0.2.1) (r : ((List Int) × Bool)) (hF : F_impl_WaySums x0 = some r) :
  Calls Try.prog 40 [(.agg #[v0_0, v0_1, (.int .i64 x0.2.2.1), (.int .i64 x0.2.2.2)])].toArray w0 fun e w' => ∃ (q0 : Value) (G0 : List Nat), e = .returned (.tuple #[q0, (.bool r.2)]) ∧ Below w0.heap.size w0 w' ∧ Sep w0.heap.size w' [R.own ty_3 G0 q0 r.1] := by
 refine calls_mk' Try.func40 rfl Try.ntmps40 rfl rfl fun Q hQ hP => ?_
 have hB : Below w0.heap.size w0 w0 := Below.refl _ _
 have hS : Sep w0.heap.size w0 [] := Sep.nil _ _
 unfold F_impl_WaySums at hF
 refine W.seq fun K1 hK1 => W.region (wl_box (cs := [v0_0, v0_1, (.int .i64 x0.2.2.1), (.int .i64 x0.2.2.2)]) rfl rfl rfl hB hS ?_)
 intro b2 w3 hb4 hB5 hS6
 refine wl_assign rfl rfl (wl_assign rfl rfl (WL.nil (fun a ha => hK1 _ _ (W.seq fun K7 hK7 => (W.seq fun K8 hK8 => (W.region (wl_load_blk (i := 0) (vs := [v0_0, v0_1, (.int .i64 x0.2.2.1), (.int .i64 x0.2.2.2)]) (v := (.agg #[v0_0, v0_1, (.int .i64 x0.2.2.1), (.int .i64 x0.2.2.2)])) tf_53 rfl rfl hS6 rfl rfl rfl ?_)))) a ha)))
 obtain ⟨u9, hu9, hF⟩ := bindE hF
 refine wl_call rfl Try.call60 (C_impl_IsShow w3 x0 v0_0 (h0_0.ro hB5) v0_1 (h0_1.ro hB5) _ hu9) rfl ?_
 rintro _ w10 ⟨rfl, hb11⟩
 refine ⟨_, rfl, ?_⟩
 have hB12 := hB5.trans (hb11.mono hB5.size)
 have hS13 := hS6.below hb11
 refine wl_not rfl rfl (WL.nil (fun a ha => hK8 _ _ (W.cond rfl (fun h15 => ?_) (fun h15 => ?_)) a ha))
 ·replace hF := ifP h15 hF
  refine W.seq fun K16 hK16 => W.region (wl_assign rfl rfl (wl_assign rfl rfl (WL.nil (fun a ha => hK16 _ _ (W.ret ?_) a ha))))
  have hS17 := hS13.push0 (r := R.own ty_3 [] (.slice none 0 0) []) rfl fun _ => .inl ⟨rfl, rfl, rfl⟩
  have hr := Option.some.inj hF
  subst hr
  exact rets (vs := [(.slice none 0 0), (.bool false)]) hQ rfl ⟨rv_tmp rfl, rv_tmp rfl, trivial⟩ ⟨(.slice none 0 0), [], rfl, hB12, hS17.sel [0] rfl⟩
 ·replace hF := ifN h15 hF
  refine W.skip fun a ha => hK7 _ _ (W.seq fun K18 hK18 => (W.region (wl_load_blk (i := 0) (vs := [v0_0, v0_1, (.int .i64 x0.2.2.1), (.int .i64 x0.2.2.2)]) (v := (.agg #[v0_0, v0_1, (.int .i64 x0.2.2.1), (.int .i64 x0.2.2.2)])) tf_53 rfl rfl hS13 rfl rfl rfl ?_))) a ha
  obtain ⟨u19, hu19, hF⟩ := bindE hF
  refine wl_call rfl Try.call150 (C_impl_waySums w10 x0 v0_0 (h0_0.ro hB12) v0_1 (h0_1.ro hB12) _ hu19) rfl ?_
  rintro _ w22 ⟨v20, F21, rfl, hb23, hM26⟩
  refine ⟨_, rfl, ?_⟩
  have hB24 := hB12.trans (hb23.mono hB12.size)
  have hS25 := hS13.join hb23 hM26 hB12.size
  refine wl_assign rfl rfl (wl_assign rfl rfl (WL.nil (fun a ha => hK18 _ _ (W.ret ?_) a ha)))
  have hr := Option.some.inj hF
  subst hr
  exact rets (vs := [v20, (.bool true)]) hQ rfl ⟨rv_tmp rfl, rv_tmp rfl, trivial⟩ ⟨v20, F21, rfl, hB24, hS25.sel [0] rfl⟩
end Go.Proofs.Ytmkignciedkidaa
