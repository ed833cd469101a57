/-
  THE WALKS of functions of this seat, by program (gen.py, prune.py).
-/
import Derived.Test.YtmkignciedkidaaWXFnDemandsc
set_option linter.unusedSimpArgs false
set_option linter.unusedVariables false
set_option maxRecDepth 100000
set_option maxHeartbeats 1600000
namespace Go.Proofs.Ytmkignciedkidaa
open Go Go.RowKit
theorem C_spec_LeastCounts (w0 : World) (x0 : (Int × Int)) (x1 : (Int × Int)) (x2 : Int) (r : (Int × Bool)) (hF : F_spec_LeastCounts x0 x1 x2 = some r) :
  Calls Try.prog 209 [(.agg #[(.int .i64 x0.1), (.int .i64 x0.2)]), (.agg #[(.int .i64 x1.1), (.int .i64 x1.2)]), (.int .i64 x2)].toArray w0 fun e w' => e = .returned (.tuple #[(.int .i64 r.1), (.bool r.2)]) ∧ Below w0.heap.size w0 w' := by
 refine calls_mk' Try.func209 rfl Try.ntmps209 rfl rfl fun Q hQ hP => ?_
 have hB : Below w0.heap.size w0 w0 := Below.refl _ _
 have hS : Sep w0.heap.size w0 [] := Sep.nil _ _
 unfold F_spec_LeastCounts at hF
 refine W.seq fun K1 hK1 => W.region (wl_box (cs := [(.int .i64 x0.1), (.int .i64 x0.2)]) rfl rfl rfl hB hS ?_)
 intro b2 w3 hb4 hB5 hS6
 refine wl_box (cs := [(.int .i64 x1.1), (.int .i64 x1.2)]) rfl rfl rfl hB5 hS6 ?_
 intro b7 w8 hb9 hB10 hS11
 refine wl_assign rfl rfl (wl_assign rfl rfl (WL.nil (fun a ha => hK1 _ _ (W.seq fun K12 hK12 => (W.seq fun K13 hK13 => ?_)) a ha)))
 obtain ⟨k18, hk18, hF⟩ := jE1 hF
 have hJ19 : ∀ (y17 : Bool) (w14 : World) (_ : k18 y17 = some r) (_ : Below w0.heap.size w0 w14) (_ : Sep w0.heap.size w14 [R.blk b2 68 [(.int .i64 x0.1), (.int .i64 x0.2)], R.blk b7 68 [(.int .i64 x1.1), (.int .i64 x1.2)]]), ∀ a, St 29 [(2, (.int .i64 x2)), (3, (.pointer (some ⟨b2, 0, none⟩))), (4, (.pointer (some ⟨b7, 0, none⟩))), (17, (.bool y17))] a → K13 a w14 := by
  intro y17 w14 hF hB15 hS16
  subst hk18
  refine fun a ha => hK13 _ _ (W.cond rfl (fun h20 => ?_) (fun h20 => ?_)) a ha
  ·replace hF := ifP h20 hF
   refine W.seq fun K21 hK21 => W.region (wl_assign rfl rfl (wl_assign rfl rfl (WL.nil (fun a ha => hK21 _ _ (W.ret ?_) a ha))))
   have hr := Option.some.inj hF
   subst hr
   exact rets (vs := [(.int .i64 0), (.bool false)]) hQ rfl ⟨rv_tmp rfl, rv_tmp rfl, trivial⟩ ⟨rfl, hB15⟩
  ·replace hF := ifN h20 hF
   refine W.skip fun a ha => hK12 _ _ (W.seq fun K22 hK22 => (W.seq fun K23 hK23 => (W.region (wl_assign rfl rfl (WL.nil (fun a ha => hK23 _ _ (W.block (W.loopk (fun m a w24 => ∃ (y27 : Int), St 29 [(2, (.int .i64 x2)), (3, (.pointer (some ⟨b2, 0, none⟩))), (4, (.pointer (some ⟨b7, 0, none⟩))), (8, (.int .i64 y27))] a ∧ Below w0.heap.size w0 w24 ∧ Sep w0.heap.size w24 [R.blk b2 68 [(.int .i64 x0.1), (.int .i64 x0.2)], R.blk b7 68 [(.int .i64 x1.1), (.int .i64 x1.2)]] ∧ F_spec_LeastCounts_L1 x0 x1 x2 m y27 = some r) FU ?_ ?_)) a ha)))))) a ha
   ·
    exact fun a ha => ⟨1, ha.sub ⟨rfl, rfl, rfl, rfl, trivial⟩, hB15, (hS16.sel [0, 1] rfl), hF⟩
   ·
    rintro m30 a w24 ⟨y27, ha, hB25, hS26, hF⟩ KL29 hKL29
    refine W.at ?_ ha
    cases m30 with
    | zero => exact noneE hF
    | succ m30 =>
     obtain ⟨nx28, hnx28⟩ : ∃ k, k = F_spec_LeastCounts_L1 x0 x1 x2 m30 := ⟨_, rfl⟩
     rw [F_spec_LeastCounts_L1, ← hnx28] at hF
     refine W.seq fun K31 hK31 => W.seq fun K32 hK32 => W.region (wl_move rfl rfl (wl_leq rfl rfl rfl (WL.nil (fun a ha => hK32 _ _ (W.cond rfl (fun h33 => ?_) (fun h33 => ?_)) a ha))))
     ·replace hF := ifP h33 hF
      refine W.skip fun a ha => hK31 _ _ (W.seq fun K34 hK34 => (W.block (W.seq fun K35 hK35 => (W.region (wl_load_blk (i := 0) (vs := [(.int .i64 x0.1), (.int .i64 x0.2)]) (v := (.agg #[(.int .i64 x0.1), (.int .i64 x0.2)])) tf_68 rfl rfl hS26 rfl rfl rfl (wl_load_blk (i := 1) (vs := [(.int .i64 x1.1), (.int .i64 x1.2)]) (v := (.agg #[(.int .i64 x1.1), (.int .i64 x1.2)])) tf_68 rfl rfl hS26 rfl rfl rfl (wl_move rfl rfl (wl_build (zs := [(.int .i64 0), (.int .i64 0), (.int .i64 0), (.int .i64 0), (.int .i64 0)]) (out := [(.int .i64 x0.1), (.int .i64 x0.2), (.int .i64 x1.1), (.int .i64 x1.2), (.int .i64 y27)]) (vs := [(.agg #[(.int .i64 x0.1), (.int .i64 x0.2)]), (.agg #[(.int .i64 x1.1), (.int .i64 x1.2)]), (.int .i64 y27)]) (css := [[(.int .i64 x0.1), (.int .i64 x0.2)], [(.int .i64 x1.1), (.int .i64 x1.2)], [(.int .i64 y27)]]) tf_70 pl_70 rfl rfl rfl rfl rfl (wl_move rfl rfl ?_))))))))) a ha
      obtain ⟨u36, hu36, hF⟩ := bindE hF
      refine wl_call rfl Try.call210 (C_spec_mvWithin w24 (x0, x1, y27) x2 _ hu36) rfl ?_
      rintro _ w37 ⟨rfl, hb38⟩
      refine ⟨_, rfl, ?_⟩
      have hB39 := hB25.trans (hb38.mono hB25.size)
      have hS40 := hS26.below hb38
      refine WL.nil fun a ha => hK35 _ _ (W.cond rfl (fun h42 => ?_) (fun h42 => ?_)) a ha
      ·replace hF := ifP h42 hF
       refine W.seq fun K43 hK43 => W.region (wl_move rfl rfl (wl_assign rfl rfl (wl_assign rfl rfl (WL.nil (fun a ha => hK43 _ _ (W.ret ?_) a ha)))))
       have hr := Option.some.inj hF
       subst hr
       exact rets (vs := [(.int .i64 y27), (.bool true)]) hQ rfl ⟨rv_tmp rfl, rv_tmp rfl, trivial⟩ ⟨rfl, hB39⟩
      ·replace hF := ifN h42 hF
       refine W.skip fun a ha => hK34 _ _ (W.region (wl_move rfl rfl (wl_add rfl rfl rfl (wl_assign rfl rfl (WL.nil ?_))))) a ha
       rw [hnx28] at hF
       exact fun a ha => hKL29 a _ m30 (Nat.lt_succ_self m30) ⟨(w64 (y27 + 1)), ha.sub ⟨rfl, rfl, rfl, rfl, trivial⟩, hB39, (hS40.sel [0, 1] rfl), hF⟩
     ·replace hF := ifN h33 hF
      refine W.exit fun a ha => hK22 _ _ (W.seq fun K44 hK44 => (W.region (wl_assign rfl rfl (wl_assign rfl rfl (WL.nil (fun a ha => hK44 _ _ (W.ret ?_) a ha)))))) a ha
      have hr := Option.some.inj hF
      subst hr
      exact rets (vs := [(.int .i64 0), (.bool false)]) hQ rfl ⟨rv_tmp rfl, rv_tmp rfl, trivial⟩ ⟨rfl, hB25⟩
 refine W.region (wl_load_blk (i := 1) (vs := [(.int .i64 x0.1), (.int .i64 x0.2)]) (v := (.agg #[(.int .i64 x0.1), (.int .i64 x0.2)])) tf_68 rfl rfl hS11 rfl rfl rfl (wl_load_blk (i := 0) (vs := [(.int .i64 x1.1), (.int .i64 x1.2)]) (v := (.agg #[(.int .i64 x1.1), (.int .i64 x1.2)])) tf_68 rfl rfl hS11 rfl rfl rfl ?_))
 obtain ⟨u45, hu45, hF⟩ := bindE hF
 refine wl_call rfl Try.call250 (C_spec_stTwo w8 x0 x1 _ hu45) rfl ?_
 rintro _ w46 ⟨rfl, hb47⟩
 refine ⟨_, rfl, ?_⟩
 have hB48 := hB10.trans (hb47.mono hB10.size)
 have hS49 := hS11.below hb47
 refine wl_not rfl rfl (wl_move rfl rfl ?_)
 rcases bE (!u45) with h51 | h51
 ·replace hF := ifP h51 hF
  refine wl_off rfl rfl rfl h51 (wl_off rfl rfl rfl h51 (wl_off rfl rfl rfl h51 (wl_pick_t rfl rfl h51 rfl (WL.nil ?_))))
  exact fun a ha => hJ19 (true) _ hF hB48 (hS49.sel [1, 0] rfl) a (ha.sub ⟨rfl, rfl, rfl, rfl, trivial⟩)
 ·replace hF := ifN h51 hF
  refine wl_on rfl rfl h51 (wl_move rfl rfl (wl_on rfl rfl h51 ?_))
  obtain ⟨u52, hu52, hF⟩ := bindE hF
  refine wl_call rfl Try.call229 (C_spec_mvStep w46 x2 _ hu52) rfl ?_
  rintro _ w53 ⟨rfl, hb54⟩
  refine ⟨_, rfl, ?_⟩
  have hB55 := hB48.trans (hb54.mono hB48.size)
  have hS56 := hS49.below hb54
  refine wl_on rfl rfl h51 (wl_not rfl rfl (wl_pick_f rfl rfl h51 rfl (WL.nil ?_)))
  exact fun a ha => hJ19 ((!u52)) _ hF hB55 (hS56.sel [1, 0] rfl) a (ha.sub ⟨rfl, rfl, rfl, rfl, trivial⟩)
theorem C_spec_LeastCountsOf (w0 : World) (x0 : ((List (List (Int × Int))) × (List Int) × Int × Int)) (v0_0 : Value) (h0_0 : rdS ty_63 (· < w0.heap.size) w0 v0_0 x0.1) (v0_1 : Value) (h0_1 : rdS ty_3 (· < w0.heap.size) w0 v0_1 x0.2.1) (r : ((List Int) × Bool)) (hF : F_spec_LeastCountsOf x0 = some r) :
  Calls Try.prog 108 [(.agg #[v0_0, v0_1, (.int .i64 x0.2.2.1), (.int .i64 x0.2.2.2)])].toArray w0 fun e w' => ∃ (q0 : Value) (G0 : List Nat), e = .returned (.tuple #[q0, (.bool r.2)]) ∧ Below w0.heap.size w0 w' ∧ Sep w0.heap.size w' [R.own ty_3 G0 q0 r.1] := by
 refine calls_mk' Try.func108 rfl Try.ntmps108 rfl rfl fun Q hQ hP => ?_
 have hB : Below w0.heap.size w0 w0 := Below.refl _ _
 have hS : Sep w0.heap.size w0 [] := Sep.nil _ _
 unfold F_spec_LeastCountsOf at hF
 refine W.seq fun K1 hK1 => W.region (wl_box (cs := [v0_0, v0_1, (.int .i64 x0.2.2.1), (.int .i64 x0.2.2.2)]) rfl rfl rfl hB hS ?_)
 intro b2 w3 hb4 hB5 hS6
 refine wl_assign rfl rfl (wl_assign rfl rfl (WL.nil (fun a ha => hK1 _ _ (W.seq fun K7 hK7 => (W.seq fun K8 hK8 => (W.region (wl_load_blk (i := 0) (vs := [v0_0, v0_1, (.int .i64 x0.2.2.1), (.int .i64 x0.2.2.2)]) (v := (.agg #[v0_0, v0_1, (.int .i64 x0.2.2.1), (.int .i64 x0.2.2.2)])) tf_53 rfl rfl hS6 rfl rfl rfl ?_)))) a ha)))
 obtain ⟨u9, hu9, hF⟩ := bindE hF
 refine wl_call rfl Try.call145 (C_spec_swGood w3 x0 v0_0 (h0_0.ro hB5) v0_1 (h0_1.ro hB5) _ hu9) rfl ?_
 rintro _ w10 ⟨rfl, hb11⟩
 refine ⟨_, rfl, ?_⟩
 have hB12 := hB5.trans (hb11.mono hB5.size)
 have hS13 := hS6.below hb11
 refine wl_not rfl rfl (WL.nil (fun a ha => hK8 _ _ (W.cond rfl (fun h15 => ?_) (fun h15 => ?_)) a ha))
 ·replace hF := ifP h15 hF
  refine W.seq fun K16 hK16 => W.region (wl_assign rfl rfl (wl_assign rfl rfl (WL.nil (fun a ha => hK16 _ _ (W.ret ?_) a ha))))
  have hS17 := hS13.push0 (r := R.own ty_3 [] (.slice none 0 0) []) rfl fun _ => .inl ⟨rfl, rfl, rfl⟩
  have hr := Option.some.inj hF
  subst hr
  exact rets (vs := [(.slice none 0 0), (.bool false)]) hQ rfl ⟨rv_tmp rfl, rv_tmp rfl, trivial⟩ ⟨(.slice none 0 0), [], rfl, hB12, hS17.sel [0] rfl⟩
 ·replace hF := ifN h15 hF
  refine W.skip fun a ha => hK7 _ _ (W.seq fun K18 hK18 => (W.region (wl_assign rfl rfl (WL.nil (fun a ha => hK18 _ _ (W.seq fun K19 hK19 => (W.seq fun K20 hK20 => (W.region (wl_field (o := 1) (off' := 1) ff_53_1 rfl rfl rfl (wl_load_blk (i := 0) (vs := [v0_1]) (v := v0_1) tf_29 rfl rfl hS13 rfl rfl rfl (wl_lenr (e := ty_3) (l := x0.2.1) Try.underlying29 rfl rfl h0_1 (wl_move rfl rfl ?_))))))) a ha))))) a ha
  refine WL.nil fun a ha => hK20 _ _ (W.block (W.loopk (fun m a w21 => ∃ (l24 : (List Int)) (y27 : Int) (v25 : Value) (F26 : List Nat), St 50 [(1, (.pointer (some ⟨b2, 0, none⟩))), (4, v25), (16, (.int .i64 (List.length x0.2.1 : Int))), (17, (.int .i64 y27))] a ∧ Below w0.heap.size w0 w21 ∧ Sep w0.heap.size w21 [R.blk b2 53 [v0_0, v0_1, (.int .i64 x0.2.2.1), (.int .i64 x0.2.2.2)], R.own ty_3 F26 v25 l24] ∧ F_spec_LeastCountsOf_L1 x0 m l24 y27 = some r) FU ?_ ?_)) a ha
  ·
   have hS29 := hS13.push0 (r := R.own ty_3 [] (.slice none 0 0) []) rfl fun _ => .inl ⟨rfl, rfl, rfl⟩
   exact fun a ha => ⟨[], 0, (.slice none 0 0), [], ha.sub ⟨rfl, rfl, rfl, rfl, trivial⟩, hB12, (hS29.sel [1, 0] rfl), hF⟩
  ·
   rintro m31 a w21 ⟨l24, y27, v25, F26, ha, hB22, hS23, hF⟩ KL30 hKL30
   refine W.at ?_ ha
   cases m31 with
   | zero => exact noneE hF
   | succ m31 =>
    obtain ⟨nx28, hnx28⟩ : ∃ k, k = F_spec_LeastCountsOf_L1 x0 m31 := ⟨_, rfl⟩
    rw [F_spec_LeastCountsOf_L1, ← hnx28] at hF
    refine W.seq fun K32 hK32 => W.region (wl_lss rfl rfl rfl (WL.nil (fun a ha => hK32 _ _ (W.seq fun K33 hK33 => (W.cond rfl (fun h34 => ?_) (fun h34 => ?_))) a ha)))
    ·replace hF := ifP h34 hF
     refine W.skip fun a ha => hK33 _ _ (W.seq fun K35 hK35 => (W.block (W.seq fun K36 hK36 => (W.region (wl_move rfl rfl (wl_assign rfl rfl (WL.nil (fun a ha => hK36 _ _ (W.seq fun K37 hK37 => (W.region (wl_assign rfl rfl (WL.nil ?_)))) a ha)))))))) a ha
     refine fun a ha => hK37 _ _ (W.seq fun K38 hK38 => (W.seq fun K39 hK39 => (W.region (wl_load_blk (i := 0) (vs := [v0_0, v0_1, (.int .i64 x0.2.2.1), (.int .i64 x0.2.2.2)]) (v := (.agg #[v0_0, v0_1, (.int .i64 x0.2.2.1), (.int .i64 x0.2.2.2)])) tf_53 rfl rfl hS23 rfl rfl rfl (wl_move rfl rfl ?_))))) a ha
     obtain ⟨u40, hu40, hF⟩ := bindE hF
     refine wl_call rfl Try.call160 (C_spec_swMoves w21 x0 v0_0 (h0_0.ro hB22) v0_1 (h0_1.ro hB22) y27 _ hu40) rfl ?_
     rintro _ w43 ⟨v41, F42, rfl, hb44, hM47⟩
     refine ⟨_, rfl, ?_⟩
     have hB45 := hB22.trans (hb44.mono hB22.size)
     have hS46 := hS23.join hb44 hM47 hB22.size
     refine wl_lenr (e := ty_70) (l := u40) Try.underlying64 rfl rfl (hS46.own_ro (i := 0) rfl) (wl_move rfl rfl (WL.nil (fun a ha => hK39 _ _ (W.block (W.loopk (fun m a w48 => ∃ (y51 : Int) (y52 : Int), St 50 [(1, (.pointer (some ⟨b2, 0, none⟩))), (4, v25), (6, (.int .i64 y51)), (16, (.int .i64 (List.length x0.2.1 : Int))), (17, (.int .i64 y27)), (22, v41), (23, (.int .i64 (List.length u40 : Int))), (24, (.int .i64 y52))] a ∧ Below w0.heap.size w0 w48 ∧ Sep w0.heap.size w48 [R.blk b2 53 [v0_0, v0_1, (.int .i64 x0.2.2.1), (.int .i64 x0.2.2.2)], R.own ty_3 F26 v25 l24, R.own ty_70 F42 v41 u40] ∧ F_spec_LeastCountsOf_L2 u40 x0 l24 nx28 y27 m y51 y52 = some r) FU ?_ ?_)) a ha)))
     ·
      exact fun a ha => ⟨1, 0, ha.sub ⟨rfl, rfl, rfl, rfl, rfl, rfl, rfl, rfl, trivial⟩, hB45, (hS46.sel [1, 2, 0] rfl), hF⟩
     ·
      rintro m55 a w48 ⟨y51, y52, ha, hB49, hS50, hF⟩ KL54 hKL54
      refine W.at ?_ ha
      cases m55 with
      | zero => exact noneE hF
      | succ m55 =>
       obtain ⟨nx53, hnx53⟩ : ∃ k, k = F_spec_LeastCountsOf_L2 u40 x0 l24 nx28 y27 m55 := ⟨_, rfl⟩
       rw [F_spec_LeastCountsOf_L2, ← hnx53] at hF
       refine W.seq fun K56 hK56 => W.region (wl_lss rfl rfl rfl (WL.nil (fun a ha => hK56 _ _ (W.seq fun K57 hK57 => (W.cond rfl (fun h58 => ?_) (fun h58 => ?_))) a ha)))
       ·replace hF := ifP h58 hF
        refine W.skip fun a ha => hK57 _ _ (W.seq fun K59 hK59 => (W.block (W.seq fun K60 hK60 => (W.region ?_)))) a ha
        obtain ⟨u61, hu61, hF⟩ := bindE hF
        refine wl_indexo (e := ty_70) (i := 2) Try.underlying64 rfl rfl rfl hS50 rfl hu61 ?_
        rintro p62 _ rfl hp63 ho64
        refine wl_load_p (vs := [(.int .i64 u61.1.1), (.int .i64 u61.1.2), (.int .i64 u61.2.1.1), (.int .i64 u61.2.1.2), (.int .i64 u61.2.2)]) (v := (.agg #[(.int .i64 u61.1.1), (.int .i64 u61.1.2), (.int .i64 u61.2.1.1), (.int .i64 u61.2.1.2), (.int .i64 u61.2.2)])) tf_70 rfl rfl hp63 rfl rfl (wl_alloc (cs := [(.int .i64 0), (.int .i64 0), (.int .i64 0), (.int .i64 0), (.int .i64 0)]) tf_70 rfl rfl hB49 hS50 ?_)
        intro b65 w66 hb67 hB68 hS69
        refine wl_store_blk (i := 0) (vs := [(.int .i64 u61.1.1), (.int .i64 u61.1.2), (.int .i64 u61.2.1.1), (.int .i64 u61.2.1.2), (.int .i64 u61.2.2)]) (cs' := [(.int .i64 u61.1.1), (.int .i64 u61.1.2), (.int .i64 u61.2.1.1), (.int .i64 u61.2.1.2), (.int .i64 u61.2.2)]) tf_70 rfl rfl rfl rfl hB68 hS69 rfl rfl ⟨rfl, rfl, rfl, rfl, rfl, trivial⟩ rfl ?_
        intro w70 hk73 hB71 hS72
        refine WL.nil fun a ha => hK60 _ _ (W.seq fun K74 hK74 => (W.region (wl_field (o := 0) (off' := 0) ff_70_0 rfl rfl rfl (wl_load_blk (i := 0) (vs := [(.int .i64 u61.1.1), (.int .i64 u61.1.2)]) (v := (.agg #[(.int .i64 u61.1.1), (.int .i64 u61.1.2)])) tf_68 rfl rfl hS72 rfl rfl rfl (wl_field (o := 2) (off' := 2) ff_70_1 rfl rfl rfl (wl_load_blk (i := 0) (vs := [(.int .i64 u61.2.1.1), (.int .i64 u61.2.1.2)]) (v := (.agg #[(.int .i64 u61.2.1.1), (.int .i64 u61.2.1.2)])) tf_68 rfl rfl hS72 rfl rfl rfl (wl_field (o := 3) (off' := 3) ff_53_3 rfl rfl rfl (wl_load_blk (i := 1) (vs := [(.int .i64 x0.2.2.2)]) (v := (.int .i64 x0.2.2.2)) tf_3 rfl rfl hS72 rfl rfl rfl ?_)))))))) a ha
        obtain ⟨u75, hu75, hF⟩ := bindE hF
        refine wl_call rfl Try.call209 (C_spec_LeastCounts w70 u61.1 u61.2.1 x0.2.2.2 _ hu75) rfl ?_
        rintro _ w76 ⟨rfl, hb77⟩
        refine ⟨_, rfl, ?_⟩
        have hB78 := hB71.trans (hb77.mono hB71.size)
        have hS79 := hS72.below hb77
        refine wl_move rfl rfl (wl_extract rfl rfl rfl (wl_extract rfl rfl rfl (wl_assign rfl rfl (wl_assign rfl rfl (WL.nil (fun a ha => hK74 _ _ (W.seq fun K81 hK81 => (W.seq fun K82 hK82 => (W.region (wl_move rfl rfl (wl_not rfl rfl (WL.nil (fun a ha => hK82 _ _ ?_ a ha))))))) a ha))))))
        refine W.cond rfl (fun h83 => ?_) (fun h83 => ?_)
        ·replace hF := ifP h83 hF
         refine W.seq fun K84 hK84 => W.region (wl_assign rfl rfl (wl_assign rfl rfl (WL.nil (fun a ha => hK84 _ _ (W.ret ?_) a ha))))
         have hS85 := hS79.push0 (r := R.own ty_3 [] (.slice none 0 0) []) rfl fun _ => .inl ⟨rfl, rfl, rfl⟩
         have hr := Option.some.inj hF
         subst hr
         exact rets (vs := [(.slice none 0 0), (.bool false)]) hQ rfl ⟨rv_tmp rfl, rv_tmp rfl, trivial⟩ ⟨(.slice none 0 0), [], rfl, hB78, hS85.sel [0] rfl⟩
        ·replace hF := ifN h83 hF
         refine W.skip fun a ha => hK81 _ _ (W.region (wl_move rfl rfl (wl_move rfl rfl ?_))) a ha
         obtain ⟨u86, hu86, hF⟩ := bindE hF
         refine wl_call rfl Try.call131 (C_spec_l1Most w76 y51 u75.1 _ hu86) rfl ?_
         rintro _ w87 ⟨rfl, hb88⟩
         refine ⟨_, rfl, ?_⟩
         have hB89 := hB78.trans (hb88.mono hB78.size)
         have hS90 := hS79.below hb88
         refine wl_assign rfl rfl (WL.nil (fun a ha => hK59 _ _ (W.region (wl_add rfl rfl rfl (wl_move rfl rfl (WL.nil ?_)))) a ha))
         rw [hnx53] at hF
         exact fun a ha => hKL54 a _ m55 (Nat.lt_succ_self m55) ⟨u86, (w64 (y52 + 1)), ha.sub ⟨rfl, rfl, rfl, rfl, rfl, rfl, rfl, rfl, trivial⟩, hB89, (hS90.sel [1, 2, 3] rfl), hF⟩
       ·replace hF := ifN h58 hF
        refine W.exit fun a ha => hK38 _ _ (W.region (wl_move rfl rfl (wl_move rfl rfl (wl_lit (vs := [(.int .i64 y51)]) (l := [y51]) fl_3 Try.underlying29 rfl rfl rfl rfl rfl rfl hB49 hS50 ?_)))) a ha
        intro v92 F93 w94 hb95 hB96 hS97
        obtain ⟨u98, hu98, hF⟩ := bindE hF
        refine wl_append (i := 2) (S := (· < w94.heap.size)) fl_3 Try.underlying29 rfl rfl rfl hB96 hS97 rfl (hS97.own_ro (i := 0) rfl) hu98 ?_
        intro v99 F100 w101 hk102 hB103 hS104
        refine wl_assign rfl rfl (WL.nil (fun a ha => hK35 _ _ (W.region (wl_add rfl rfl rfl (wl_move rfl rfl (WL.nil ?_)))) a ha))
        rw [hnx28] at hF
        exact fun a ha => hKL30 a _ m31 (Nat.lt_succ_self m31) ⟨u98, (w64 (y27 + 1)), v99, F100, ha.sub ⟨rfl, rfl, rfl, rfl, trivial⟩, hB103, (hS104.sel [1, 2] rfl), hF⟩
    ·replace hF := ifN h34 hF
     refine W.exit fun a ha => hK19 _ _ (W.seq fun K105 hK105 => (W.region (wl_move rfl rfl (wl_assign rfl rfl (wl_assign rfl rfl (WL.nil (fun a ha => hK105 _ _ (W.ret ?_) a ha))))))) a ha
     have hr := Option.some.inj hF
     subst hr
     exact rets (vs := [v25, (.bool true)]) hQ rfl ⟨rv_tmp rfl, rv_tmp rfl, trivial⟩ ⟨v25, F26, rfl, hB22, hS23.sel [1] rfl⟩
theorem C_impl_LeastStepOf (w0 : World) (x0 : ((List (List (Int × Int))) × (List Int) × Int × Int)) (v0_0 : Value) (h0_0 : rdS ty_63 (· < w0.heap.size) w0 v0_0 x0.1) (v0_1 : Value) (h0_1 : rdS ty_3 (· < w0.heap.size) w0 v0_1 x0.2.1) (r : (Int × Bool)) (hF : F_impl_LeastStepOf x0 = some r) :
  Calls Try.prog 109 [(.agg #[v0_0, v0_1, (.int .i64 x0.2.2.1), (.int .i64 x0.2.2.2)])].toArray w0 fun e w' => e = .returned (.tuple #[(.int .i64 r.1), (.bool r.2)]) ∧ Below w0.heap.size w0 w' := by
 refine calls_mk' Try.func109 rfl Try.ntmps109 rfl rfl fun Q hQ hP => ?_
 have hB : Below w0.heap.size w0 w0 := Below.refl _ _
 have hS : Sep w0.heap.size w0 [] := Sep.nil _ _
 unfold F_impl_LeastStepOf at hF
 refine W.seq fun K1 hK1 => W.region (wl_box (cs := [v0_0, v0_1, (.int .i64 x0.2.2.1), (.int .i64 x0.2.2.2)]) rfl rfl rfl hB hS ?_)
 intro b2 w3 hb4 hB5 hS6
 refine wl_assign rfl rfl (wl_assign rfl rfl (WL.nil (fun a ha => hK1 _ _ (W.seq fun K7 hK7 => (W.seq fun K8 hK8 => (W.region (wl_load_blk (i := 0) (vs := [v0_0, v0_1, (.int .i64 x0.2.2.1), (.int .i64 x0.2.2.2)]) (v := (.agg #[v0_0, v0_1, (.int .i64 x0.2.2.1), (.int .i64 x0.2.2.2)])) tf_53 rfl rfl hS6 rfl rfl rfl ?_)))) a ha)))
 obtain ⟨u9, hu9, hF⟩ := bindE hF
 refine wl_call rfl Try.call60 (C_impl_IsShow w3 x0 v0_0 (h0_0.ro hB5) v0_1 (h0_1.ro hB5) _ hu9) rfl ?_
 rintro _ w10 ⟨rfl, hb11⟩
 refine ⟨_, rfl, ?_⟩
 have hB12 := hB5.trans (hb11.mono hB5.size)
 have hS13 := hS6.below hb11
 refine wl_not rfl rfl (WL.nil (fun a ha => hK8 _ _ (W.cond rfl (fun h15 => ?_) (fun h15 => ?_)) a ha))
 ·replace hF := ifP h15 hF
  refine W.seq fun K16 hK16 => W.region (wl_assign rfl rfl (wl_assign rfl rfl (WL.nil (fun a ha => hK16 _ _ (W.ret ?_) a ha))))
  have hr := Option.some.inj hF
  subst hr
  exact rets (vs := [(.int .i64 0), (.bool false)]) hQ rfl ⟨rv_tmp rfl, rv_tmp rfl, trivial⟩ ⟨rfl, hB12⟩
 ·replace hF := ifN h15 hF
  refine W.skip fun a ha => hK7 _ _ (W.seq fun K17 hK17 => (W.seq fun K18 hK18 => (W.region (wl_assign rfl rfl (WL.nil (fun a ha => hK18 _ _ (W.block (W.loopk (fun m a w19 => ∃ (y22 : Int), St 36 [(1, (.pointer (some ⟨b2, 0, none⟩))), (4, (.int .i64 y22))] a ∧ Below w0.heap.size w0 w19 ∧ Sep w0.heap.size w19 [R.blk b2 53 [v0_0, v0_1, (.int .i64 x0.2.2.1), (.int .i64 x0.2.2.2)]] ∧ F_impl_LeastStepOf_L1 x0 m y22 = some r) FU ?_ ?_)) a ha)))))) a ha
  ·
   exact fun a ha => ⟨1, ha.sub ⟨rfl, rfl, trivial⟩, hB12, (hS13.sel [0] rfl), hF⟩
  ·
   rintro m25 a w19 ⟨y22, ha, hB20, hS21, hF⟩ KL24 hKL24
   refine W.at ?_ ha
   cases m25 with
   | zero => exact noneE hF
   | succ m25 =>
    obtain ⟨nx23, hnx23⟩ : ∃ k, k = F_impl_LeastStepOf_L1 x0 m25 := ⟨_, rfl⟩
    rw [F_impl_LeastStepOf_L1, ← hnx23] at hF
    refine W.seq fun K26 hK26 => W.seq fun K27 hK27 => W.region (wl_move rfl rfl (wl_leq rfl rfl rfl (WL.nil (fun a ha => hK27 _ _ (W.cond rfl (fun h28 => ?_) (fun h28 => ?_)) a ha))))
    ·replace hF := ifP h28 hF
     refine W.skip fun a ha => hK26 _ _ (W.seq fun K29 hK29 => (W.block (W.seq fun K30 hK30 => (W.region (wl_load_blk (i := 0) (vs := [v0_0, v0_1, (.int .i64 x0.2.2.1), (.int .i64 x0.2.2.2)]) (v := (.agg #[v0_0, v0_1, (.int .i64 x0.2.2.1), (.int .i64 x0.2.2.2)])) tf_53 rfl rfl hS21 rfl rfl rfl (wl_alloc (cs := [(.slice none 0 0), (.slice none 0 0), (.int .i64 0), (.int .i64 0)]) tf_53 rfl rfl hB20 hS21 ?_)))))) a ha
     intro b31 w32 hb33 hB34 hS35
     refine wl_store_blk (i := 0) (vs := [v0_0, v0_1, (.int .i64 x0.2.2.1), (.int .i64 x0.2.2.2)]) (cs' := [v0_0, v0_1, (.int .i64 x0.2.2.1), (.int .i64 x0.2.2.2)]) tf_53 rfl rfl rfl rfl hB34 hS35 rfl rfl ⟨(h0_0.ro hB34).one, (h0_1.ro hB34).one, rfl, rfl, trivial⟩ rfl ?_
     intro w36 hk39 hB37 hS38
     refine WL.nil fun a ha => hK30 _ _ (W.seq fun K40 hK40 => (W.region (wl_move rfl rfl (wl_field (o := 3) (off' := 3) ff_53_3 rfl rfl rfl (wl_store_blk (i := 0) (vs := [(.int .i64 y22)]) (cs' := [v0_0, v0_1, (.int .i64 x0.2.2.1), (.int .i64 y22)]) tf_3 rfl rfl rfl rfl hB37 hS38 rfl rfl ⟨rfl, trivial⟩ rfl ?_))))) a ha
     intro w41 hk44 hB42 hS43
     refine WL.nil fun a ha => hK40 _ _ (W.seq fun K45 hK45 => (W.region (wl_assign rfl rfl (WL.nil (fun a ha => hK45 _ _ (W.seq fun K46 hK46 => (W.seq fun K47 hK47 => (W.region (wl_field (o := 1) (off' := 1) ff_53_1 rfl rfl rfl (wl_load_blk (i := 0) (vs := [v0_1]) (v := v0_1) tf_29 rfl rfl hS43 rfl rfl rfl (wl_lenr (e := ty_3) (l := x0.2.1) Try.underlying29 rfl rfl h0_1 (wl_move rfl rfl ?_))))))) a ha))))) a ha
     refine WL.nil fun a ha => hK47 _ _ (W.block (W.loopk (fun m a w48 => ∃ (y51 : Bool) (y52 : Int), St 36 [(1, (.pointer (some ⟨b2, 0, none⟩))), (4, (.int .i64 y22)), (5, (.pointer (some ⟨b31, 0, none⟩))), (6, (.bool y51)), (20, (.int .i64 (List.length x0.2.1 : Int))), (21, (.int .i64 y52))] a ∧ Below w0.heap.size w0 w48 ∧ Sep w0.heap.size w48 [R.blk b2 53 [v0_0, v0_1, (.int .i64 x0.2.2.1), (.int .i64 x0.2.2.2)], R.blk b31 53 [v0_0, v0_1, (.int .i64 x0.2.2.1), (.int .i64 y22)]] ∧ F_impl_LeastStepOf_L2 x0 y22 nx23 m y51 y52 = some r) FU ?_ ?_)) a ha
     ·
      exact fun a ha => ⟨false, 0, ha.sub ⟨rfl, rfl, rfl, rfl, rfl, rfl, trivial⟩, hB42, (hS43.sel [1, 0] rfl), hF⟩
     ·
      rintro m55 a w48 ⟨y51, y52, ha, hB49, hS50, hF⟩ KL54 hKL54
      refine W.at ?_ ha
      cases m55 with
      | zero => exact noneE hF
      | succ m55 =>
       obtain ⟨nx53, hnx53⟩ : ∃ k, k = F_impl_LeastStepOf_L2 x0 y22 nx23 m55 := ⟨_, rfl⟩
       rw [F_impl_LeastStepOf_L2, ← hnx53] at hF
       refine W.seq fun K56 hK56 => W.region (wl_lss rfl rfl rfl (WL.nil (fun a ha => hK56 _ _ (W.seq fun K57 hK57 => (W.cond rfl (fun h58 => ?_) (fun h58 => ?_))) a ha)))
       ·replace hF := ifP h58 hF
        refine W.skip fun a ha => hK57 _ _ (W.seq fun K59 hK59 => ?_) a ha
        obtain ⟨k64, hk64, hF⟩ := jE1 hF
        have hJ65 : ∀ (y63 : Bool) (w60 : World) (_ : k64 y63 = some r) (_ : Below w0.heap.size w0 w60) (_ : Sep w0.heap.size w60 [R.blk b2 53 [v0_0, v0_1, (.int .i64 x0.2.2.1), (.int .i64 x0.2.2.2)], R.blk b31 53 [v0_0, v0_1, (.int .i64 x0.2.2.1), (.int .i64 y22)]]), ∀ a, St 36 [(1, (.pointer (some ⟨b2, 0, none⟩))), (4, (.int .i64 y22)), (5, (.pointer (some ⟨b31, 0, none⟩))), (6, (.bool y63)), (20, (.int .i64 (List.length x0.2.1 : Int))), (21, (.int .i64 y52))] a → K59 a w60 := by
         intro y63 w60 hF hB61 hS62
         subst hk64
         refine fun a ha => hK59 _ _ (W.region (wl_add rfl rfl rfl (wl_move rfl rfl (WL.nil ?_)))) a ha
         rw [hnx53] at hF
         exact fun a ha => hKL54 a _ m55 (Nat.lt_succ_self m55) ⟨y63, (w64 (y52 + 1)), ha.sub ⟨rfl, rfl, rfl, rfl, rfl, rfl, trivial⟩, hB61, (hS62.sel [0, 1] rfl), hF⟩
        refine W.block (W.seq fun K66 hK66 => (W.region (wl_move rfl rfl (wl_assign rfl rfl (WL.nil (fun a ha => hK66 _ _ (W.region (wl_move rfl rfl (wl_move rfl rfl ?_))) a ha))))))
        rcases bE y51 with h67 | h67
        ·replace hF := ifP h67 hF
         refine wl_off rfl rfl rfl h67 (wl_off rfl rfl rfl h67 (wl_off rfl rfl rfl h67 (wl_off rfl rfl rfl h67 (wl_off rfl rfl rfl h67 (wl_pick_t rfl rfl h67 rfl (wl_assign rfl rfl (WL.nil ?_)))))))
         exact fun a ha => hJ65 (true) _ hF hB49 (hS50.sel [0, 1] rfl) a (ha.sub ⟨rfl, rfl, rfl, rfl, rfl, rfl, trivial⟩)
        ·replace hF := ifN h67 hF
         refine wl_on rfl rfl h67 (wl_load_blk (i := 1) (vs := [v0_0, v0_1, (.int .i64 x0.2.2.1), (.int .i64 y22)]) (v := (.agg #[v0_0, v0_1, (.int .i64 x0.2.2.1), (.int .i64 y22)])) tf_53 rfl rfl hS50 rfl rfl rfl (wl_on rfl rfl h67 (wl_move rfl rfl (wl_on rfl rfl h67 ?_))))
         obtain ⟨u68, hu68, hF⟩ := bindE hF
         refine wl_call rfl Try.call181 (C_impl_wideSteps w48 (x0.1, x0.2.1, x0.2.2.1, y22) v0_0 (h0_0.ro hB49) v0_1 (h0_1.ro hB49) y52 _ hu68) rfl ?_
         rintro _ w71 ⟨v69, F70, rfl, hb72, hM75⟩
         refine ⟨_, rfl, ?_⟩
         have hB73 := hB49.trans (hb72.mono hB49.size)
         have hS74 := hS50.join hb72 hM75 hB49.size
         refine wl_on rfl rfl h67 (wl_lenr (e := ty_3) (l := u68) Try.underlying29 rfl rfl (hS74.own_ro (i := 0) rfl) (wl_on rfl rfl h67 (wl_gtr rfl rfl rfl (wl_pick_f rfl rfl h67 rfl (wl_assign rfl rfl (WL.nil ?_))))))
         exact fun a ha => hJ65 ((decide (0 < (List.length u68 : Int)))) _ hF hB73 (hS74.sel [1, 2] rfl) a (ha.sub ⟨rfl, rfl, rfl, rfl, rfl, rfl, trivial⟩)
       ·replace hF := ifN h58 hF
        refine W.exit fun a ha => hK46 _ _ (W.seq fun K76 hK76 => (W.region (wl_move rfl rfl (wl_not rfl rfl (WL.nil (fun a ha => hK76 _ _ (W.cond rfl (fun h77 => ?_) (fun h77 => ?_)) a ha)))))) a ha
        ·replace hF := ifP h77 hF
         refine W.seq fun K78 hK78 => W.region (wl_move rfl rfl (wl_assign rfl rfl (wl_assign rfl rfl (WL.nil (fun a ha => hK78 _ _ (W.ret ?_) a ha)))))
         have hr := Option.some.inj hF
         subst hr
         exact rets (vs := [(.int .i64 y22), (.bool true)]) hQ rfl ⟨rv_tmp rfl, rv_tmp rfl, trivial⟩ ⟨rfl, hB49⟩
        ·replace hF := ifN h77 hF
         refine W.skip fun a ha => hK29 _ _ (W.region (wl_move rfl rfl (wl_add rfl rfl rfl (wl_assign rfl rfl (WL.nil ?_))))) a ha
         rw [hnx23] at hF
         exact fun a ha => hKL24 a _ m25 (Nat.lt_succ_self m25) ⟨(w64 (y22 + 1)), ha.sub ⟨rfl, rfl, trivial⟩, hB49, (hS50.sel [0] rfl), hF⟩
    ·replace hF := ifN h28 hF
     refine W.exit fun a ha => hK17 _ _ (W.seq fun K79 hK79 => (W.region (wl_assign rfl rfl (wl_assign rfl rfl (WL.nil (fun a ha => hK79 _ _ (W.ret ?_) a ha)))))) a ha
     have hr := Option.some.inj hF
     subst hr
     exact rets (vs := [(.int .i64 0), (.bool false)]) hQ rfl ⟨rv_tmp rfl, rv_tmp rfl, trivial⟩ ⟨rfl, hB20⟩
theorem C_spec_LeastStepOf (w0 : World) (x0 : ((List (List (Int × Int))) × (List Int) × Int × Int)) (v0_0 : Value) (h0_0 : rdS ty_63 (· < w0.heap.size) w0 v0_0 x0.1) (v0_1 : Value) (h0_1 : rdS ty_3 (· < w0.heap.size) w0 v0_1 x0.2.1) (r : (Int × Bool)) (hF : F_spec_LeastStepOf x0 = some r) :
  Calls Try.prog 110 [(.agg #[v0_0, v0_1, (.int .i64 x0.2.2.1), (.int .i64 x0.2.2.2)])].toArray w0 fun e w' => e = .returned (.tuple #[(.int .i64 r.1), (.bool r.2)]) ∧ Below w0.heap.size w0 w' := by
 refine calls_mk' Try.func110 rfl Try.ntmps110 rfl rfl fun Q hQ hP => ?_
 have hB : Below w0.heap.size w0 w0 := Below.refl _ _
 have hS : Sep w0.heap.size w0 [] := Sep.nil _ _
 unfold F_spec_LeastStepOf at hF
 refine W.seq fun K1 hK1 => W.region (wl_box (cs := [v0_0, v0_1, (.int .i64 x0.2.2.1), (.int .i64 x0.2.2.2)]) rfl rfl rfl hB hS ?_)
 intro b2 w3 hb4 hB5 hS6
 refine wl_assign rfl rfl (wl_assign rfl rfl (WL.nil (fun a ha => hK1 _ _ (W.seq fun K7 hK7 => (W.seq fun K8 hK8 => (W.region (wl_load_blk (i := 0) (vs := [v0_0, v0_1, (.int .i64 x0.2.2.1), (.int .i64 x0.2.2.2)]) (v := (.agg #[v0_0, v0_1, (.int .i64 x0.2.2.1), (.int .i64 x0.2.2.2)])) tf_53 rfl rfl hS6 rfl rfl rfl ?_)))) a ha)))
 obtain ⟨u9, hu9, hF⟩ := bindE hF
 refine wl_call rfl Try.call145 (C_spec_swGood w3 x0 v0_0 (h0_0.ro hB5) v0_1 (h0_1.ro hB5) _ hu9) rfl ?_
 rintro _ w10 ⟨rfl, hb11⟩
 refine ⟨_, rfl, ?_⟩
 have hB12 := hB5.trans (hb11.mono hB5.size)
 have hS13 := hS6.below hb11
 refine wl_not rfl rfl (WL.nil (fun a ha => hK8 _ _ (W.cond rfl (fun h15 => ?_) (fun h15 => ?_)) a ha))
 ·replace hF := ifP h15 hF
  refine W.seq fun K16 hK16 => W.region (wl_assign rfl rfl (wl_assign rfl rfl (WL.nil (fun a ha => hK16 _ _ (W.ret ?_) a ha))))
  have hr := Option.some.inj hF
  subst hr
  exact rets (vs := [(.int .i64 0), (.bool false)]) hQ rfl ⟨rv_tmp rfl, rv_tmp rfl, trivial⟩ ⟨rfl, hB12⟩
 ·replace hF := ifN h15 hF
  refine W.skip fun a ha => hK7 _ _ (W.seq fun K17 hK17 => (W.region (wl_assign rfl rfl (WL.nil (fun a ha => hK17 _ _ (W.seq fun K18 hK18 => (W.seq fun K19 hK19 => (W.region (wl_field (o := 1) (off' := 1) ff_53_1 rfl rfl rfl (wl_load_blk (i := 0) (vs := [v0_1]) (v := v0_1) tf_29 rfl rfl hS13 rfl rfl rfl (wl_lenr (e := ty_3) (l := x0.2.1) Try.underlying29 rfl rfl h0_1 (wl_move rfl rfl ?_))))))) a ha))))) a ha
  refine WL.nil fun a ha => hK19 _ _ (W.block (W.loopk (fun m a w20 => ∃ (y23 : Int) (y24 : Int), St 40 [(1, (.pointer (some ⟨b2, 0, none⟩))), (4, (.int .i64 y23)), (13, (.int .i64 (List.length x0.2.1 : Int))), (14, (.int .i64 y24))] a ∧ Below w0.heap.size w0 w20 ∧ Sep w0.heap.size w20 [R.blk b2 53 [v0_0, v0_1, (.int .i64 x0.2.2.1), (.int .i64 x0.2.2.2)]] ∧ F_spec_LeastStepOf_L1 x0 m y23 y24 = some r) FU ?_ ?_)) a ha
  ·
   exact fun a ha => ⟨1, 0, ha.sub ⟨rfl, rfl, rfl, rfl, trivial⟩, hB12, (hS13.sel [0] rfl), hF⟩
  ·
   rintro m27 a w20 ⟨y23, y24, ha, hB21, hS22, hF⟩ KL26 hKL26
   refine W.at ?_ ha
   cases m27 with
   | zero => exact noneE hF
   | succ m27 =>
    obtain ⟨nx25, hnx25⟩ : ∃ k, k = F_spec_LeastStepOf_L1 x0 m27 := ⟨_, rfl⟩
    rw [F_spec_LeastStepOf_L1, ← hnx25] at hF
    refine W.seq fun K28 hK28 => W.region (wl_lss rfl rfl rfl (WL.nil (fun a ha => hK28 _ _ (W.seq fun K29 hK29 => (W.cond rfl (fun h30 => ?_) (fun h30 => ?_))) a ha)))
    ·replace hF := ifP h30 hF
     refine W.skip fun a ha => hK29 _ _ (W.seq fun K31 hK31 => (W.block (W.seq fun K32 hK32 => (W.region (wl_move rfl rfl (wl_assign rfl rfl (WL.nil (fun a ha => hK32 _ _ (W.seq fun K33 hK33 => (W.region (wl_load_blk (i := 0) (vs := [v0_0, v0_1, (.int .i64 x0.2.2.1), (.int .i64 x0.2.2.2)]) (v := (.agg #[v0_0, v0_1, (.int .i64 x0.2.2.1), (.int .i64 x0.2.2.2)])) tf_53 rfl rfl hS22 rfl rfl rfl (wl_move rfl rfl ?_)))) a ha)))))))) a ha
     obtain ⟨u34, hu34, hF⟩ := bindE hF
     refine wl_call rfl Try.call160 (C_spec_swMoves w20 x0 v0_0 (h0_0.ro hB21) v0_1 (h0_1.ro hB21) y24 _ hu34) rfl ?_
     rintro _ w37 ⟨v35, F36, rfl, hb38, hM41⟩
     refine ⟨_, rfl, ?_⟩
     have hB39 := hB21.trans (hb38.mono hB21.size)
     have hS40 := hS22.join hb38 hM41 hB21.size
     refine wl_lenr (e := ty_70) (l := u34) Try.underlying64 rfl rfl (hS40.own_ro (i := 0) rfl) (wl_move rfl rfl (WL.nil (fun a ha => hK33 _ _ (W.block (W.loopk (fun m a w42 => ∃ (y45 : Int) (y46 : Int), St 40 [(1, (.pointer (some ⟨b2, 0, none⟩))), (4, (.int .i64 y45)), (13, (.int .i64 (List.length x0.2.1 : Int))), (14, (.int .i64 y24)), (19, v35), (20, (.int .i64 (List.length u34 : Int))), (21, (.int .i64 y46))] a ∧ Below w0.heap.size w0 w42 ∧ Sep w0.heap.size w42 [R.blk b2 53 [v0_0, v0_1, (.int .i64 x0.2.2.1), (.int .i64 x0.2.2.2)], R.own ty_70 F36 v35 u34] ∧ F_spec_LeastStepOf_L2 u34 nx25 y24 m y45 y46 = some r) FU ?_ ?_)) a ha)))
     ·
      exact fun a ha => ⟨y23, 0, ha.sub ⟨rfl, rfl, rfl, rfl, rfl, rfl, rfl, trivial⟩, hB39, (hS40.sel [1, 0] rfl), hF⟩
     ·
      rintro m49 a w42 ⟨y45, y46, ha, hB43, hS44, hF⟩ KL48 hKL48
      refine W.at ?_ ha
      cases m49 with
      | zero => exact noneE hF
      | succ m49 =>
       obtain ⟨nx47, hnx47⟩ : ∃ k, k = F_spec_LeastStepOf_L2 u34 nx25 y24 m49 := ⟨_, rfl⟩
       rw [F_spec_LeastStepOf_L2, ← hnx47] at hF
       refine W.seq fun K50 hK50 => W.region (wl_lss rfl rfl rfl (WL.nil (fun a ha => hK50 _ _ (W.seq fun K51 hK51 => (W.cond rfl (fun h52 => ?_) (fun h52 => ?_))) a ha)))
       ·replace hF := ifP h52 hF
        refine W.skip fun a ha => hK51 _ _ (W.seq fun K53 hK53 => (W.block (W.seq fun K54 hK54 => (W.region ?_)))) a ha
        obtain ⟨u55, hu55, hF⟩ := bindE hF
        refine wl_indexo (e := ty_70) (i := 1) Try.underlying64 rfl rfl rfl hS44 rfl hu55 ?_
        rintro p56 _ rfl hp57 ho58
        refine wl_load_p (vs := [(.int .i64 u55.1.1), (.int .i64 u55.1.2), (.int .i64 u55.2.1.1), (.int .i64 u55.2.1.2), (.int .i64 u55.2.2)]) (v := (.agg #[(.int .i64 u55.1.1), (.int .i64 u55.1.2), (.int .i64 u55.2.1.1), (.int .i64 u55.2.1.2), (.int .i64 u55.2.2)])) tf_70 rfl rfl hp57 rfl rfl (wl_alloc (cs := [(.int .i64 0), (.int .i64 0), (.int .i64 0), (.int .i64 0), (.int .i64 0)]) tf_70 rfl rfl hB43 hS44 ?_)
        intro b59 w60 hb61 hB62 hS63
        refine wl_store_blk (i := 0) (vs := [(.int .i64 u55.1.1), (.int .i64 u55.1.2), (.int .i64 u55.2.1.1), (.int .i64 u55.2.1.2), (.int .i64 u55.2.2)]) (cs' := [(.int .i64 u55.1.1), (.int .i64 u55.1.2), (.int .i64 u55.2.1.1), (.int .i64 u55.2.1.2), (.int .i64 u55.2.2)]) tf_70 rfl rfl rfl rfl hB62 hS63 rfl rfl ⟨rfl, rfl, rfl, rfl, rfl, trivial⟩ rfl ?_
        intro w65 hk68 hB66 hS67
        refine WL.nil fun a ha => hK54 _ _ (W.block (W.loopk (fun m a w69 => ∃ (y72 : Int), St 40 [(1, (.pointer (some ⟨b2, 0, none⟩))), (4, (.int .i64 y72)), (7, (.pointer (some ⟨b59, 0, none⟩))), (13, (.int .i64 (List.length x0.2.1 : Int))), (14, (.int .i64 y24)), (19, v35), (20, (.int .i64 (List.length u34 : Int))), (21, (.int .i64 y46))] a ∧ Below w0.heap.size w0 w69 ∧ Sep w0.heap.size w69 [R.blk b2 53 [v0_0, v0_1, (.int .i64 x0.2.2.1), (.int .i64 x0.2.2.2)], R.blk b59 70 [(.int .i64 u55.1.1), (.int .i64 u55.1.2), (.int .i64 u55.2.1.1), (.int .i64 u55.2.1.2), (.int .i64 u55.2.2)], R.own ty_70 F36 v35 u34] ∧ F_spec_LeastStepOf_L3 nx47 y46 u55 m y72 = some r) FU ?_ ?_)) a ha
        ·
         exact fun a ha => ⟨y45, ha.sub ⟨rfl, rfl, rfl, rfl, rfl, rfl, rfl, rfl, trivial⟩, hB66, (hS67.sel [1, 0, 2] rfl), hF⟩
        ·
         rintro m75 a w69 ⟨y72, ha, hB70, hS71, hF⟩ KL74 hKL74
         refine W.at ?_ ha
         cases m75 with
         | zero => exact noneE hF
         | succ m75 =>
          obtain ⟨nx73, hnx73⟩ : ∃ k, k = F_spec_LeastStepOf_L3 nx47 y46 u55 m75 := ⟨_, rfl⟩
          rw [F_spec_LeastStepOf_L3, ← hnx73] at hF
          refine W.seq fun K76 hK76 => W.seq fun K77 hK77 => ?_
          obtain ⟨k82, hk82, hF⟩ := jE1 hF
          have hJ83 : ∀ (y81 : Bool) (w78 : World) (_ : k82 y81 = some r) (_ : Below w0.heap.size w0 w78) (_ : Sep w0.heap.size w78 [R.blk b2 53 [v0_0, v0_1, (.int .i64 x0.2.2.1), (.int .i64 x0.2.2.2)], R.blk b59 70 [(.int .i64 u55.1.1), (.int .i64 u55.1.2), (.int .i64 u55.2.1.1), (.int .i64 u55.2.1.2), (.int .i64 u55.2.2)], R.own ty_70 F36 v35 u34]), ∀ a, St 40 [(1, (.pointer (some ⟨b2, 0, none⟩))), (4, (.int .i64 y72)), (7, (.pointer (some ⟨b59, 0, none⟩))), (13, (.int .i64 (List.length x0.2.1 : Int))), (14, (.int .i64 y24)), (19, v35), (20, (.int .i64 (List.length u34 : Int))), (21, (.int .i64 y46)), (32, (.bool y81))] a → K77 a w78 := by
           intro y81 w78 hF hB79 hS80
           subst hk82
           refine fun a ha => hK77 _ _ (W.cond rfl (fun h84 => ?_) (fun h84 => ?_)) a ha
           ·replace hF := ifP h84 hF
            refine W.skip fun a ha => hK76 _ _ (W.block (W.region (wl_move rfl rfl (wl_add rfl rfl rfl (wl_assign rfl rfl (WL.nil ?_)))))) a ha
            rw [hnx73] at hF
            exact fun a ha => hKL74 a _ m75 (Nat.lt_succ_self m75) ⟨(w64 (y72 + 1)), ha.sub ⟨rfl, rfl, rfl, rfl, rfl, rfl, rfl, rfl, trivial⟩, hB79, (hS80.sel [0, 1, 2] rfl), hF⟩
           ·replace hF := ifN h84 hF
            refine W.exit fun a ha => hK53 _ _ (W.region (wl_add rfl rfl rfl (wl_move rfl rfl (WL.nil ?_)))) a ha
            rw [hnx47] at hF
            exact fun a ha => hKL48 a _ m49 (Nat.lt_succ_self m49) ⟨y72, (w64 (y46 + 1)), ha.sub ⟨rfl, rfl, rfl, rfl, rfl, rfl, rfl, trivial⟩, hB79, (hS80.sel [0, 2] rfl), hF⟩
          refine W.region (wl_move rfl rfl (wl_leq rfl rfl rfl (wl_move rfl rfl ?_)))
          rcases bE (decide (y72 ≤ 24)) with h85 | h85
          ·replace hF := ifP h85 hF
           refine wl_on rfl rfl h85 (wl_load_blk (i := 1) (vs := [(.int .i64 u55.1.1), (.int .i64 u55.1.2), (.int .i64 u55.2.1.1), (.int .i64 u55.2.1.2), (.int .i64 u55.2.2)]) (v := (.agg #[(.int .i64 u55.1.1), (.int .i64 u55.1.2), (.int .i64 u55.2.1.1), (.int .i64 u55.2.1.2), (.int .i64 u55.2.2)])) tf_70 rfl rfl hS71 rfl rfl rfl (wl_on rfl rfl h85 (wl_move rfl rfl (wl_on rfl rfl h85 ?_))))
           obtain ⟨u86, hu86, hF⟩ := bindE hF
           refine wl_call rfl Try.call210 (C_spec_mvWithin w69 u55 y72 _ hu86) rfl ?_
           rintro _ w87 ⟨rfl, hb88⟩
           refine ⟨_, rfl, ?_⟩
           have hB89 := hB70.trans (hb88.mono hB70.size)
           have hS90 := hS71.below hb88
           refine wl_on rfl rfl h85 (wl_not rfl rfl (wl_pick_t rfl rfl h85 rfl (WL.nil ?_)))
           exact fun a ha => hJ83 ((!u86)) _ hF hB89 (hS90.sel [0, 1, 2] rfl) a (ha.sub ⟨rfl, rfl, rfl, rfl, rfl, rfl, rfl, rfl, rfl, trivial⟩)
          ·replace hF := ifN h85 hF
           refine wl_off rfl rfl rfl h85 (wl_off rfl rfl rfl h85 (wl_off rfl rfl rfl h85 (wl_off rfl rfl rfl h85 (wl_pick_f rfl rfl h85 rfl (WL.nil ?_)))))
           exact fun a ha => hJ83 (false) _ hF hB70 (hS71.sel [0, 1, 2] rfl) a (ha.sub ⟨rfl, rfl, rfl, rfl, rfl, rfl, rfl, rfl, rfl, trivial⟩)
       ·replace hF := ifN h52 hF
        refine W.exit fun a ha => hK31 _ _ (W.region (wl_add rfl rfl rfl (wl_move rfl rfl (WL.nil ?_)))) a ha
        rw [hnx25] at hF
        exact fun a ha => hKL26 a _ m27 (Nat.lt_succ_self m27) ⟨y45, (w64 (y24 + 1)), ha.sub ⟨rfl, rfl, rfl, rfl, trivial⟩, hB43, (hS44.sel [0] rfl), hF⟩
    ·replace hF := ifN h30 hF
     refine W.exit fun a ha => hK18 _ _ (W.seq fun K92 hK92 => (W.seq fun K93 hK93 => (W.region (wl_move rfl rfl (wl_gtr rfl rfl rfl (WL.nil (fun a ha => hK93 _ _ (W.cond rfl (fun h94 => ?_) (fun h94 => ?_)) a ha))))))) a ha
     ·replace hF := ifP h94 hF
      refine W.seq fun K95 hK95 => W.region (wl_assign rfl rfl (wl_assign rfl rfl (WL.nil (fun a ha => hK95 _ _ (W.ret ?_) a ha))))
      have hr := Option.some.inj hF
      subst hr
      exact rets (vs := [(.int .i64 0), (.bool false)]) hQ rfl ⟨rv_tmp rfl, rv_tmp rfl, trivial⟩ ⟨rfl, hB21⟩
     ·replace hF := ifN h94 hF
      refine W.skip fun a ha => hK92 _ _ (W.seq fun K96 hK96 => (W.region (wl_move rfl rfl (wl_assign rfl rfl (wl_assign rfl rfl (WL.nil (fun a ha => hK96 _ _ (W.ret ?_) a ha))))))) a ha
      have hr := Option.some.inj hF
      subst hr
      exact rets (vs := [(.int .i64 y23), (.bool true)]) hQ rfl ⟨rv_tmp rfl, rv_tmp rfl, trivial⟩ ⟨rfl, hB21⟩
theorem C_spec_DrawCompareDemand (w0 : World) (x0 : (List Int)) (v0_0 : Value) (h0_0 : rdS ty_5 (· < w0.heap.size) w0 v0_0 x0) (r : (((List (List (Int × Int))) × (List Int) × Int × Int) × ((List (List (Int × Int))) × (List Int) × Int × Int))) (hF : F_spec_DrawCompareDemand x0 = some r) :
  Calls Try.prog 111 [v0_0].toArray w0 fun e w' => ∃ (q0 : Value) (G0 : List Nat) (q1 : Value) (G1 : List Nat) (q2 : Value) (G2 : List Nat) (q3 : Value) (G3 : List Nat), e = .returned (.tuple #[(.agg #[q0, q1, (.int .i64 r.1.2.2.1), (.int .i64 r.1.2.2.2)]), (.agg #[q2, q3, (.int .i64 r.2.2.2.1), (.int .i64 r.2.2.2.2)])]) ∧ Below w0.heap.size w0 w' ∧ Sep w0.heap.size w' [R.own ty_63 G0 q0 r.1.1, R.own ty_3 G1 q1 r.1.2.1, R.own ty_63 G2 q2 r.2.1, R.own ty_3 G3 q3 r.2.2.1] := by
 refine calls_mk' Try.func111 rfl Try.ntmps111 rfl rfl fun Q hQ hP => ?_
 have hB : Below w0.heap.size w0 w0 := Below.refl _ _
 have hS : Sep w0.heap.size w0 [] := Sep.nil _ _
 unfold F_spec_DrawCompareDemand at hF
 refine W.seq fun K1 hK1 => W.region (wl_alloc (cs := [(.slice none 0 0), (.slice none 0 0), (.int .i64 0), (.int .i64 0)]) tf_53 rfl rfl hB hS ?_)
 intro b2 w3 hb4 hB5 hS6
 refine wl_alloc (cs := [(.slice none 0 0), (.slice none 0 0), (.int .i64 0), (.int .i64 0)]) tf_53 rfl rfl hB5 hS6 ?_
 intro b7 w8 hb9 hB10 hS11
 refine WL.nil fun a ha => hK1 _ _ (W.seq fun K12 hK12 => (W.region (wl_move rfl rfl ?_))) a ha
 obtain ⟨u13, hu13, hF⟩ := bindE hF
 refine wl_call rfl Try.call143 (C_spec_DrawSameShows w8 x0 v0_0 (h0_0.ro hB10) _ hu13) rfl ?_
 rintro _ w22 ⟨v14, F15, v16, F17, v18, F19, v20, F21, rfl, hb23, hM26⟩
 refine ⟨_, rfl, ?_⟩
 have hB24 := hB10.trans (hb23.mono hB10.size)
 have hS25 := hS11.join hb23 hM26 hB10.size
 refine wl_extract rfl rfl rfl (wl_extract rfl rfl rfl (wl_store_blk (i := 5) (vs := [v14, v16, (.int .i64 u13.1.2.2.1), (.int .i64 u13.1.2.2.2)]) (cs' := [v14, v16, (.int .i64 u13.1.2.2.1), (.int .i64 u13.1.2.2.2)]) tf_53 rfl rfl rfl rfl hB24 hS25 rfl rfl ⟨(hS25.own_ro (i := 0) rfl).one, (hS25.own_ro (i := 1) rfl).one, rfl, rfl, trivial⟩ rfl ?_))
 intro w27 hk30 hB28 hS29
 refine wl_store_blk (i := 4) (vs := [v18, v20, (.int .i64 u13.2.2.2.1), (.int .i64 u13.2.2.2.2)]) (cs' := [v18, v20, (.int .i64 u13.2.2.2.1), (.int .i64 u13.2.2.2.2)]) tf_53 rfl rfl rfl rfl hB28 hS29 rfl rfl ⟨(hS29.own_ro (i := 2) rfl).one, (hS29.own_ro (i := 3) rfl).one, rfl, rfl, trivial⟩ rfl ?_
 intro w31 hk34 hB32 hS33
 refine WL.nil fun a ha => hK12 _ _ (W.ret ?_) a ha
 have hr := Option.some.inj hF
 subst hr
 exact rets (vs := [(.agg #[v14, v16, (.int .i64 u13.1.2.2.1), (.int .i64 u13.1.2.2.2)]), (.agg #[v18, v20, (.int .i64 u13.2.2.2.1), (.int .i64 u13.2.2.2.2)])]) hQ rfl ⟨rv_cell (i := 5) tf_53 rfl hS33 rfl rfl rfl, rv_cell (i := 4) tf_53 rfl hS33 rfl rfl rfl, trivial⟩ ⟨v14, F15, v16, F17, v18, F19, v20, F21, rfl, hB32, hS33.sel [0, 1, 2, 3] rfl⟩
theorem C_impl_sideOf (w0 : World) (x0 : Int) (r : Int) (hF : F_impl_sideOf x0 = some r) :
  Calls Try.prog 251 [(.int .i64 x0)].toArray w0 fun e w' => e = .returned (.int .i64 r) ∧ Below w0.heap.size w0 w' := by
 refine calls_mk' Try.func251 rfl Try.ntmps251 rfl rfl fun Q hQ hP => ?_
 have hB : Below w0.heap.size w0 w0 := Below.refl _ _
 unfold F_impl_sideOf at hF
 refine W.seq fun K1 hK1 => W.region (wl_assign rfl rfl (WL.nil (fun a ha => hK1 _ _ (W.seq fun K2 hK2 => (W.block (W.seq fun K3 hK3 => (W.region (wl_move rfl rfl (wl_gtr rfl rfl rfl (wl_assign rfl rfl (WL.nil (fun a ha => hK3 _ _ ?_ a ha))))))))) a ha)))
 refine W.cond rfl (fun h4 => ?_) (fun h4 => ?_)
 ·replace hF := ifP h4 hF
  refine W.seq fun K5 hK5 => W.region (wl_assign rfl rfl (WL.nil (fun a ha => hK5 _ _ (W.ret ?_) a ha)))
  have hr := Option.some.inj hF
  subst hr
  exact rets (vs := [(.int .i64 1)]) hQ rfl ⟨rv_tmp rfl, trivial⟩ ⟨rfl, hB⟩
 ·replace hF := ifN h4 hF
  refine W.seq fun K6 hK6 => W.region (wl_move rfl rfl (wl_lss rfl rfl rfl (wl_assign rfl rfl (WL.nil (fun a ha => hK6 _ _ (W.cond rfl (fun h7 => ?_) (fun h7 => ?_)) a ha)))))
  ·replace hF := ifP h7 hF
   refine W.seq fun K8 hK8 => W.region (wl_assign rfl rfl (WL.nil (fun a ha => hK8 _ _ (W.ret ?_) a ha)))
   have hr := Option.some.inj hF
   subst hr
   exact rets (vs := [(.int .i64 (-1))]) hQ rfl ⟨rv_tmp rfl, trivial⟩ ⟨rfl, hB⟩
  ·replace hF := ifN h7 hF
   refine W.skip fun a ha => hK2 _ _ (W.seq fun K9 hK9 => (W.region (wl_assign rfl rfl (WL.nil (fun a ha => hK9 _ _ (W.ret ?_) a ha))))) a ha
   have hr := Option.some.inj hF
   subst hr
   exact rets (vs := [(.int .i64 0)]) hQ rfl ⟨rv_tmp rfl, trivial⟩ ⟨rfl, hB⟩
theorem C_impl_compareDemand (w0 : World) (x0 : ((List (List (Int × Int))) × (List Int) × Int × Int)) (v0_0 : Value) (h0_0 : rdS ty_63 (· < w0.heap.size) w0 v0_0 x0.1) (v0_1 : Value) (h0_1 : rdS ty_3 (· < w0.heap.size) w0 v0_1 x0.2.1) (x1 : ((List (List (Int × Int))) × (List Int) × Int × Int)) (v1_0 : Value) (h1_0 : rdS ty_63 (· < w0.heap.size) w0 v1_0 x1.1) (v1_1 : Value) (h1_1 : rdS ty_3 (· < w0.heap.size) w0 v1_1 x1.2.1) (r : Int) (hF : F_impl_compareDemand x0 x1 = some r) :
  Calls Try.prog 211 [(.agg #[v0_0, v0_1, (.int .i64 x0.2.2.1), (.int .i64 x0.2.2.2)]), (.agg #[v1_0, v1_1, (.int .i64 x1.2.2.1), (.int .i64 x1.2.2.2)])].toArray w0 fun e w' => e = .returned (.int .i64 r) ∧ Below w0.heap.size w0 w' := by
 refine calls_mk' Try.func211 rfl Try.ntmps211 rfl rfl fun Q hQ hP => ?_
 have hB : Below w0.heap.size w0 w0 := Below.refl _ _
 have hS : Sep w0.heap.size w0 [] := Sep.nil _ _
 unfold F_impl_compareDemand at hF
 refine W.seq fun K1 hK1 => W.region (wl_box (cs := [v0_0, v0_1, (.int .i64 x0.2.2.1), (.int .i64 x0.2.2.2)]) rfl rfl rfl hB hS ?_)
 intro b2 w3 hb4 hB5 hS6
 refine wl_box (cs := [v1_0, v1_1, (.int .i64 x1.2.2.1), (.int .i64 x1.2.2.2)]) rfl rfl rfl hB5 hS6 ?_
 intro b7 w8 hb9 hB10 hS11
 refine wl_assign rfl rfl (WL.nil (fun a ha => hK1 _ _ (W.seq fun K12 hK12 => (W.seq fun K13 hK13 => (W.regionH mixed_ [] hB10 hS11 ?_))) a ha))
 intro w14 hb15 hB16 hS17
 have hSW18 := KeepX.refl w14 []
 refine WH.tk 0 rfl hP hSW18 (pr_load_blk (i := 1) (vs := [v0_0, v0_1, (.int .i64 x0.2.2.1), (.int .i64 x0.2.2.2)]) (v := (.agg #[v0_0, v0_1, (.int .i64 x0.2.2.1), (.int .i64 x0.2.2.2)])) tf_53 rfl rfl hS17 rfl rfl rfl (by simp) (WH.tk 3 rfl hP hSW18 (pr_load_blk (i := 0) (vs := [v1_0, v1_1, (.int .i64 x1.2.2.1), (.int .i64 x1.2.2.2)]) (v := (.agg #[v1_0, v1_1, (.int .i64 x1.2.2.1), (.int .i64 x1.2.2.2)])) tf_53 rfl rfl hS17 rfl rfl rfl (by simp) (WH.on1 1 rfl ?_))))
 obtain ⟨u19, hu19, hF⟩ := bindE hF
 refine wl_call rfl Try.call184 (C_impl_unsafParts w14 x0 v0_0 (h0_0.ro hB16) v0_1 (h0_1.ro hB16) _ hu19) rfl ?_
 rintro _ w22 ⟨v20, F21, rfl, hb23, hM26⟩
 refine ⟨_, rfl, ?_⟩
 have hB24 := hB16.trans (hb23.mono hB16.size)
 have hS25 := hS17.join hb23 hM26 hB16.size
 have hSW28 := hSW18.ext hb23
 refine WL.nil (WH.ret hSW28 (WH.tk 2 rfl hP hSW28 (pr_lenr (e := ty_3) (l := u19) Try.underlying29 rfl rfl (hS25.own_ro (i := 0) rfl) (WH.on1 4 rfl ?_))))
 obtain ⟨u29, hu29, hF⟩ := bindE hF
 refine wl_call rfl Try.call184 (C_impl_unsafParts w22 x1 v1_0 (h1_0.ro hB24) v1_1 (h1_1.ro hB24) _ hu29) rfl ?_
 rintro _ w32 ⟨v30, F31, rfl, hb33, hM36⟩
 refine ⟨_, rfl, ?_⟩
 have hB34 := hB24.trans (hb33.mono hB24.size)
 have hS35 := hS25.join hb33 hM36 hB24.size
 have hSW38 := hSW28.ext hb33
 refine WL.nil (WH.ret hSW38 (WH.tk 5 rfl hP hSW38 (pr_lenr (e := ty_3) (l := u29) Try.underlying29 rfl rfl (hS35.own_ro (i := 0) rfl) (WH.tk 6 rfl hP hSW38 (pr_assign rfl rfl (WH.tk 7 rfl hP hSW38 (pr_assign rfl rfl (WH.done (by kernel_rfl) (fun a ha => hK13 _ _ (W.seq fun K39 hK39 => (W.region (wl_move rfl rfl (wl_move rfl rfl (wl_neq rfl rfl rfl ?_))))) a ha)))))))))
 refine WL.nil fun a ha => hK39 _ _ (W.cond rfl (fun h40 => ?_) (fun h40 => ?_)) a ha
 ·replace hF := ifP h40 hF
  refine W.seq fun K41 hK41 => W.region (wl_move rfl rfl (wl_move rfl rfl (wl_sub rfl rfl rfl ?_)))
  obtain ⟨u42, hu42, hF⟩ := bindE hF
  refine wl_call rfl Try.call251 (C_impl_sideOf w32 (w64 ((List.length u19 : Int) - (List.length u29 : Int))) _ hu42) rfl ?_
  rintro _ w43 ⟨rfl, hb44⟩
  refine ⟨_, rfl, ?_⟩
  have hB45 := hB34.trans (hb44.mono hB34.size)
  refine wl_assign rfl rfl (WL.nil (fun a ha => hK41 _ _ (W.ret ?_) a ha))
  have hr := Option.some.inj hF
  subst hr
  exact rets (vs := [(.int .i64 u42)]) hQ rfl ⟨rv_tmp rfl, trivial⟩ ⟨rfl, hB45⟩
 ·replace hF := ifN h40 hF
  refine W.skip fun a ha => hK12 _ _ (W.seq fun K48 hK48 => (W.seq fun K49 hK49 => (W.regionH mixed_ [] hB34 hS35 ?_))) a ha
  intro w50 hb51 hB52 hS53
  have hSW54 := KeepX.refl w50 []
  refine WH.tk 0 rfl hP hSW54 (pr_load_blk (i := 3) (vs := [v0_0, v0_1, (.int .i64 x0.2.2.1), (.int .i64 x0.2.2.2)]) (v := (.agg #[v0_0, v0_1, (.int .i64 x0.2.2.1), (.int .i64 x0.2.2.2)])) tf_53 rfl rfl hS53 rfl rfl rfl (by simp) (WH.tk 2 rfl hP hSW54 (pr_load_blk (i := 2) (vs := [v1_0, v1_1, (.int .i64 x1.2.2.1), (.int .i64 x1.2.2.2)]) (v := (.agg #[v1_0, v1_1, (.int .i64 x1.2.2.1), (.int .i64 x1.2.2.2)])) tf_53 rfl rfl hS53 rfl rfl rfl (by simp) (WH.on1 1 rfl ?_))))
  obtain ⟨u55, hu55, hF⟩ := bindE hF
  refine wl_call rfl Try.call177 (C_impl_totalCounts w50 x0 v0_0 (h0_0.ro hB52) v0_1 (h0_1.ro hB52) _ hu55) rfl ?_
  rintro _ w56 ⟨rfl, hb57⟩
  refine ⟨_, rfl, ?_⟩
  have hB58 := hB52.trans (hb57.mono hB52.size)
  have hS59 := hS53.below hb57
  have hSW61 := hSW54.ext hb57
  refine WL.nil (WH.ret hSW61 (WH.on1 3 rfl ?_))
  obtain ⟨u62, hu62, hF⟩ := bindE hF
  refine wl_call rfl Try.call177 (C_impl_totalCounts w56 x1 v1_0 (h1_0.ro hB58) v1_1 (h1_1.ro hB58) _ hu62) rfl ?_
  rintro _ w63 ⟨rfl, hb64⟩
  refine ⟨_, rfl, ?_⟩
  have hB65 := hB58.trans (hb64.mono hB58.size)
  have hS66 := hS59.below hb64
  have hSW68 := hSW61.ext hb64
  refine WL.nil (WH.ret hSW68 (WH.tk 4 rfl hP hSW68 (pr_assign rfl rfl (WH.tk 5 rfl hP hSW68 (pr_assign rfl rfl (WH.done (by kernel_rfl) (fun a ha => hK49 _ _ (W.seq fun K69 hK69 => (W.region (wl_move rfl rfl (wl_move rfl rfl (wl_neq rfl rfl rfl (WL.nil (fun a ha => hK69 _ _ ?_ a ha))))))) a ha)))))))
  refine W.cond rfl (fun h70 => ?_) (fun h70 => ?_)
  ·replace hF := ifP h70 hF
   refine W.seq fun K71 hK71 => W.region (wl_move rfl rfl (wl_move rfl rfl (wl_sub rfl rfl rfl ?_)))
   obtain ⟨u72, hu72, hF⟩ := bindE hF
   refine wl_call rfl Try.call251 (C_impl_sideOf w63 (w64 (u62 - u55)) _ hu72) rfl ?_
   rintro _ w73 ⟨rfl, hb74⟩
   refine ⟨_, rfl, ?_⟩
   have hB75 := hB65.trans (hb74.mono hB65.size)
   refine wl_assign rfl rfl (WL.nil (fun a ha => hK71 _ _ (W.ret ?_) a ha))
   have hr := Option.some.inj hF
   subst hr
   exact rets (vs := [(.int .i64 u72)]) hQ rfl ⟨rv_tmp rfl, trivial⟩ ⟨rfl, hB75⟩
  ·replace hF := ifN h70 hF
   refine W.skip fun a ha => hK48 _ _ (W.seq fun K78 hK78 => (W.region (wl_assign rfl rfl (WL.nil (fun a ha => hK78 _ _ (W.seq fun K79 hK79 => (W.seq fun K80 hK80 => (W.region (wl_load_blk (i := 3) (vs := [v0_0, v0_1, (.int .i64 x0.2.2.1), (.int .i64 x0.2.2.2)]) (v := (.agg #[v0_0, v0_1, (.int .i64 x0.2.2.1), (.int .i64 x0.2.2.2)])) tf_53 rfl rfl hS66 rfl rfl rfl ?_)))) a ha))))) a ha
   obtain ⟨u81, hu81, hF⟩ := bindE hF
   refine wl_call rfl Try.call150 (C_impl_waySums w63 x0 v0_0 (h0_0.ro hB65) v0_1 (h0_1.ro hB65) _ hu81) rfl ?_
   rintro _ w84 ⟨v82, F83, rfl, hb85, hM88⟩
   refine ⟨_, rfl, ?_⟩
   have hB86 := hB65.trans (hb85.mono hB65.size)
   have hS87 := hS66.join hb85 hM88 hB65.size
   refine wl_lenr (e := ty_3) (l := u81) Try.underlying29 rfl rfl (hS87.own_ro (i := 0) rfl) (wl_move rfl rfl (WL.nil (fun a ha => hK80 _ _ (W.block (W.loopk (fun m a w89 => ∃ (y92 : Int) (y93 : Int), St 62 [(3, (.pointer (some ⟨b7, 0, none⟩))), (9, (.int .i64 y92)), (39, v82), (40, (.int .i64 (List.length u81 : Int))), (41, (.int .i64 y93))] a ∧ Below w0.heap.size w0 w89 ∧ Sep w0.heap.size w89 [R.blk b7 53 [v1_0, v1_1, (.int .i64 x1.2.2.1), (.int .i64 x1.2.2.2)], R.own ty_3 F83 v82 u81] ∧ F_impl_compareDemand_L1 u81 x1 m y92 y93 = some r) FU ?_ ?_)) a ha)))
   ·
    exact fun a ha => ⟨0, 0, ha.sub ⟨rfl, rfl, rfl, rfl, rfl, trivial⟩, hB86, (hS87.sel [3, 0] rfl), hF⟩
   ·
    rintro m96 a w89 ⟨y92, y93, ha, hB90, hS91, hF⟩ KL95 hKL95
    refine W.at ?_ ha
    cases m96 with
    | zero => exact noneE hF
    | succ m96 =>
     obtain ⟨nx94, hnx94⟩ : ∃ k, k = F_impl_compareDemand_L1 u81 x1 m96 := ⟨_, rfl⟩
     rw [F_impl_compareDemand_L1, ← hnx94] at hF
     refine W.seq fun K97 hK97 => W.region (wl_lss rfl rfl rfl (WL.nil (fun a ha => hK97 _ _ (W.seq fun K98 hK98 => (W.cond rfl (fun h99 => ?_) (fun h99 => ?_))) a ha)))
     ·replace hF := ifP h99 hF
      refine W.skip fun a ha => hK98 _ _ (W.seq fun K100 hK100 => (W.block (W.seq fun K101 hK101 => (W.region ?_)))) a ha
      obtain ⟨u102, hu102, hF⟩ := bindE hF
      refine wl_indexo (e := ty_3) (i := 1) Try.underlying29 rfl rfl rfl hS91 rfl hu102 ?_
      rintro p103 _ rfl hp104 ho105
      refine wl_load_p (vs := [(.int .i64 u102)]) (v := (.int .i64 u102)) tf_3 rfl rfl hp104 rfl rfl (wl_assign rfl rfl (WL.nil (fun a ha => hK101 _ _ (W.region (wl_move rfl rfl (wl_move rfl rfl (wl_add rfl rfl rfl (wl_assign rfl rfl (WL.nil (fun a ha => hK100 _ _ (W.region (wl_add rfl rfl rfl (wl_move rfl rfl ?_))) a ha))))))) a ha)))
      refine WL.nil ?_
      rw [hnx94] at hF
      exact fun a ha => hKL95 a _ m96 (Nat.lt_succ_self m96) ⟨(w64 (y92 + u102)), (w64 (y93 + 1)), ha.sub ⟨rfl, rfl, rfl, rfl, rfl, trivial⟩, hB90, (hS91.sel [0, 1] rfl), hF⟩
     ·replace hF := ifN h99 hF
      refine W.exit fun a ha => hK79 _ _ (W.seq fun K106 hK106 => (W.seq fun K107 hK107 => (W.region (wl_load_blk (i := 0) (vs := [v1_0, v1_1, (.int .i64 x1.2.2.1), (.int .i64 x1.2.2.2)]) (v := (.agg #[v1_0, v1_1, (.int .i64 x1.2.2.1), (.int .i64 x1.2.2.2)])) tf_53 rfl rfl hS91 rfl rfl rfl ?_)))) a ha
      obtain ⟨u108, hu108, hF⟩ := bindE hF
      refine wl_call rfl Try.call150 (C_impl_waySums w89 x1 v1_0 (h1_0.ro hB90) v1_1 (h1_1.ro hB90) _ hu108) rfl ?_
      rintro _ w111 ⟨v109, F110, rfl, hb112, hM115⟩
      refine ⟨_, rfl, ?_⟩
      have hB113 := hB90.trans (hb112.mono hB90.size)
      have hS114 := hS91.join hb112 hM115 hB90.size
      refine wl_lenr (e := ty_3) (l := u108) Try.underlying29 rfl rfl (hS114.own_ro (i := 0) rfl) (wl_move rfl rfl (WL.nil (fun a ha => hK107 _ _ (W.block (W.loopk (fun m a w116 => ∃ (y119 : Int) (y120 : Int), St 62 [(9, (.int .i64 y119)), (50, v109), (51, (.int .i64 (List.length u108 : Int))), (52, (.int .i64 y120))] a ∧ Below w0.heap.size w0 w116 ∧ Sep w0.heap.size w116 [R.own ty_3 F110 v109 u108] ∧ F_impl_compareDemand_L2 u108 m y119 y120 = some r) FU ?_ ?_)) a ha)))
      ·
       exact fun a ha => ⟨y92, 0, ha.sub ⟨rfl, rfl, rfl, rfl, trivial⟩, hB113, (hS114.sel [0] rfl), hF⟩
      ·
       rintro m123 a w116 ⟨y119, y120, ha, hB117, hS118, hF⟩ KL122 hKL122
       refine W.at ?_ ha
       cases m123 with
       | zero => exact noneE hF
       | succ m123 =>
        obtain ⟨nx121, hnx121⟩ : ∃ k, k = F_impl_compareDemand_L2 u108 m123 := ⟨_, rfl⟩
        rw [F_impl_compareDemand_L2, ← hnx121] at hF
        refine W.seq fun K124 hK124 => W.region (wl_lss rfl rfl rfl (WL.nil (fun a ha => hK124 _ _ (W.seq fun K125 hK125 => (W.cond rfl (fun h126 => ?_) (fun h126 => ?_))) a ha)))
        ·replace hF := ifP h126 hF
         refine W.skip fun a ha => hK125 _ _ (W.seq fun K127 hK127 => (W.block (W.seq fun K128 hK128 => (W.region ?_)))) a ha
         obtain ⟨u129, hu129, hF⟩ := bindE hF
         refine wl_indexo (e := ty_3) (i := 0) Try.underlying29 rfl rfl rfl hS118 rfl hu129 ?_
         rintro p130 _ rfl hp131 ho132
         refine wl_load_p (vs := [(.int .i64 u129)]) (v := (.int .i64 u129)) tf_3 rfl rfl hp131 rfl rfl (wl_assign rfl rfl (WL.nil (fun a ha => hK128 _ _ (W.region (wl_move rfl rfl (wl_move rfl rfl (wl_sub rfl rfl rfl (wl_assign rfl rfl (WL.nil (fun a ha => hK127 _ _ (W.region (wl_add rfl rfl rfl (wl_move rfl rfl ?_))) a ha))))))) a ha)))
         refine WL.nil ?_
         rw [hnx121] at hF
         exact fun a ha => hKL122 a _ m123 (Nat.lt_succ_self m123) ⟨(w64 (y119 - u129)), (w64 (y120 + 1)), ha.sub ⟨rfl, rfl, rfl, rfl, trivial⟩, hB117, (hS118.sel [0] rfl), hF⟩
        ·replace hF := ifN h126 hF
         refine W.exit fun a ha => hK106 _ _ (W.seq fun K133 hK133 => (W.region (wl_move rfl rfl ?_))) a ha
         obtain ⟨u134, hu134, hF⟩ := bindE hF
         refine wl_call rfl Try.call251 (C_impl_sideOf w116 y119 _ hu134) rfl ?_
         rintro _ w135 ⟨rfl, hb136⟩
         refine ⟨_, rfl, ?_⟩
         have hB137 := hB117.trans (hb136.mono hB117.size)
         refine wl_assign rfl rfl (WL.nil (fun a ha => hK133 _ _ (W.ret ?_) a ha))
         have hr := Option.some.inj hF
         subst hr
         exact rets (vs := [(.int .i64 u134)]) hQ rfl ⟨rv_tmp rfl, trivial⟩ ⟨rfl, hB137⟩
theorem C_impl_CompareDemand (w0 : World) (x0 : ((List (List (Int × Int))) × (List Int) × Int × Int)) (v0_0 : Value) (h0_0 : rdS ty_63 (· < w0.heap.size) w0 v0_0 x0.1) (v0_1 : Value) (h0_1 : rdS ty_3 (· < w0.heap.size) w0 v0_1 x0.2.1) (x1 : ((List (List (Int × Int))) × (List Int) × Int × Int)) (v1_0 : Value) (h1_0 : rdS ty_63 (· < w0.heap.size) w0 v1_0 x1.1) (v1_1 : Value) (h1_1 : rdS ty_3 (· < w0.heap.size) w0 v1_1 x1.2.1) (r : (Int × Bool)) (hF : F_impl_CompareDemand x0 x1 = some r) :
  Calls Try.prog 112 [(.agg #[v0_0, v0_1, (.int .i64 x0.2.2.1), (.int .i64 x0.2.2.2)]), (.agg #[v1_0, v1_1, (.int .i64 x1.2.2.1), (.int .i64 x1.2.2.2)])].toArray w0 fun e w' => e = .returned (.tuple #[(.int .i64 r.1), (.bool r.2)]) ∧ Below w0.heap.size w0 w' := by
 refine calls_mk' Try.func112 rfl Try.ntmps112 rfl rfl fun Q hQ hP => ?_
 have hB : Below w0.heap.size w0 w0 := Below.refl _ _
 have hS : Sep w0.heap.size w0 [] := Sep.nil _ _
 unfold F_impl_CompareDemand at hF
 refine W.seq fun K1 hK1 => W.region (wl_box (cs := [v0_0, v0_1, (.int .i64 x0.2.2.1), (.int .i64 x0.2.2.2)]) rfl rfl rfl hB hS ?_)
 intro b2 w3 hb4 hB5 hS6
 refine wl_box (cs := [v1_0, v1_1, (.int .i64 x1.2.2.1), (.int .i64 x1.2.2.2)]) rfl rfl rfl hB5 hS6 ?_
 intro b7 w8 hb9 hB10 hS11
 refine wl_assign rfl rfl (wl_assign rfl rfl (WL.nil (fun a ha => hK1 _ _ (W.seq fun K12 hK12 => (W.seq fun K13 hK13 => ?_)) a ha)))
 obtain ⟨k18, hk18, hF⟩ := jE1 hF
 have hJ19 : ∀ (y17 : Bool) (w14 : World) (_ : k18 y17 = some r) (_ : Below w0.heap.size w0 w14) (_ : Sep w0.heap.size w14 [R.blk b2 53 [v0_0, v0_1, (.int .i64 x0.2.2.1), (.int .i64 x0.2.2.2)], R.blk b7 53 [v1_0, v1_1, (.int .i64 x1.2.2.1), (.int .i64 x1.2.2.2)]]), ∀ a, St 17 [(2, (.pointer (some ⟨b2, 0, none⟩))), (3, (.pointer (some ⟨b7, 0, none⟩))), (13, (.bool y17))] a → K13 a w14 := by
  intro y17 w14 hF hB15 hS16
  subst hk18
  refine fun a ha => hK13 _ _ (W.cond rfl (fun h20 => ?_) (fun h20 => ?_)) a ha
  ·replace hF := ifP h20 hF
   refine W.seq fun K21 hK21 => W.region (wl_assign rfl rfl (wl_assign rfl rfl (WL.nil (fun a ha => hK21 _ _ (W.ret ?_) a ha))))
   have hr := Option.some.inj hF
   subst hr
   exact rets (vs := [(.int .i64 0), (.bool false)]) hQ rfl ⟨rv_tmp rfl, rv_tmp rfl, trivial⟩ ⟨rfl, hB15⟩
  ·replace hF := ifN h20 hF
   refine W.skip fun a ha => hK12 _ _ (W.seq fun K22 hK22 => (W.region (wl_load_blk (i := 0) (vs := [v0_0, v0_1, (.int .i64 x0.2.2.1), (.int .i64 x0.2.2.2)]) (v := (.agg #[v0_0, v0_1, (.int .i64 x0.2.2.1), (.int .i64 x0.2.2.2)])) tf_53 rfl rfl hS16 rfl rfl rfl (wl_load_blk (i := 1) (vs := [v1_0, v1_1, (.int .i64 x1.2.2.1), (.int .i64 x1.2.2.2)]) (v := (.agg #[v1_0, v1_1, (.int .i64 x1.2.2.1), (.int .i64 x1.2.2.2)])) tf_53 rfl rfl hS16 rfl rfl rfl ?_)))) a ha
   obtain ⟨u23, hu23, hF⟩ := bindE hF
   refine wl_call rfl Try.call211 (C_impl_compareDemand w14 x0 v0_0 (h0_0.ro hB15) v0_1 (h0_1.ro hB15) x1 v1_0 (h1_0.ro hB15) v1_1 (h1_1.ro hB15) _ hu23) rfl ?_
   rintro _ w24 ⟨rfl, hb25⟩
   refine ⟨_, rfl, ?_⟩
   have hB26 := hB15.trans (hb25.mono hB15.size)
   refine wl_assign rfl rfl (wl_assign rfl rfl (WL.nil (fun a ha => hK22 _ _ (W.ret ?_) a ha)))
   have hr := Option.some.inj hF
   subst hr
   exact rets (vs := [(.int .i64 u23), (.bool true)]) hQ rfl ⟨rv_tmp rfl, rv_tmp rfl, trivial⟩ ⟨rfl, hB26⟩
 refine W.region (wl_load_blk (i := 1) (vs := [v0_0, v0_1, (.int .i64 x0.2.2.1), (.int .i64 x0.2.2.2)]) (v := (.agg #[v0_0, v0_1, (.int .i64 x0.2.2.1), (.int .i64 x0.2.2.2)])) tf_53 rfl rfl hS11 rfl rfl rfl ?_)
 obtain ⟨u29, hu29, hF⟩ := bindE hF
 refine wl_call rfl Try.call60 (C_impl_IsShow w8 x0 v0_0 (h0_0.ro hB10) v0_1 (h0_1.ro hB10) _ hu29) rfl ?_
 rintro _ w30 ⟨rfl, hb31⟩
 refine ⟨_, rfl, ?_⟩
 have hB32 := hB10.trans (hb31.mono hB10.size)
 have hS33 := hS11.below hb31
 refine wl_not rfl rfl (wl_move rfl rfl ?_)
 rcases bE (!u29) with h35 | h35
 ·replace hF := ifP h35 hF
  refine wl_off rfl rfl rfl h35 (wl_off rfl rfl rfl h35 (wl_off rfl rfl rfl h35 (wl_pick_t rfl rfl h35 rfl (WL.nil ?_))))
  exact fun a ha => hJ19 (true) _ hF hB32 (hS33.sel [1, 0] rfl) a (ha.sub ⟨rfl, rfl, rfl, trivial⟩)
 ·replace hF := ifN h35 hF
  refine wl_on rfl rfl h35 (wl_load_blk (i := 0) (vs := [v1_0, v1_1, (.int .i64 x1.2.2.1), (.int .i64 x1.2.2.2)]) (v := (.agg #[v1_0, v1_1, (.int .i64 x1.2.2.1), (.int .i64 x1.2.2.2)])) tf_53 rfl rfl hS33 rfl rfl rfl (wl_on rfl rfl h35 ?_))
  obtain ⟨u36, hu36, hF⟩ := bindE hF
  refine wl_call rfl Try.call60 (C_impl_IsShow w30 x1 v1_0 (h1_0.ro hB32) v1_1 (h1_1.ro hB32) _ hu36) rfl ?_
  rintro _ w37 ⟨rfl, hb38⟩
  refine ⟨_, rfl, ?_⟩
  have hB39 := hB32.trans (hb38.mono hB32.size)
  have hS40 := hS33.below hb38
  refine wl_on rfl rfl h35 (wl_not rfl rfl (wl_pick_f rfl rfl h35 rfl (WL.nil ?_)))
  exact fun a ha => hJ19 ((!u36)) _ hF hB39 (hS40.sel [1, 0] rfl) a (ha.sub ⟨rfl, rfl, rfl, trivial⟩)
theorem C_spec_l1Sign (w0 : World) (x0 : Int) (r : Int) (hF : F_spec_l1Sign x0 = some r) :
  Calls Try.prog 252 [(.int .i64 x0)].toArray w0 fun e w' => e = .returned (.int .i64 r) ∧ Below w0.heap.size w0 w' := by
 refine calls_mk' Try.func252 rfl Try.ntmps252 rfl rfl fun Q hQ hP => ?_
 have hB : Below w0.heap.size w0 w0 := Below.refl _ _
 unfold F_spec_l1Sign at hF
 refine W.seq fun K1 hK1 => W.region (wl_assign rfl rfl (WL.nil (fun a ha => hK1 _ _ (W.seq fun K2 hK2 => (W.block (W.seq fun K3 hK3 => (W.region (wl_move rfl rfl (wl_gtr rfl rfl rfl (wl_assign rfl rfl (WL.nil (fun a ha => hK3 _ _ ?_ a ha))))))))) a ha)))
 refine W.cond rfl (fun h4 => ?_) (fun h4 => ?_)
 ·replace hF := ifP h4 hF
  refine W.seq fun K5 hK5 => W.region (wl_assign rfl rfl (WL.nil (fun a ha => hK5 _ _ (W.ret ?_) a ha)))
  have hr := Option.some.inj hF
  subst hr
  exact rets (vs := [(.int .i64 1)]) hQ rfl ⟨rv_tmp rfl, trivial⟩ ⟨rfl, hB⟩
 ·replace hF := ifN h4 hF
  refine W.seq fun K6 hK6 => W.region (wl_move rfl rfl (wl_lss rfl rfl rfl (wl_assign rfl rfl (WL.nil (fun a ha => hK6 _ _ (W.cond rfl (fun h7 => ?_) (fun h7 => ?_)) a ha)))))
  ·replace hF := ifP h7 hF
   refine W.seq fun K8 hK8 => W.region (wl_assign rfl rfl (WL.nil (fun a ha => hK8 _ _ (W.ret ?_) a ha)))
   have hr := Option.some.inj hF
   subst hr
   exact rets (vs := [(.int .i64 (-1))]) hQ rfl ⟨rv_tmp rfl, trivial⟩ ⟨rfl, hB⟩
  ·replace hF := ifN h7 hF
   refine W.skip fun a ha => hK2 _ _ (W.seq fun K9 hK9 => (W.region (wl_assign rfl rfl (WL.nil (fun a ha => hK9 _ _ (W.ret ?_) a ha))))) a ha
   have hr := Option.some.inj hF
   subst hr
   exact rets (vs := [(.int .i64 0)]) hQ rfl ⟨rv_tmp rfl, trivial⟩ ⟨rfl, hB⟩
theorem C_spec_cpCompare (w0 : World) (x0 : ((List (List (Int × Int))) × (List Int) × Int × Int)) (v0_0 : Value) (h0_0 : rdS ty_63 (· < w0.heap.size) w0 v0_0 x0.1) (v0_1 : Value) (h0_1 : rdS ty_3 (· < w0.heap.size) w0 v0_1 x0.2.1) (x1 : ((List (List (Int × Int))) × (List Int) × Int × Int)) (v1_0 : Value) (h1_0 : rdS ty_63 (· < w0.heap.size) w0 v1_0 x1.1) (v1_1 : Value) (h1_1 : rdS ty_3 (· < w0.heap.size) w0 v1_1 x1.2.1) (r : Int) (hF : F_spec_cpCompare x0 x1 = some r) :
  Calls Try.prog 212 [(.agg #[v0_0, v0_1, (.int .i64 x0.2.2.1), (.int .i64 x0.2.2.2)]), (.agg #[v1_0, v1_1, (.int .i64 x1.2.2.1), (.int .i64 x1.2.2.2)])].toArray w0 fun e w' => e = .returned (.int .i64 r) ∧ Below w0.heap.size w0 w' := by
 refine calls_mk' Try.func212 rfl Try.ntmps212 rfl rfl fun Q hQ hP => ?_
 have hB : Below w0.heap.size w0 w0 := Below.refl _ _
 have hS : Sep w0.heap.size w0 [] := Sep.nil _ _
 unfold F_spec_cpCompare at hF
 refine W.seq fun K1 hK1 => W.region (wl_box (cs := [v0_0, v0_1, (.int .i64 x0.2.2.1), (.int .i64 x0.2.2.2)]) rfl rfl rfl hB hS ?_)
 intro b2 w3 hb4 hB5 hS6
 refine wl_box (cs := [v1_0, v1_1, (.int .i64 x1.2.2.1), (.int .i64 x1.2.2.2)]) rfl rfl rfl hB5 hS6 ?_
 intro b7 w8 hb9 hB10 hS11
 refine wl_assign rfl rfl (WL.nil (fun a ha => hK1 _ _ (W.seq fun K12 hK12 => (W.region (wl_load_blk (i := 1) (vs := [v0_0, v0_1, (.int .i64 x0.2.2.1), (.int .i64 x0.2.2.2)]) (v := (.agg #[v0_0, v0_1, (.int .i64 x0.2.2.1), (.int .i64 x0.2.2.2)])) tf_53 rfl rfl hS11 rfl rfl rfl ?_))) a ha))
 obtain ⟨u13, hu13, hF⟩ := bindE hF
 refine wl_call rfl Try.call77 (C_spec_UnsafeParts w8 x0 v0_0 (h0_0.ro hB10) v0_1 (h0_1.ro hB10) _ hu13) rfl ?_
 rintro _ w16 ⟨v14, F15, rfl, hb17, hM20⟩
 refine ⟨_, rfl, ?_⟩
 have hB18 := hB10.trans (hb17.mono hB10.size)
 have hS19 := hS11.join hb17 hM20 hB10.size
 refine wl_move rfl rfl (wl_extract rfl rfl rfl (wl_extract rfl rfl rfl (wl_assign rfl rfl (wl_assign rfl rfl (WL.nil (fun a ha => hK12 _ _ (W.seq fun K21 hK21 => (W.region (wl_load_blk (i := 1) (vs := [v1_0, v1_1, (.int .i64 x1.2.2.1), (.int .i64 x1.2.2.2)]) (v := (.agg #[v1_0, v1_1, (.int .i64 x1.2.2.1), (.int .i64 x1.2.2.2)])) tf_53 rfl rfl hS19 rfl rfl rfl ?_))) a ha))))))
 obtain ⟨u22, hu22, hF⟩ := bindE hF
 refine wl_call rfl Try.call77 (C_spec_UnsafeParts w16 x1 v1_0 (h1_0.ro hB18) v1_1 (h1_1.ro hB18) _ hu22) rfl ?_
 rintro _ w25 ⟨v23, F24, rfl, hb26, hM29⟩
 refine ⟨_, rfl, ?_⟩
 have hB27 := hB18.trans (hb26.mono hB18.size)
 have hS28 := hS19.join hb26 hM29 hB18.size
 refine wl_move rfl rfl (wl_extract rfl rfl rfl (wl_extract rfl rfl rfl (wl_assign rfl rfl (wl_assign rfl rfl (WL.nil (fun a ha => hK21 _ _ (W.seq fun K30 hK30 => (W.seq fun K31 hK31 => (W.region (wl_move rfl rfl (wl_lenr (e := ty_3) (l := u13.1) Try.underlying29 rfl rfl (hS28.own_ro (i := 1) rfl) (wl_move rfl rfl (wl_lenr (e := ty_3) (l := u22.1) Try.underlying29 rfl rfl (hS28.own_ro (i := 0) rfl) ?_))))))) a ha))))))
 refine wl_neq rfl rfl rfl (WL.nil (fun a ha => hK31 _ _ (W.cond rfl (fun h32 => ?_) (fun h32 => ?_)) a ha))
 ·replace hF := ifP h32 hF
  refine W.seq fun K33 hK33 => W.region (wl_move rfl rfl (wl_lenr (e := ty_3) (l := u13.1) Try.underlying29 rfl rfl (hS28.own_ro (i := 1) rfl) (wl_move rfl rfl (wl_lenr (e := ty_3) (l := u22.1) Try.underlying29 rfl rfl (hS28.own_ro (i := 0) rfl) (wl_sub rfl rfl rfl ?_)))))
  obtain ⟨u34, hu34, hF⟩ := bindE hF
  refine wl_call rfl Try.call252 (C_spec_l1Sign w25 (w64 ((List.length u13.1 : Int) - (List.length u22.1 : Int))) _ hu34) rfl ?_
  rintro _ w35 ⟨rfl, hb36⟩
  refine ⟨_, rfl, ?_⟩
  have hB37 := hB27.trans (hb36.mono hB27.size)
  refine wl_assign rfl rfl (WL.nil (fun a ha => hK33 _ _ (W.ret ?_) a ha))
  have hr := Option.some.inj hF
  subst hr
  exact rets (vs := [(.int .i64 u34)]) hQ rfl ⟨rv_tmp rfl, trivial⟩ ⟨rfl, hB37⟩
 ·replace hF := ifN h32 hF
  refine W.skip fun a ha => hK30 _ _ (W.seq fun K40 hK40 => (W.seq fun K41 hK41 => (W.regionH mixed_ [] hB27 hS28 ?_))) a ha
  intro w42 hb43 hB44 hS45
  have hSW46 := KeepX.refl w42 []
  refine WH.tk 0 rfl hP hSW46 (pr_load_blk (i := 3) (vs := [v0_0, v0_1, (.int .i64 x0.2.2.1), (.int .i64 x0.2.2.2)]) (v := (.agg #[v0_0, v0_1, (.int .i64 x0.2.2.1), (.int .i64 x0.2.2.2)])) tf_53 rfl rfl hS45 rfl rfl rfl (by simp) (WH.tk 2 rfl hP hSW46 (pr_load_blk (i := 2) (vs := [v1_0, v1_1, (.int .i64 x1.2.2.1), (.int .i64 x1.2.2.2)]) (v := (.agg #[v1_0, v1_1, (.int .i64 x1.2.2.1), (.int .i64 x1.2.2.2)])) tf_53 rfl rfl hS45 rfl rfl rfl (by simp) (WH.on1 1 rfl ?_))))
  obtain ⟨u47, hu47, hF⟩ := bindE hF
  refine wl_call rfl Try.call188 (C_spec_swTotal w42 x0 v0_0 (h0_0.ro hB44) v0_1 (h0_1.ro hB44) _ hu47) rfl ?_
  rintro _ w48 ⟨rfl, hb49⟩
  refine ⟨_, rfl, ?_⟩
  have hB50 := hB44.trans (hb49.mono hB44.size)
  have hS51 := hS45.below hb49
  have hSW53 := hSW46.ext hb49
  refine WL.nil (WH.ret hSW53 (WH.on1 3 rfl ?_))
  obtain ⟨u54, hu54, hF⟩ := bindE hF
  refine wl_call rfl Try.call188 (C_spec_swTotal w48 x1 v1_0 (h1_0.ro hB50) v1_1 (h1_1.ro hB50) _ hu54) rfl ?_
  rintro _ w55 ⟨rfl, hb56⟩
  refine ⟨_, rfl, ?_⟩
  have hB57 := hB50.trans (hb56.mono hB50.size)
  have hS58 := hS51.below hb56
  have hSW60 := hSW53.ext hb56
  refine WL.nil (WH.ret hSW60 (WH.tk 4 rfl hP hSW60 (pr_neq rfl rfl rfl (WH.done (by kernel_rfl) (fun a ha => hK41 _ _ (W.cond rfl (fun h61 => ?_) (fun h61 => ?_)) a ha)))))
  ·replace hF := ifP h61 hF
   refine W.seq fun K62 hK62 => W.regionH mixed_ [] hB57 hS58 ?_
   intro w63 hb64 hB65 hS66
   have hSW67 := KeepX.refl w63 []
   refine WH.tk 0 rfl hP hSW67 (pr_load_blk (i := 2) (vs := [v1_0, v1_1, (.int .i64 x1.2.2.1), (.int .i64 x1.2.2.2)]) (v := (.agg #[v1_0, v1_1, (.int .i64 x1.2.2.1), (.int .i64 x1.2.2.2)])) tf_53 rfl rfl hS66 rfl rfl rfl (by simp) (WH.tk 2 rfl hP hSW67 (pr_load_blk (i := 3) (vs := [v0_0, v0_1, (.int .i64 x0.2.2.1), (.int .i64 x0.2.2.2)]) (v := (.agg #[v0_0, v0_1, (.int .i64 x0.2.2.1), (.int .i64 x0.2.2.2)])) tf_53 rfl rfl hS66 rfl rfl rfl (by simp) (WH.on1 1 rfl ?_))))
   obtain ⟨u68, hu68, hF⟩ := bindE hF
   refine wl_call rfl Try.call188 (C_spec_swTotal w63 x1 v1_0 (h1_0.ro hB65) v1_1 (h1_1.ro hB65) _ hu68) rfl ?_
   rintro _ w69 ⟨rfl, hb70⟩
   refine ⟨_, rfl, ?_⟩
   have hB71 := hB65.trans (hb70.mono hB65.size)
   have hSW74 := hSW67.ext hb70
   refine WL.nil (WH.ret hSW74 (WH.on1 3 rfl ?_))
   obtain ⟨u75, hu75, hF⟩ := bindE hF
   refine wl_call rfl Try.call188 (C_spec_swTotal w69 x0 v0_0 (h0_0.ro hB71) v0_1 (h0_1.ro hB71) _ hu75) rfl ?_
   rintro _ w76 ⟨rfl, hb77⟩
   refine ⟨_, rfl, ?_⟩
   have hB78 := hB71.trans (hb77.mono hB71.size)
   have hSW81 := hSW74.ext hb77
   refine WL.nil (WH.ret hSW81 (WH.tk 4 rfl hP hSW81 (pr_sub rfl rfl rfl (WH.on1 5 rfl ?_))))
   obtain ⟨u82, hu82, hF⟩ := bindE hF
   refine wl_call rfl Try.call252 (C_spec_l1Sign w76 (w64 (u68 - u75)) _ hu82) rfl ?_
   rintro _ w83 ⟨rfl, hb84⟩
   refine ⟨_, rfl, ?_⟩
   have hB85 := hB78.trans (hb84.mono hB78.size)
   have hSW88 := hSW81.ext hb84
   refine WL.nil (WH.ret hSW88 (WH.tk 6 rfl hP hSW88 (pr_assign rfl rfl (WH.done (by kernel_rfl) (fun a ha => hK62 _ _ (W.ret ?_) a ha)))))
   have hr := Option.some.inj hF
   subst hr
   exact rets (vs := [(.int .i64 u82)]) hQ rfl ⟨rv_tmp rfl, trivial⟩ ⟨rfl, hB85⟩
  ·replace hF := ifN h61 hF
   refine W.skip fun a ha => hK40 _ _ (W.seq fun K89 hK89 => (W.regionH mixed_ [] hB57 hS58 ?_)) a ha
   intro w90 hb91 hB92 hS93
   have hSW94 := KeepX.refl w90 []
   refine WH.tk 0 rfl hP hSW94 (pr_load_blk (i := 3) (vs := [v0_0, v0_1, (.int .i64 x0.2.2.1), (.int .i64 x0.2.2.2)]) (v := (.agg #[v0_0, v0_1, (.int .i64 x0.2.2.1), (.int .i64 x0.2.2.2)])) tf_53 rfl rfl hS93 rfl rfl rfl (by simp) (WH.tk 3 rfl hP hSW94 (pr_load_blk (i := 2) (vs := [v1_0, v1_1, (.int .i64 x1.2.2.1), (.int .i64 x1.2.2.2)]) (v := (.agg #[v1_0, v1_1, (.int .i64 x1.2.2.1), (.int .i64 x1.2.2.2)])) tf_53 rfl rfl hS93 rfl rfl rfl (by simp) (WH.on1 1 rfl ?_))))
   obtain ⟨u95, hu95, hF⟩ := bindE hF
   refine wl_call rfl Try.call151 (C_spec_cpWays w90 x0 v0_0 (h0_0.ro hB92) v0_1 (h0_1.ro hB92) _ hu95) rfl ?_
   rintro _ w98 ⟨v96, F97, rfl, hb99, hM102⟩
   refine ⟨_, rfl, ?_⟩
   have hB100 := hB92.trans (hb99.mono hB92.size)
   have hS101 := hS93.join hb99 hM102 hB92.size
   have hSW104 := hSW94.ext hb99
   refine WL.nil (WH.ret hSW104 (WH.on1 2 rfl ?_))
   obtain ⟨u105, hu105, hF⟩ := bindE hF
   refine wl_call rfl Try.call154 (C_spec_cpSum w98 u95 v96 (hS101.own_ro (i := 0) rfl) _ hu105) rfl ?_
   rintro _ w106 ⟨rfl, hb107⟩
   refine ⟨_, rfl, ?_⟩
   have hB108 := hB100.trans (hb107.mono hB100.size)
   have hS109 := hS101.below hb107
   have hSW111 := hSW104.ext hb107
   refine WL.nil (WH.ret hSW111 (WH.on1 4 rfl ?_))
   obtain ⟨u112, hu112, hF⟩ := bindE hF
   refine wl_call rfl Try.call151 (C_spec_cpWays w106 x1 v1_0 (h1_0.ro hB108) v1_1 (h1_1.ro hB108) _ hu112) rfl ?_
   rintro _ w115 ⟨v113, F114, rfl, hb116, hM119⟩
   refine ⟨_, rfl, ?_⟩
   have hB117 := hB108.trans (hb116.mono hB108.size)
   have hS118 := hS109.join hb116 hM119 hB108.size
   have hSW121 := hSW111.ext hb116
   refine WL.nil (WH.ret hSW121 (WH.on1 5 rfl ?_))
   obtain ⟨u122, hu122, hF⟩ := bindE hF
   refine wl_call rfl Try.call154 (C_spec_cpSum w115 u112 v113 (hS118.own_ro (i := 0) rfl) _ hu122) rfl ?_
   rintro _ w123 ⟨rfl, hb124⟩
   refine ⟨_, rfl, ?_⟩
   have hB125 := hB117.trans (hb124.mono hB117.size)
   have hSW128 := hSW121.ext hb124
   refine WL.nil (WH.ret hSW128 (WH.tk 6 rfl hP hSW128 (pr_sub rfl rfl rfl (WH.on1 7 rfl ?_))))
   obtain ⟨u129, hu129, hF⟩ := bindE hF
   refine wl_call rfl Try.call252 (C_spec_l1Sign w123 (w64 (u105 - u122)) _ hu129) rfl ?_
   rintro _ w130 ⟨rfl, hb131⟩
   refine ⟨_, rfl, ?_⟩
   have hB132 := hB125.trans (hb131.mono hB125.size)
   have hSW135 := hSW128.ext hb131
   refine WL.nil (WH.ret hSW135 (WH.tk 8 rfl hP hSW135 (pr_assign rfl rfl (WH.done (by kernel_rfl) (fun a ha => hK89 _ _ (W.ret ?_) a ha)))))
   have hr := Option.some.inj hF
   subst hr
   exact rets (vs := [(.int .i64 u129)]) hQ rfl ⟨rv_tmp rfl, trivial⟩ ⟨rfl, hB132⟩
theorem C_spec_CompareDemand (w0 : World) (x0 : ((List (List (Int × Int))) × (List Int) × Int × Int)) (v0_0 : Value) (h0_0 : rdS ty_63 (· < w0.heap.size) w0 v0_0 x0.1) (v0_1 : Value) (h0_1 : rdS ty_3 (· < w0.heap.size) w0 v0_1 x0.2.1) (x1 : ((List (List (Int × Int))) × (List Int) × Int × Int)) (v1_0 : Value) (h1_0 : rdS ty_63 (· < w0.heap.size) w0 v1_0 x1.1) (v1_1 : Value) (h1_1 : rdS ty_3 (· < w0.heap.size) w0 v1_1 x1.2.1) (r : (Int × Bool)) (hF : F_spec_CompareDemand x0 x1 = some r) :
  Calls Try.prog 113 [(.agg #[v0_0, v0_1, (.int .i64 x0.2.2.1), (.int .i64 x0.2.2.2)]), (.agg #[v1_0, v1_1, (.int .i64 x1.2.2.1), (.int .i64 x1.2.2.2)])].toArray w0 fun e w' => e = .returned (.tuple #[(.int .i64 r.1), (.bool r.2)]) ∧ Below w0.heap.size w0 w' := by
 refine calls_mk' Try.func113 rfl Try.ntmps113 rfl rfl fun Q hQ hP => ?_
 have hB : Below w0.heap.size w0 w0 := Below.refl _ _
 have hS : Sep w0.heap.size w0 [] := Sep.nil _ _
 unfold F_spec_CompareDemand at hF
 refine W.seq fun K1 hK1 => W.region (wl_box (cs := [v0_0, v0_1, (.int .i64 x0.2.2.1), (.int .i64 x0.2.2.2)]) rfl rfl rfl hB hS ?_)
 intro b2 w3 hb4 hB5 hS6
 refine wl_box (cs := [v1_0, v1_1, (.int .i64 x1.2.2.1), (.int .i64 x1.2.2.2)]) rfl rfl rfl hB5 hS6 ?_
 intro b7 w8 hb9 hB10 hS11
 refine wl_assign rfl rfl (wl_assign rfl rfl (WL.nil (fun a ha => hK1 _ _ (W.seq fun K12 hK12 => (W.seq fun K13 hK13 => ?_)) a ha)))
 obtain ⟨k18, hk18, hF⟩ := jE1 hF
 have hJ19 : ∀ (y17 : Bool) (w14 : World) (_ : k18 y17 = some r) (_ : Below w0.heap.size w0 w14) (_ : Sep w0.heap.size w14 [R.blk b2 53 [v0_0, v0_1, (.int .i64 x0.2.2.1), (.int .i64 x0.2.2.2)], R.blk b7 53 [v1_0, v1_1, (.int .i64 x1.2.2.1), (.int .i64 x1.2.2.2)]]), ∀ a, St 17 [(2, (.pointer (some ⟨b2, 0, none⟩))), (3, (.pointer (some ⟨b7, 0, none⟩))), (13, (.bool y17))] a → K13 a w14 := by
  intro y17 w14 hF hB15 hS16
  subst hk18
  refine fun a ha => hK13 _ _ (W.cond rfl (fun h20 => ?_) (fun h20 => ?_)) a ha
  ·replace hF := ifP h20 hF
   refine W.seq fun K21 hK21 => W.region (wl_assign rfl rfl (wl_assign rfl rfl (WL.nil (fun a ha => hK21 _ _ (W.ret ?_) a ha))))
   have hr := Option.some.inj hF
   subst hr
   exact rets (vs := [(.int .i64 0), (.bool false)]) hQ rfl ⟨rv_tmp rfl, rv_tmp rfl, trivial⟩ ⟨rfl, hB15⟩
  ·replace hF := ifN h20 hF
   refine W.skip fun a ha => hK12 _ _ (W.seq fun K22 hK22 => (W.region (wl_load_blk (i := 0) (vs := [v0_0, v0_1, (.int .i64 x0.2.2.1), (.int .i64 x0.2.2.2)]) (v := (.agg #[v0_0, v0_1, (.int .i64 x0.2.2.1), (.int .i64 x0.2.2.2)])) tf_53 rfl rfl hS16 rfl rfl rfl (wl_load_blk (i := 1) (vs := [v1_0, v1_1, (.int .i64 x1.2.2.1), (.int .i64 x1.2.2.2)]) (v := (.agg #[v1_0, v1_1, (.int .i64 x1.2.2.1), (.int .i64 x1.2.2.2)])) tf_53 rfl rfl hS16 rfl rfl rfl ?_)))) a ha
   obtain ⟨u23, hu23, hF⟩ := bindE hF
   refine wl_call rfl Try.call212 (C_spec_cpCompare w14 x0 v0_0 (h0_0.ro hB15) v0_1 (h0_1.ro hB15) x1 v1_0 (h1_0.ro hB15) v1_1 (h1_1.ro hB15) _ hu23) rfl ?_
   rintro _ w24 ⟨rfl, hb25⟩
   refine ⟨_, rfl, ?_⟩
   have hB26 := hB15.trans (hb25.mono hB15.size)
   refine wl_assign rfl rfl (wl_assign rfl rfl (WL.nil (fun a ha => hK22 _ _ (W.ret ?_) a ha)))
   have hr := Option.some.inj hF
   subst hr
   exact rets (vs := [(.int .i64 u23), (.bool true)]) hQ rfl ⟨rv_tmp rfl, rv_tmp rfl, trivial⟩ ⟨rfl, hB26⟩
 refine W.region (wl_load_blk (i := 1) (vs := [v0_0, v0_1, (.int .i64 x0.2.2.1), (.int .i64 x0.2.2.2)]) (v := (.agg #[v0_0, v0_1, (.int .i64 x0.2.2.1), (.int .i64 x0.2.2.2)])) tf_53 rfl rfl hS11 rfl rfl rfl ?_)
 obtain ⟨u29, hu29, hF⟩ := bindE hF
 refine wl_call rfl Try.call145 (C_spec_swGood w8 x0 v0_0 (h0_0.ro hB10) v0_1 (h0_1.ro hB10) _ hu29) rfl ?_
 rintro _ w30 ⟨rfl, hb31⟩
 refine ⟨_, rfl, ?_⟩
 have hB32 := hB10.trans (hb31.mono hB10.size)
 have hS33 := hS11.below hb31
 refine wl_not rfl rfl (wl_move rfl rfl ?_)
 rcases bE (!u29) with h35 | h35
 ·replace hF := ifP h35 hF
  refine wl_off rfl rfl rfl h35 (wl_off rfl rfl rfl h35 (wl_off rfl rfl rfl h35 (wl_pick_t rfl rfl h35 rfl (WL.nil ?_))))
  exact fun a ha => hJ19 (true) _ hF hB32 (hS33.sel [1, 0] rfl) a (ha.sub ⟨rfl, rfl, rfl, trivial⟩)
 ·replace hF := ifN h35 hF
  refine wl_on rfl rfl h35 (wl_load_blk (i := 0) (vs := [v1_0, v1_1, (.int .i64 x1.2.2.1), (.int .i64 x1.2.2.2)]) (v := (.agg #[v1_0, v1_1, (.int .i64 x1.2.2.1), (.int .i64 x1.2.2.2)])) tf_53 rfl rfl hS33 rfl rfl rfl (wl_on rfl rfl h35 ?_))
  obtain ⟨u36, hu36, hF⟩ := bindE hF
  refine wl_call rfl Try.call145 (C_spec_swGood w30 x1 v1_0 (h1_0.ro hB32) v1_1 (h1_1.ro hB32) _ hu36) rfl ?_
  rintro _ w37 ⟨rfl, hb38⟩
  refine ⟨_, rfl, ?_⟩
  have hB39 := hB32.trans (hb38.mono hB32.size)
  have hS40 := hS33.below hb38
  refine wl_on rfl rfl h35 (wl_not rfl rfl (wl_pick_f rfl rfl h35 rfl (WL.nil ?_)))
  exact fun a ha => hJ19 ((!u36)) _ hF hB39 (hS40.sel [1, 0] rfl) a (ha.sub ⟨rfl, rfl, rfl, trivial⟩)
theorem C_spec_DrawRankShows (w0 : World) (x0 : (List Int)) (v0_0 : Value) (h0_0 : rdS ty_5 (· < w0.heap.size) w0 v0_0 x0) (r : (List ((List (List (Int × Int))) × (List Int) × Int × Int))) (hF : F_spec_DrawRankShows x0 = some r) :
  Calls Try.prog 114 [v0_0].toArray w0 fun e w' => ∃ (q0 : Value) (G0 : List Nat), e = .returned q0 ∧ Below w0.heap.size w0 w' ∧ Sep w0.heap.size w' [R.fr ty_53 G0 q0 r] := by
 refine calls_mk' Try.func114 rfl Try.ntmps114 rfl rfl fun Q hQ hP => ?_
 have hB : Below w0.heap.size w0 w0 := Below.refl _ _
 have hS : Sep w0.heap.size w0 [] := Sep.nil _ _
 unfold F_spec_DrawRankShows at hF
 refine W.seq fun K1 hK1 => W.region (wl_assign rfl rfl (WL.nil (fun a ha => hK1 _ _ (W.seq fun K2 hK2 => (W.region (wl_move rfl rfl (wl_build (zs := [(.slice none 0 0), (.int .i64 0), (.int .u64 0)]) (out := [v0_0, (.int .i64 0), (.int .u64 0)]) (vs := [v0_0]) (css := [[v0_0]]) tf_131 pl_131 rfl rfl (by simp only [List.map_cons, List.map_nil, cells_one ((h0_0.ro hB).one)] <;> rfl) rfl rfl (wl_box (cs := [v0_0, (.int .i64 0), (.int .u64 0)]) rfl rfl rfl hB hS ?_))))) a ha)))
 intro b3 w4 hb5 hB6 hS7
 refine wl_assign rfl rfl (WL.nil (fun a ha => hK2 _ _ (W.seq fun K8 hK8 => (W.region (wl_move rfl rfl ?_))) a ha))
 obtain ⟨u9, hu9, hF⟩ := bindE hF
 refine wl_call rfl Try.call213 (C_spec_l1Cur__showsTwo__mut__box w4 (x0, 0, 0) b3 v0_0 (h0_0.oldo hB6 (hS7.sel [0] rfl)) (hS7.sel [0] rfl).base0 _ hu9) rfl ?_
 rintro _ w10 ⟨v15, F16, v17, F18, v19, F20, v21, F22, rfl, hE11, hM12⟩
 refine ⟨_, rfl, ?_⟩
 have hB13 := hS7.takeB [0] rfl (M := [R.blk b3 131 [v0_0, (.int .i64 0), (.int .u64 0)]]) rfl hB6 hE11 hM12
 have hS14 : Sep w0.heap.size w10 [R.blk b3 131 [v0_0, (.int .i64 u9.2.2.2.1), (.int .u64 u9.2.2.2.2)], R.own ty_63 F16 v15 u9.1.1, R.own ty_3 F18 v17 u9.1.2.1, R.own ty_63 F20 v19 u9.2.1.1, R.own ty_3 F22 v21 u9.2.1.2.1] := hS7.take [0] [] rfl (M := [R.blk b3 131 [v0_0, (.int .i64 0), (.int .u64 0)]]) rfl hM12 hB6.size
 refine wl_move rfl rfl (wl_extract rfl rfl rfl (wl_extract rfl rfl rfl (wl_alloc (cs := [(.slice none 0 0), (.slice none 0 0), (.int .i64 0), (.int .i64 0)]) tf_53 rfl rfl hB13 hS14 ?_)))
 intro b23 w24 hb25 hB26 hS27
 refine wl_alloc (cs := [(.slice none 0 0), (.slice none 0 0), (.int .i64 0), (.int .i64 0)]) tf_53 rfl rfl hB26 hS27 ?_
 intro b28 w29 hb30 hB31 hS32
 refine wl_store_blk (i := 1) (vs := [v15, v17, (.int .i64 u9.1.2.2.1), (.int .i64 u9.1.2.2.2)]) (cs' := [v15, v17, (.int .i64 u9.1.2.2.1), (.int .i64 u9.1.2.2.2)]) tf_53 rfl rfl rfl rfl hB31 hS32 rfl rfl ⟨(hS32.own_ro (i := 3) rfl).one, (hS32.own_ro (i := 4) rfl).one, rfl, rfl, trivial⟩ rfl ?_
 intro w33 hk36 hB34 hS35
 refine wl_store_blk (i := 0) (vs := [v19, v21, (.int .i64 u9.2.1.2.2.1), (.int .i64 u9.2.1.2.2.2)]) (cs' := [v19, v21, (.int .i64 u9.2.1.2.2.1), (.int .i64 u9.2.1.2.2.2)]) tf_53 rfl rfl rfl rfl hB34 hS35 rfl rfl ⟨(hS35.own_ro (i := 5) rfl).one, (hS35.own_ro (i := 6) rfl).one, rfl, rfl, trivial⟩ rfl ?_
 intro w37 hk40 hB38 hS39
 refine WL.nil fun a ha => hK8 _ _ (W.seq fun K41 hK41 => (W.region (wl_load_blk (i := 1) (vs := [v15, v17, (.int .i64 u9.1.2.2.1), (.int .i64 u9.1.2.2.2)]) (v := (.agg #[v15, v17, (.int .i64 u9.1.2.2.1), (.int .i64 u9.1.2.2.2)])) tf_53 rfl rfl hS39 rfl rfl rfl (wl_load_blk (i := 0) (vs := [v19, v21, (.int .i64 u9.2.1.2.2.1), (.int .i64 u9.2.1.2.2.2)]) (v := (.agg #[v19, v21, (.int .i64 u9.2.1.2.2.1), (.int .i64 u9.2.1.2.2.2)])) tf_53 rfl rfl hS39 rfl rfl rfl (wl_load_blk (i := 1) (vs := [v15, v17, (.int .i64 u9.1.2.2.1), (.int .i64 u9.1.2.2.2)]) (v := (.agg #[v15, v17, (.int .i64 u9.1.2.2.1), (.int .i64 u9.1.2.2.2)])) tf_53 rfl rfl hS39 rfl rfl rfl ?_))))) a ha
 have hq42 := hS39.sel [3, 4, 0, 1, 2, 5, 6] rfl
 have hq43 := hq42.merge (r := ⟨(F16 ++ F18), fun w => (ownS ty_63 F16 w v15 u9.1.1 ∧ ownS ty_3 F18 w v17 u9.1.2.1)⟩) rfl fun _ a b => ⟨a, b⟩
 have hq44 := hq43.head (r' := R.cel ty_53 (F16 ++ F18) [v15, v17, (.int .i64 u9.1.2.2.1), (.int .i64 u9.1.2.2.2)] u9.1) (by simp [R.cel, List.append_assoc]) fun _ hh => by obtain ⟨h0, h1⟩ := hh; exact ⟨[v15], [v17, (.int .i64 u9.1.2.2.1), (.int .i64 u9.1.2.2.2)], F16, F18, rfl, rfl, ⟨_, rfl, h0⟩, ⟨[v17], [(.int .i64 u9.1.2.2.1), (.int .i64 u9.1.2.2.2)], F18, [], rfl, (List.append_nil _).symm, ⟨_, rfl, h1⟩, ⟨[(.int .i64 u9.1.2.2.1)], [(.int .i64 u9.1.2.2.2)], [], [], rfl, rfl, ⟨rfl, rfl⟩, ⟨rfl, rfl⟩⟩⟩⟩
 have hq45 := hq44.sel [4, 5, 0, 1, 2, 3] rfl
 have hq46 := hq45.merge (r := ⟨(F20 ++ F22), fun w => (ownS ty_63 F20 w v19 u9.2.1.1 ∧ ownS ty_3 F22 w v21 u9.2.1.2.1)⟩) rfl fun _ a b => ⟨a, b⟩
 have hq47 := hq46.head (r' := R.cel ty_53 (F20 ++ F22) [v19, v21, (.int .i64 u9.2.1.2.2.1), (.int .i64 u9.2.1.2.2.2)] u9.2.1) (by simp [R.cel, List.append_assoc]) fun _ hh => by obtain ⟨h0, h1⟩ := hh; exact ⟨[v19], [v21, (.int .i64 u9.2.1.2.2.1), (.int .i64 u9.2.1.2.2.2)], F20, F22, rfl, rfl, ⟨_, rfl, h0⟩, ⟨[v21], [(.int .i64 u9.2.1.2.2.1), (.int .i64 u9.2.1.2.2.2)], F22, [], rfl, (List.append_nil _).symm, ⟨_, rfl, h1⟩, ⟨[(.int .i64 u9.2.1.2.2.1)], [(.int .i64 u9.2.1.2.2.2)], [], [], rfl, rfl, ⟨rfl, rfl⟩, ⟨rfl, rfl⟩⟩⟩⟩
 refine wl_lit3s (e := ty_53) (ca := [v15, v17, (.int .i64 u9.1.2.2.1), (.int .i64 u9.1.2.2.2)]) (cb := [v19, v21, (.int .i64 u9.2.1.2.2.1), (.int .i64 u9.2.1.2.2.2)]) Try.underlying121 rfl rfl rfl rfl rfl rfl rfl hB38 (hq47.sel [1, 0, 2, 3, 4] rfl) ?_
 intro v48 F49 w50 hb51 hB52 hS53
 refine wl_assign rfl rfl (WL.nil (fun a ha => hK41 _ _ (W.seq fun K54 hK54 => (W.region (wl_move rfl rfl ?_))) a ha))
 obtain ⟨u55, hu55, hF⟩ := bindE hF
 refine wl_call rfl Try.call132 (C_spec_l1Cur__pick__mut__box w50 (x0, u9.2.2.2.1, u9.2.2.2.2) b3 v0_0 (h0_0.oldo hB52 (hS53.sel [3] rfl)) 5 (hS53.sel [3] rfl).base0 _ hu55) rfl ?_
 rintro _ w56 ⟨rfl, hE57, hM58⟩
 refine ⟨_, rfl, ?_⟩
 have hB59 := hS53.takeB [3] rfl (M := [R.blk b3 131 [v0_0, (.int .i64 u9.2.2.2.1), (.int .u64 u9.2.2.2.2)]]) rfl hB52 hE57 hM58
 have hS60 : Sep w0.heap.size w56 [R.blk b3 131 [v0_0, (.int .i64 u55.2.2.1), (.int .u64 u55.2.2.2)], R.semi ty_53 F49 v48 [u9.1, u9.2.1, u9.1], R.blk b28 53 [v19, v21, (.int .i64 u9.2.1.2.2.1), (.int .i64 u9.2.1.2.2.2)], R.blk b23 53 [v15, v17, (.int .i64 u9.1.2.2.1), (.int .i64 u9.1.2.2.2)]] := hS53.take [3] [0, 1, 2] rfl (M := [R.blk b3 131 [v0_0, (.int .i64 u9.2.2.2.1), (.int .u64 u9.2.2.2.2)]]) rfl hM58 hB52.size
 refine wl_assign rfl rfl (WL.nil (fun a ha => hK54 _ _ (W.seq fun K61 hK61 => ?_) a ha))
 obtain ⟨k68, hk68, hF⟩ := jE3 hF
 have hJ69 : ∀ (y65 : Int) (y66 : Int) (y67 : Int) (w62 : World) (_ : k68 y65 y66 y67 = some r) (_ : Below w0.heap.size w0 w62) (_ : Sep w0.heap.size w62 [R.blk b3 131 [v0_0, (.int .i64 y65), (.int .u64 y66)], R.semi ty_53 F49 v48 [u9.1, u9.2.1, u9.1]]), ∀ a, St 37 [(3, (.pointer (some ⟨b3, 0, none⟩))), (6, v48), (7, (.int .i64 y67))] a → K61 a w62 := by
  intro y65 y66 y67 w62 hF hB63 hS64
  subst hk68
  refine fun a ha => hK61 _ _ (W.seq fun K70 hK70 => (W.block (W.loopk (fun m a w71 => ∃ (y74 : Int) (y75 : Int) (l76 : (List ((List (List (Int × Int))) × (List Int) × Int × Int))) (v77 : Value) (F78 : List Nat), St 37 [(3, (.pointer (some ⟨b3, 0, none⟩))), (6, v77), (7, (.int .i64 y67))] a ∧ Below w0.heap.size w0 w71 ∧ Sep w0.heap.size w71 [R.blk b3 131 [v0_0, (.int .i64 y74), (.int .u64 y75)], R.semi ty_53 F78 v77 l76] ∧ F_spec_DrawRankShows_L1 y67 x0 m y74 y75 l76 = some r) FU ?_ ?_))) a ha
  ·
   exact fun a ha => ⟨y65, y66, [u9.1, u9.2.1, u9.1], v48, F49, ha.sub ⟨rfl, rfl, rfl, trivial⟩, hB63, (hS64.sel [0, 1] rfl), hF⟩
  ·
   rintro m81 a w71 ⟨y74, y75, l76, v77, F78, ha, hB72, hS73, hF⟩ KL80 hKL80
   refine W.at ?_ ha
   cases m81 with
   | zero => exact noneE hF
   | succ m81 =>
    obtain ⟨nx79, hnx79⟩ : ∃ k, k = F_spec_DrawRankShows_L1 y67 x0 m81 := ⟨_, rfl⟩
    rw [F_spec_DrawRankShows_L1, ← hnx79] at hF
    refine W.seq fun K82 hK82 => W.seq fun K83 hK83 => W.region (wl_move rfl rfl (wl_lenr (e := ty_53) (l := l76) Try.underlying121 rfl rfl (hS73.semi_ro (i := 1) rfl) (wl_move rfl rfl (wl_lss rfl rfl rfl (WL.nil (fun a ha => hK83 _ _ (W.cond rfl (fun h84 => ?_) (fun h84 => ?_)) a ha))))))
    ·replace hF := ifP h84 hF
     refine W.skip fun a ha => hK82 _ _ (W.block (W.region (wl_move rfl rfl (wl_move rfl rfl ?_)))) a ha
     obtain ⟨u85, hu85, hF⟩ := bindE hF
     refine wl_call rfl Try.call149 (C_spec_l1Cur__show__mut__box w71 (x0, y74, y75) b3 v0_0 (h0_0.oldo hB72 (hS73.sel [0] rfl)) (hS73.sel [0] rfl).base0 _ hu85) rfl ?_
     rintro _ w86 ⟨v91, F92, v93, F94, rfl, hE87, hM88⟩
     refine ⟨_, rfl, ?_⟩
     have hB89 := hS73.takeB [0] rfl (M := [R.blk b3 131 [v0_0, (.int .i64 y74), (.int .u64 y75)]]) rfl hB72 hE87 hM88
     have hS90 : Sep w0.heap.size w86 [R.blk b3 131 [v0_0, (.int .i64 u85.2.2.1), (.int .u64 u85.2.2.2)], R.own ty_63 F92 v91 u85.1.1, R.own ty_3 F94 v93 u85.1.2.1, R.semi ty_53 F78 v77 l76] := hS73.take [0] [1] rfl (M := [R.blk b3 131 [v0_0, (.int .i64 y74), (.int .u64 y75)]]) rfl hM88 hB72.size
     have hq95 := hS90.sel [1, 2, 0, 3] rfl
     have hq96 := hq95.merge (r := ⟨(F92 ++ F94), fun w => (ownS ty_63 F92 w v91 u85.1.1 ∧ ownS ty_3 F94 w v93 u85.1.2.1)⟩) rfl fun _ a b => ⟨a, b⟩
     have hq97 := hq96.head (r' := R.cel ty_53 (F92 ++ F94) [v91, v93, (.int .i64 u85.1.2.2.1), (.int .i64 u85.1.2.2.2)] u85.1) (by simp [R.cel, List.append_assoc]) fun _ hh => by obtain ⟨h0, h1⟩ := hh; exact ⟨[v91], [v93, (.int .i64 u85.1.2.2.1), (.int .i64 u85.1.2.2.2)], F92, F94, rfl, rfl, ⟨_, rfl, h0⟩, ⟨[v93], [(.int .i64 u85.1.2.2.1), (.int .i64 u85.1.2.2.2)], F94, [], rfl, (List.append_nil _).symm, ⟨_, rfl, h1⟩, ⟨[(.int .i64 u85.1.2.2.1)], [(.int .i64 u85.1.2.2.2)], [], [], rfl, rfl, ⟨rfl, rfl⟩, ⟨rfl, rfl⟩⟩⟩⟩
     refine wl_lit1 (e := ty_53) (vs := [v91, v93, (.int .i64 u85.1.2.2.1), (.int .i64 u85.1.2.2.2)]) Try.underlying121 rfl rfl rfl rfl hB89 hq97 ?_
     intro v98 F99 w100 hb101 hf102 hB103 hS104
     obtain ⟨u105, hu105, hF⟩ := bindE hF
     refine wl_appends (e := ty_53) Try.underlying121 rfl rfl rfl hB103 (hS104.sel [2, 0, 1] rfl) hu105 ?_
     intro v106 F107 w108 hk109 hB110 hS111
     refine wl_assign rfl rfl (WL.nil ?_)
     rw [hnx79] at hF
     exact fun a ha => hKL80 a _ m81 (Nat.lt_succ_self m81) ⟨u85.2.2.1, u85.2.2.2, u105, v106, F107, ha.sub ⟨rfl, rfl, rfl, trivial⟩, hB110, (hS111.sel [1, 0] rfl), hF⟩
    ·replace hF := ifN h84 hF
     refine W.exit fun a ha => hK70 _ _ (W.seq fun K112 hK112 => (W.region (wl_move rfl rfl (wl_assign rfl rfl (WL.nil (fun a ha => hK112 _ _ (W.ret ?_) a ha)))))) a ha
     have hS113 := (hS73.sel [1, 0] rfl).head (r' := R.fr ty_53 F78 v77 l76) rfl fun _ h => semiS.rd h
     have hr := Option.some.inj hF
     subst hr
     exact rets (vs := [v77]) hQ rfl ⟨rv_tmp rfl, trivial⟩ ⟨v77, F78, rfl, hB72, hS113.sel [0] rfl⟩
 refine W.seq fun K114 hK114 => W.region (wl_move rfl rfl ?_)
 obtain ⟨u115, hu115, hF⟩ := bindE hF
 refine wl_call rfl Try.call130 (C_spec_l1Cur__one__mut__box w56 (x0, u55.2.2.1, u55.2.2.2) b3 v0_0 (h0_0.oldo hB59 (hS60.sel [0] rfl)) 20 (hS60.sel [0] rfl).base0 _ hu115) rfl ?_
 rintro _ w116 ⟨rfl, hE117, hM118⟩
 refine ⟨_, rfl, ?_⟩
 have hB119 := hS60.takeB [0] rfl (M := [R.blk b3 131 [v0_0, (.int .i64 u55.2.2.1), (.int .u64 u55.2.2.2)]]) rfl hB59 hE117 hM118
 have hS120 : Sep w0.heap.size w116 [R.blk b3 131 [v0_0, (.int .i64 u115.2.2.1), (.int .u64 u115.2.2.2)], R.semi ty_53 F49 v48 [u9.1, u9.2.1, u9.1], R.blk b28 53 [v19, v21, (.int .i64 u9.2.1.2.2.1), (.int .i64 u9.2.1.2.2.2)], R.blk b23 53 [v15, v17, (.int .i64 u9.1.2.2.1), (.int .i64 u9.1.2.2.2)]] := hS60.take [0] [1, 2, 3] rfl (M := [R.blk b3 131 [v0_0, (.int .i64 u55.2.2.1), (.int .u64 u55.2.2.2)]]) rfl hM118 hB59.size
 refine WL.nil fun a ha => hK114 _ _ (W.cond rfl (fun h121 => ?_) (fun h121 => ?_)) a ha
 ·replace hF := ifP h121 hF
  refine W.region (wl_move rfl rfl ?_)
  obtain ⟨u122, hu122, hF⟩ := bindE hF
  refine wl_call rfl Try.call132 (C_spec_l1Cur__pick__mut__box w116 (x0, u115.2.2.1, u115.2.2.2) b3 v0_0 (h0_0.oldo hB119 (hS120.sel [0] rfl)) 2 (hS120.sel [0] rfl).base0 _ hu122) rfl ?_
  rintro _ w123 ⟨rfl, hE124, hM125⟩
  refine ⟨_, rfl, ?_⟩
  have hB126 := hS120.takeB [0] rfl (M := [R.blk b3 131 [v0_0, (.int .i64 u115.2.2.1), (.int .u64 u115.2.2.2)]]) rfl hB119 hE124 hM125
  have hS127 : Sep w0.heap.size w123 [R.blk b3 131 [v0_0, (.int .i64 u122.2.2.1), (.int .u64 u122.2.2.2)], R.semi ty_53 F49 v48 [u9.1, u9.2.1, u9.1], R.blk b28 53 [v19, v21, (.int .i64 u9.2.1.2.2.1), (.int .i64 u9.2.1.2.2.2)], R.blk b23 53 [v15, v17, (.int .i64 u9.1.2.2.1), (.int .i64 u9.1.2.2.2)]] := hS120.take [0] [1, 2, 3] rfl (M := [R.blk b3 131 [v0_0, (.int .i64 u115.2.2.1), (.int .u64 u115.2.2.2)]]) rfl hM125 hB119.size
  refine wl_add rfl rfl rfl (wl_assign rfl rfl (WL.nil ?_))
  exact fun a ha => hJ69 (u122.2.2.1) (u122.2.2.2) ((w64 (8 + u122.1))) _ hF hB126 (hS127.sel [0, 1] rfl) a (ha.sub ⟨rfl, rfl, rfl, trivial⟩)
 ·replace hF := ifN h121 hF
  refine W.skip ?_
  exact fun a ha => hJ69 (u115.2.2.1) (u115.2.2.2) (u55.1) _ hF hB119 (hS120.sel [0, 1] rfl) a (ha.sub ⟨rfl, rfl, rfl, trivial⟩)
theorem C_impl_RankShows_1 (w0 : World) (x0 : Int) (x1 : Int) (y2 : (List ((List (List (Int × Int))) × (List Int) × Int × Int))) (p2 : Addr) (v2_0 : Value) (h2_0 : rdS ty_53 (· < w0.heap.size) w0 v2_0 y2) (hp2 : EAt (· < w0.heap.size) w0 p2 [v2_0]) (r : Int) (hF : F_impl_RankShows_1 x0 x1 y2 = some r) :
  Calls Try.prog 215 [(.int .i64 x0), (.int .i64 x1), (.pointer (some p2))].toArray w0 fun e w' => e = .returned (.int .i64 r) ∧ Below w0.heap.size w0 w' := by
 refine calls_mk' Try.func215 rfl Try.ntmps215 rfl rfl fun Q hQ hP => ?_
 have hB : Below w0.heap.size w0 w0 := Below.refl _ _
 have hS : Sep w0.heap.size w0 [] := Sep.nil _ _
 unfold F_impl_RankShows_1 at hF
 refine W.seq fun K1 hK1 => W.region (wl_assign rfl rfl (WL.nil (fun a ha => hK1 _ _ (W.seq fun K2 hK2 => (W.regionH mixed_ [] hB hS ?_)) a ha)))
 intro w3 hb4 hB5 hS6
 have hSW7 := KeepX.refl w3 []
 refine WH.tk 0 rfl hP hSW7 (pr_load_p (vs := [v2_0]) (v := v2_0) tf_121 rfl rfl (hp2.kx hB5 (by simp)) rfl rfl (WH.tk 1 rfl hP hSW7 (pr_move rfl rfl ?_)))
 obtain ⟨u8, hu8, hF⟩ := bindE hF
 refine WH.tk 2 rfl hP hSW7 (pr_index (e := ty_53) Try.underlying121 rfl rfl rfl h2_0 hu8 ?_)
 rintro p9 _ ⟨_, _, rfl, ⟨v11, rfl, hv12⟩, ⟨_, _, rfl, ⟨v13, rfl, hv14⟩, ⟨_, _, rfl, rfl, rfl⟩⟩⟩ hp10
 refine WH.tk 3 rfl hP hSW7 (pr_load_p (vs := [v11, v13, (.int .i64 u8.2.2.1), (.int .i64 u8.2.2.2)]) (v := (.agg #[v11, v13, (.int .i64 u8.2.2.1), (.int .i64 u8.2.2.2)])) tf_53 rfl rfl (hp10.kx hB5 (by simp)) rfl rfl (WH.tk 4 rfl hP hSW7 (pr_load_p (vs := [v2_0]) (v := v2_0) tf_121 rfl rfl (hp2.kx hB5 (by simp)) rfl rfl (WH.tk 5 rfl hP hSW7 (pr_move rfl rfl ?_)))))
 obtain ⟨u15, hu15, hF⟩ := bindE hF
 refine WH.tk 6 rfl hP hSW7 (pr_index (e := ty_53) Try.underlying121 rfl rfl rfl h2_0 hu15 ?_)
 rintro p16 _ ⟨_, _, rfl, ⟨v18, rfl, hv19⟩, ⟨_, _, rfl, ⟨v20, rfl, hv21⟩, ⟨_, _, rfl, rfl, rfl⟩⟩⟩ hp17
 refine WH.tk 7 rfl hP hSW7 (pr_load_p (vs := [v18, v20, (.int .i64 u15.2.2.1), (.int .i64 u15.2.2.2)]) (v := (.agg #[v18, v20, (.int .i64 u15.2.2.1), (.int .i64 u15.2.2.2)])) tf_53 rfl rfl (hp17.kx hB5 (by simp)) rfl rfl (WH.on1 8 rfl ?_))
 obtain ⟨u22, hu22, hF⟩ := bindE hF
 refine wl_call rfl Try.call211 (C_impl_compareDemand w3 u8 v11 (hv12.ro hB5) v13 (hv14.ro hB5) u15 v18 (hv19.ro hB5) v20 (hv21.ro hB5) _ hu22) rfl ?_
 rintro _ w23 ⟨rfl, hb24⟩
 refine ⟨_, rfl, ?_⟩
 have hB25 := hB5.trans (hb24.mono hB5.size)
 have hSW28 := hSW7.ext hb24
 refine WL.nil (WH.ret hSW28 (WH.tk 9 rfl hP hSW28 (pr_assign rfl rfl (WH.done (by kernel_rfl) (fun a ha => hK2 _ _ (W.ret ?_) a ha)))))
 have hr := Option.some.inj hF
 subst hr
 exact rets (vs := [(.int .i64 u22)]) hQ rfl ⟨rv_tmp rfl, trivial⟩ ⟨rfl, hB25⟩
theorem C_slices_insertionSortCmpFunc_int__impl_RankShows_1__mut (w0 : World) (x0 : (List Int)) (v0_0 : Value) (B0_0 : List Nat) (x1 : Int) (x2 : Int) (y3_0 : (List ((List (List (Int × Int))) × (List Int) × Int × Int))) (p3_0 : Addr) (v3_0_0 : Value) (h3_0_0 : rdS ty_53 (Out (fps [R.own ty_3 B0_0 v0_0 x0]) w0) w0 v3_0_0 y3_0) (hp3_0 : EAt (Out (fps [R.own ty_3 B0_0 v0_0 x0]) w0) w0 p3_0 [v3_0_0]) (hS0 : Sep 0 w0 [R.own ty_3 B0_0 v0_0 x0]) (r : (List Int)) (hF : F_slices_insertionSortCmpFunc_int__impl_RankShows_1__mut x0 x1 x2 y3_0 = some r) :
  Calls Try.prog 273 [v0_0, (.int .i64 x1), (.int .i64 x2), (.func (.func 215) #[] #[(.pointer (some p3_0))])].toArray w0 fun e w' => e = .returned (.tuple #[]) ∧ Below 0 (wE w0) w' ∧ Sep 0 w' [R.rest w0 (fps [R.own ty_3 B0_0 v0_0 x0]), R.own ty_3 B0_0 v0_0 r] := by
 refine calls_mkn' Try.func273 rfl Try.ntmps273 rfl rfl fun Q hQn hQ hP => ?_
 have hB : Below (wE w0).heap.size (wE w0) w0 := wE_below w0
 have hS : Sep (wE w0).heap.size w0 [R.rest w0 (fps [R.own ty_3 B0_0 v0_0 x0]), R.own ty_3 B0_0 v0_0 x0] := hS0.rest
 unfold F_slices_insertionSortCmpFunc_int__impl_RankShows_1__mut at hF
 refine W.seq fun K1 hK1 => W.region (wl_move rfl rfl (wl_add rfl rfl rfl (wl_assign rfl rfl (WL.nil (fun a ha => hK1 _ _ (W.block (W.loopk (fun m a w2 => ∃ (l5 : (List Int)) (y6 : Int), St 53 [(0, v0_0), (1, (.int .i64 x1)), (2, (.int .i64 x2)), (3, (.func (.func 215) #[] #[(.pointer (some p3_0))])), (8, (.int .i64 y6))] a ∧ Below (wE w0).heap.size (wE w0) w2 ∧ Sep (wE w0).heap.size w2 [R.rest w0 (fps [R.own ty_3 B0_0 v0_0 x0]), R.own ty_3 B0_0 v0_0 l5] ∧ F_slices_insertionSortCmpFunc_int__impl_RankShows_1__mut_L1 x2 x1 y3_0 m l5 y6 = some r) FU ?_ ?_)) a ha)))))
 ·
  exact fun a ha => ⟨x0, (w64 (x1 + 1)), ha.sub ⟨rfl, rfl, rfl, rfl, rfl, trivial⟩, hB, (hS.sel [0, 1] rfl), hF⟩
 ·
  rintro m9 a w2 ⟨l5, y6, ha, hB3, hS4, hF⟩ KL8 hKL8
  refine W.at ?_ ha
  cases m9 with
  | zero => exact noneE hF
  | succ m9 =>
   obtain ⟨nx7, hnx7⟩ : ∃ k, k = F_slices_insertionSortCmpFunc_int__impl_RankShows_1__mut_L1 x2 x1 y3_0 m9 := ⟨_, rfl⟩
   rw [F_slices_insertionSortCmpFunc_int__impl_RankShows_1__mut_L1, ← hnx7] at hF
   refine W.seq fun K10 hK10 => W.seq fun K11 hK11 => W.region (wl_move rfl rfl (wl_move rfl rfl (wl_lss rfl rfl rfl (WL.nil (fun a ha => hK11 _ _ (W.cond rfl (fun h12 => ?_) (fun h12 => ?_)) a ha)))))
   ·replace hF := ifP h12 hF
    refine W.skip fun a ha => hK10 _ _ (W.seq fun K13 hK13 => (W.block (W.seq fun K14 hK14 => (W.region (wl_move rfl rfl (wl_assign rfl rfl (WL.nil (fun a ha => hK14 _ _ (W.block (W.loopk (fun m a w15 => ∃ (l18 : (List Int)) (y19 : Int), St 53 [(0, v0_0), (1, (.int .i64 x1)), (2, (.int .i64 x2)), (3, (.func (.func 215) #[] #[(.pointer (some p3_0))])), (8, (.int .i64 y6)), (9, (.int .i64 y19))] a ∧ Below (wE w0).heap.size (wE w0) w15 ∧ Sep (wE w0).heap.size w15 [R.rest w0 (fps [R.own ty_3 B0_0 v0_0 x0]), R.own ty_3 B0_0 v0_0 l18] ∧ F_slices_insertionSortCmpFunc_int__impl_RankShows_1__mut_L2 nx7 y6 x1 y3_0 m l18 y19 = some r) FU ?_ ?_)) a ha)))))))) a ha
    ·
     exact fun a ha => ⟨l5, y6, ha.sub ⟨rfl, rfl, rfl, rfl, rfl, rfl, trivial⟩, hB3, (hS4.sel [0, 1] rfl), hF⟩
    ·
     rintro m22 a w15 ⟨l18, y19, ha, hB16, hS17, hF⟩ KL21 hKL21
     refine W.at ?_ ha
     cases m22 with
     | zero => exact noneE hF
     | succ m22 =>
      obtain ⟨nx20, hnx20⟩ : ∃ k, k = F_slices_insertionSortCmpFunc_int__impl_RankShows_1__mut_L2 nx7 y6 x1 y3_0 m22 := ⟨_, rfl⟩
      rw [F_slices_insertionSortCmpFunc_int__impl_RankShows_1__mut_L2, ← hnx20] at hF
      refine W.seq fun K23 hK23 => W.seq fun K24 hK24 => ?_
      obtain ⟨k29, hk29, hF⟩ := jE1 hF
      have hJ30 : ∀ (y28 : Bool) (w25 : World) (_ : k29 y28 = some r) (_ : Below (wE w0).heap.size (wE w0) w25) (_ : Sep (wE w0).heap.size w25 [R.rest w0 (fps [R.own ty_3 B0_0 v0_0 x0]), R.own ty_3 B0_0 v0_0 l18]), ∀ a, St 53 [(0, v0_0), (1, (.int .i64 x1)), (2, (.int .i64 x2)), (3, (.func (.func 215) #[] #[(.pointer (some p3_0))])), (8, (.int .i64 y6)), (9, (.int .i64 y19)), (34, (.bool y28))] a → K24 a w25 := by
       intro y28 w25 hF hB26 hS27
       subst hk29
       refine fun a ha => hK24 _ _ (W.cond rfl (fun h31 => ?_) (fun h31 => ?_)) a ha
       ·replace hF := ifP h31 hF
        refine W.skip fun a ha => hK23 _ _ (W.seq fun K32 hK32 => ?_) a ha
        obtain ⟨k37, hk37, hF⟩ := jE1 hF
        have hJ38 : ∀ (l36 : (List Int)) (w33 : World) (_ : k37 l36 = some r) (_ : Below (wE w0).heap.size (wE w0) w33) (_ : Sep (wE w0).heap.size w33 [R.rest w0 (fps [R.own ty_3 B0_0 v0_0 x0]), R.own ty_3 B0_0 v0_0 l36]), ∀ a, St 53 [(0, v0_0), (1, (.int .i64 x1)), (2, (.int .i64 x2)), (3, (.func (.func 215) #[] #[(.pointer (some p3_0))])), (8, (.int .i64 y6)), (9, (.int .i64 y19))] a → K32 a w33 := by
         intro l36 w33 hF hB34 hS35
         subst hk37
         refine fun a ha => hK32 _ _ (W.region (wl_move rfl rfl (wl_sub rfl rfl rfl (wl_assign rfl rfl (WL.nil ?_))))) a ha
         rw [hnx20] at hF
         exact fun a ha => hKL21 a _ m22 (Nat.lt_succ_self m22) ⟨l36, (w64 (y19 - 1)), ha.sub ⟨rfl, rfl, rfl, rfl, rfl, rfl, trivial⟩, hB34, (hS35.sel [0, 1] rfl), hF⟩
        refine W.block (W.regionH mixed_ B0_0 hB26 hS27 ?_)
        intro w39 hb40 hB41 hS42
        have hSW43 := KeepX.refl w39 B0_0
        refine WH.tk 0 rfl hP hSW43 (pr_move rfl rfl (WH.tk 1 rfl hP hSW43 (pr_move rfl rfl (WH.tk 2 rfl hP hSW43 (pr_move rfl rfl (WH.tk 3 rfl hP hSW43 (pr_move rfl rfl (WH.tk 4 rfl hP hSW43 (pr_sub rfl rfl rfl (WH.tk 5 rfl hP hSW43 (pr_move rfl rfl (WH.tk 6 rfl hP hSW43 (pr_move rfl rfl ?_)))))))))))))
        refine WH.tk 7 rfl hP hSW43 (pr_sub rfl rfl rfl ?_)
        obtain ⟨u44, hu44, hF⟩ := bindE hF
        refine WH.tk 8 rfl hP hSW43 (pr_indexo (e := ty_3) (i := 1) Try.underlying29 rfl rfl rfl hS42 rfl hu44 ?_)
        rintro p45 _ rfl hp46 ho47
        refine WH.tk 10 rfl hP hSW43 (pr_move rfl rfl (WH.tk 11 rfl hP hSW43 (pr_move rfl rfl ?_)))
        obtain ⟨u48, hu48, hF⟩ := bindE hF
        refine WH.tk 12 rfl hP hSW43 (pr_indexo (e := ty_3) (i := 1) Try.underlying29 rfl rfl rfl hS42 rfl hu48 ?_)
        rintro p49 _ rfl hp50 ho51
        refine WH.many (is := [9, 13]) (by kernel_rfl) rfl (List.forall_mem_cons.2 ⟨⟨_, rfl, ?_⟩, List.forall_mem_cons.2 ⟨⟨_, rfl, ?_⟩, fun _ h => by cases h⟩⟩)
        ·
         refine wl_load_p (vs := [(.int .i64 u44)]) (v := (.int .i64 u44)) tf_3 rfl rfl hp46 rfl rfl (WL.nil (WH.ret hSW43 (WH.on1 13 rfl (wl_load_p (vs := [(.int .i64 u48)]) (v := (.int .i64 u48)) tf_3 rfl rfl hp50 rfl rfl (WL.nil (WH.ret hSW43 ?_))))))
         obtain ⟨u52, hu52, hF⟩ := bindE hF
         refine WH.tk 14 rfl hP hSW43 (pr_indexo (e := ty_3) (i := 1) Try.underlying29 rfl rfl rfl hS42 rfl hu52 ?_)
         rintro p53 _ rfl hp54 ho55
         refine WH.on1 15 rfl (wl_storeo (i := 1) (o := 0) (vs := [(.int .i64 u44)]) (u' := u44) fl_3 tf_3 rfl rfl rfl rfl ho55 hu52 hB41 hS42 rfl rfl ⟨rfl, trivial⟩ rfl ?_)
         intro w56 hk59 hB57 hS58
         have hSW60 := hSW43.wr' hk59.1 hk59.2.1 (fun _ _ h => h)
         have hbs61 : ∀ b, b < w39.heap.size → b ∈ B0_0 → b ∈ B0_0 := fun b hlt hb => (hk59.2.2 b hb).elim ((fun _ _ h => h) b hlt) (fun h => absurd hlt (Nat.not_lt.2 (Nat.le_trans hSW43.size h)))
         refine WL.nil (WH.ret hSW60 (WH.on1 16 rfl ?_))
         obtain ⟨u62, hu62, hF⟩ := bindE hF
         refine wl_indexo (e := ty_3) (i := 1) Try.underlying29 rfl rfl rfl hS58 rfl hu62 ?_
         rintro p63 _ rfl hp64 ho65
         refine WL.nil (WH.ret hSW60 (WH.on1 17 rfl (wl_storeo (i := 1) (o := 0) (vs := [(.int .i64 u48)]) (u' := u48) fl_3 tf_3 rfl rfl rfl rfl ho65 hu62 hB57 hS58 rfl rfl ⟨rfl, trivial⟩ rfl ?_)))
         intro w66 hk69 hB67 hS68
         have hSW70 := hSW60.wr' hk69.1 hk69.2.1 (hbs61)
         refine WL.nil (WH.ret hSW70 (WH.done (by kernel_rfl) ?_))
         exact fun a ha => hJ38 ((seti (seti l18 y19 u44) (w64 (y19 - 1)) u48)) _ hF hB67 (hS68.sel [0, 1] rfl) a (ha.sub ⟨rfl, rfl, rfl, rfl, rfl, rfl, trivial⟩)
        ·
         refine wl_load_p (vs := [(.int .i64 u48)]) (v := (.int .i64 u48)) tf_3 rfl rfl hp50 rfl rfl (WL.nil (WH.ret hSW43 (WH.on1 9 rfl (wl_load_p (vs := [(.int .i64 u44)]) (v := (.int .i64 u44)) tf_3 rfl rfl hp46 rfl rfl (WL.nil (WH.ret hSW43 ?_))))))
         obtain ⟨u72, hu72, hF⟩ := bindE hF
         refine WH.tk 14 rfl hP hSW43 (pr_indexo (e := ty_3) (i := 1) Try.underlying29 rfl rfl rfl hS42 rfl hu72 ?_)
         rintro p73 _ rfl hp74 ho75
         refine WH.on1 15 rfl (wl_storeo (i := 1) (o := 0) (vs := [(.int .i64 u44)]) (u' := u44) fl_3 tf_3 rfl rfl rfl rfl ho75 hu72 hB41 hS42 rfl rfl ⟨rfl, trivial⟩ rfl ?_)
         intro w76 hk79 hB77 hS78
         have hSW80 := hSW43.wr' hk79.1 hk79.2.1 (fun _ _ h => h)
         have hbs81 : ∀ b, b < w39.heap.size → b ∈ B0_0 → b ∈ B0_0 := fun b hlt hb => (hk79.2.2 b hb).elim ((fun _ _ h => h) b hlt) (fun h => absurd hlt (Nat.not_lt.2 (Nat.le_trans hSW43.size h)))
         refine WL.nil (WH.ret hSW80 (WH.on1 16 rfl ?_))
         obtain ⟨u82, hu82, hF⟩ := bindE hF
         refine wl_indexo (e := ty_3) (i := 1) Try.underlying29 rfl rfl rfl hS78 rfl hu82 ?_
         rintro p83 _ rfl hp84 ho85
         refine WL.nil (WH.ret hSW80 (WH.on1 17 rfl (wl_storeo (i := 1) (o := 0) (vs := [(.int .i64 u48)]) (u' := u48) fl_3 tf_3 rfl rfl rfl rfl ho85 hu82 hB77 hS78 rfl rfl ⟨rfl, trivial⟩ rfl ?_)))
         intro w86 hk89 hB87 hS88
         have hSW90 := hSW80.wr' hk89.1 hk89.2.1 (hbs81)
         refine WL.nil (WH.ret hSW90 (WH.done (by kernel_rfl) ?_))
         exact fun a ha => hJ38 ((seti (seti l18 y19 u44) (w64 (y19 - 1)) u48)) _ hF hB87 (hS88.sel [0, 1] rfl) a (ha.sub ⟨rfl, rfl, rfl, rfl, rfl, rfl, trivial⟩)
       ·replace hF := ifN h31 hF
        refine W.exit fun a ha => hK13 _ _ (W.region (wl_move rfl rfl (wl_add rfl rfl rfl (wl_assign rfl rfl (WL.nil ?_))))) a ha
        rw [hnx7] at hF
        exact fun a ha => hKL8 a _ m9 (Nat.lt_succ_self m9) ⟨l18, (w64 (y6 + 1)), ha.sub ⟨rfl, rfl, rfl, rfl, rfl, trivial⟩, hB26, (hS27.sel [0, 1] rfl), hF⟩
      refine W.regionH mixed_ [] hB16 hS17 ?_
      intro w92 hb93 hB94 hS95
      have hSW96 := KeepX.refl w92 []
      refine WH.tk 0 rfl hP hSW96 (pr_move rfl rfl (WH.tk 1 rfl hP hSW96 (pr_move rfl rfl (WH.tk 2 rfl hP hSW96 (pr_gtr rfl rfl rfl (WH.tk 3 rfl hP hSW96 (pr_move rfl rfl ?_)))))))
      rcases bE (decide (x1 < y19)) with h97 | h97
      ·replace hF := ifP h97 hF
       refine WH.takexg (i := 4) rfl (by kernel_rfl) (by kernel_rfl) (by kernel_rfl) hP rfl rfl h97 hSW96 (pr_move rfl rfl (WH.takexg (i := 5) rfl (by kernel_rfl) (by kernel_rfl) (by kernel_rfl) hP rfl rfl h97 hSW96 (pr_move rfl rfl (WH.takexg (i := 6) rfl (by kernel_rfl) (by kernel_rfl) (by kernel_rfl) hP rfl rfl h97 hSW96 (pr_move rfl rfl ?_)))))
       obtain ⟨u98, hu98, hF⟩ := bindE hF
       refine WH.takexg (i := 7) rfl (by kernel_rfl) (by kernel_rfl) (by kernel_rfl) hP rfl rfl h97 hSW96 (pr_indexo (e := ty_3) (i := 1) Try.underlying29 rfl rfl rfl hS95 rfl hu98 ?_)
       rintro p99 _ rfl hp100 ho101
       refine WH.takexg (i := 8) rfl (by kernel_rfl) (by kernel_rfl) (by kernel_rfl) hP rfl rfl h97 hSW96 (pr_load_p (vs := [(.int .i64 u98)]) (v := (.int .i64 u98)) tf_3 rfl rfl (hp100.kx0) rfl rfl (WH.takexg (i := 9) rfl (by kernel_rfl) (by kernel_rfl) (by kernel_rfl) hP rfl rfl h97 hSW96 (pr_move rfl rfl (WH.takexg (i := 10) rfl (by kernel_rfl) (by kernel_rfl) (by kernel_rfl) hP rfl rfl h97 hSW96 (pr_move rfl rfl (WH.takexg (i := 11) rfl (by kernel_rfl) (by kernel_rfl) (by kernel_rfl) hP rfl rfl h97 hSW96 (pr_sub rfl rfl rfl ?_)))))))
       obtain ⟨u102, hu102, hF⟩ := bindE hF
       refine WH.takexg (i := 12) rfl (by kernel_rfl) (by kernel_rfl) (by kernel_rfl) hP rfl rfl h97 hSW96 (pr_indexo (e := ty_3) (i := 1) Try.underlying29 rfl rfl rfl hS95 rfl hu102 ?_)
       rintro p103 _ rfl hp104 ho105
       refine WH.takexg (i := 13) rfl (by kernel_rfl) (by kernel_rfl) (by kernel_rfl) hP rfl rfl h97 hSW96 (pr_load_p (vs := [(.int .i64 u102)]) (v := (.int .i64 u102)) tf_3 rfl rfl (hp104.kx0) rfl rfl (WH.on1 14 rfl (wl_on rfl rfl h97 ?_)))
       obtain ⟨u106, hu106, hF⟩ := bindE hF
       refine wl_callv (caps := [(.pointer (some p3_0))]) (vs := [(.int .i64 u98), (.int .i64 u102)]) rfl rfl Try.call215 (C_impl_RankShows_1 w92 u98 u102 y3_0 p3_0 v3_0_0 (h3_0_0.rst (i := 0) hS95 rfl) (hp3_0.rst (i := 0) hS95 rfl) _ hu106) rfl ?_
       rintro _ w107 ⟨rfl, hb108⟩
       refine ⟨_, rfl, ?_⟩
       have hB109 := hB94.trans (hb108.mono hB94.size)
       have hS110 := hS95.below hb108
       have hSW112 := hSW96.ext hb108
       refine WL.nil (WH.ret hSW112 (WH.takexg (i := 15) rfl (by kernel_rfl) (by kernel_rfl) (by kernel_rfl) hP rfl rfl h97 hSW112 (pr_lss rfl rfl rfl (WH.tk 16 rfl hP hSW112 (pr_pick_t rfl rfl h97 rfl (WH.done (by kernel_rfl) ?_))))))
       exact fun a ha => hJ30 ((decide (u106 < 0))) _ hF hB109 (hS110.sel [0, 1] rfl) a (ha.sub ⟨rfl, rfl, rfl, rfl, rfl, rfl, rfl, trivial⟩)
      ·replace hF := ifN h97 hF
       refine WH.off (i := 4) rfl (by kernel_rfl) (by kernel_rfl) (by kernel_rfl) hP rfl rfl h97 rfl hSW96 (WH.off (i := 5) rfl (by kernel_rfl) (by kernel_rfl) (by kernel_rfl) hP rfl rfl h97 rfl hSW96 (WH.off (i := 6) rfl (by kernel_rfl) (by kernel_rfl) (by kernel_rfl) hP rfl rfl h97 rfl hSW96 (WH.off (i := 7) rfl (by kernel_rfl) (by kernel_rfl) (by kernel_rfl) hP rfl rfl h97 rfl hSW96 (WH.off (i := 8) rfl (by kernel_rfl) (by kernel_rfl) (by kernel_rfl) hP rfl rfl h97 rfl hSW96 (WH.off (i := 9) rfl (by kernel_rfl) (by kernel_rfl) (by kernel_rfl) hP rfl rfl h97 rfl hSW96 (WH.off (i := 10) rfl (by kernel_rfl) (by kernel_rfl) (by kernel_rfl) hP rfl rfl h97 rfl hSW96 (WH.off (i := 11) rfl (by kernel_rfl) (by kernel_rfl) (by kernel_rfl) hP rfl rfl h97 rfl hSW96 (WH.off (i := 12) rfl (by kernel_rfl) (by kernel_rfl) (by kernel_rfl) hP rfl rfl h97 rfl hSW96 ?_))))))))
       refine WH.off (i := 13) rfl (by kernel_rfl) (by kernel_rfl) (by kernel_rfl) hP rfl rfl h97 rfl hSW96 (WH.off (i := 14) rfl (by kernel_rfl) (by kernel_rfl) (by kernel_rfl) hP rfl rfl h97 rfl hSW96 (WH.off (i := 15) rfl (by kernel_rfl) (by kernel_rfl) (by kernel_rfl) hP rfl rfl h97 rfl hSW96 (WH.tk 16 rfl hP hSW96 (pr_pick_f rfl rfl h97 rfl (WH.done (by kernel_rfl) ?_)))))
       exact fun a ha => hJ30 (false) _ hF hB94 (hS95.sel [0, 1] rfl) a (ha.sub ⟨rfl, rfl, rfl, rfl, rfl, rfl, rfl, trivial⟩)
   ·replace hF := ifN h12 hF
    refine W.exit ?_
    have hr := Option.some.inj hF
    subst hr
    exact retsn (vs := []) hQn rfl trivial ⟨rfl, hB3, hS4.sel [0, 1] rfl⟩
theorem C_slices_stableCmpFunc_int__impl_RankShows_1__mut (w0 : World) (x0 : (List Int)) (v0_0 : Value) (B0_0 : List Nat) (x1 : Int) (y2_0 : (List ((List (List (Int × Int))) × (List Int) × Int × Int))) (p2_0 : Addr) (v2_0_0 : Value) (h2_0_0 : rdS ty_53 (Out (fps [R.own ty_3 B0_0 v0_0 x0]) w0) w0 v2_0_0 y2_0) (hp2_0 : EAt (Out (fps [R.own ty_3 B0_0 v0_0 x0]) w0) w0 p2_0 [v2_0_0]) (hS0 : Sep 0 w0 [R.own ty_3 B0_0 v0_0 x0]) (r : (List Int)) (hF : F_slices_stableCmpFunc_int__impl_RankShows_1__mut x0 x1 y2_0 = some r) :
  Calls Try.prog 253 [v0_0, (.int .i64 x1), (.func (.func 215) #[] #[(.pointer (some p2_0))])].toArray w0 fun e w' => e = .returned (.tuple #[]) ∧ Below 0 (wE w0) w' ∧ Sep 0 w' [R.rest w0 (fps [R.own ty_3 B0_0 v0_0 x0]), R.own ty_3 B0_0 v0_0 r] := by
 refine calls_mkn' Try.func253 rfl Try.ntmps253 rfl rfl fun Q hQn hQ hP => ?_
 have hB : Below (wE w0).heap.size (wE w0) w0 := wE_below w0
 have hS : Sep (wE w0).heap.size w0 [R.rest w0 (fps [R.own ty_3 B0_0 v0_0 x0]), R.own ty_3 B0_0 v0_0 x0] := hS0.rest
 unfold F_slices_stableCmpFunc_int__impl_RankShows_1__mut at hF
 refine W.seq fun K1 hK1 => W.region (wl_assign rfl rfl (WL.nil (fun a ha => hK1 _ _ (W.seq fun K2 hK2 => (W.region (wl_move rfl rfl (wl_assign rfl rfl (wl_assign rfl rfl (WL.nil (fun a ha => hK2 _ _ (W.seq fun K3 hK3 => (W.block ?_)) a ha))))))) a ha)))
 refine W.loopk (fun m a w4 => ∃ (l7 : (List Int)) (y8 : Int) (y9 : Int), St 63 [(0, v0_0), (1, (.int .i64 x1)), (2, (.func (.func 215) #[] #[(.pointer (some p2_0))])), (6, (.int .i64 20)), (7, (.int .i64 y8)), (8, (.int .i64 y9))] a ∧ Below (wE w0).heap.size (wE w0) w4 ∧ Sep (wE w0).heap.size w4 [R.rest w0 (fps [R.own ty_3 B0_0 v0_0 x0]), R.own ty_3 B0_0 v0_0 l7] ∧ F_slices_stableCmpFunc_int__impl_RankShows_1__mut_L1 x1 y2_0 m l7 y8 y9 = some r) FU ?_ ?_
 ·
  exact fun a ha => ⟨x0, 0, 20, ha.sub ⟨rfl, rfl, rfl, rfl, rfl, rfl, trivial⟩, hB, (hS.sel [0, 1] rfl), hF⟩
 ·
  rintro m12 a w4 ⟨l7, y8, y9, ha, hB5, hS6, hF⟩ KL11 hKL11
  refine W.at ?_ ha
  cases m12 with
  | zero => exact noneE hF
  | succ m12 =>
   obtain ⟨nx10, hnx10⟩ : ∃ k, k = F_slices_stableCmpFunc_int__impl_RankShows_1__mut_L1 x1 y2_0 m12 := ⟨_, rfl⟩
   rw [F_slices_stableCmpFunc_int__impl_RankShows_1__mut_L1] at hF; try rw [← hnx10] at hF
   refine W.seq fun K13 hK13 => W.seq fun K14 hK14 => W.region (wl_move rfl rfl (wl_move rfl rfl (wl_leq rfl rfl rfl (WL.nil (fun a ha => hK14 _ _ (W.cond rfl (fun h15 => ?_) (fun h15 => ?_)) a ha)))))
   ·replace hF := ifP h15 hF
    refine W.skip fun a ha => hK13 _ _ (W.block (W.seq fun K16 hK16 => (W.region (wl_move rfl rfl (wl_move rfl rfl (wl_move rfl rfl (wl_move rfl rfl ?_))))))) a ha
    obtain ⟨u17, hu17, hF⟩ := bindE hF
    refine wl_call rfl Try.call273 (C_slices_insertionSortCmpFunc_int__impl_RankShows_1__mut w4 l7 v0_0 B0_0 y8 y9 y2_0 p2_0 v2_0_0 (h2_0_0.rsto (hS6.sel [0, 1] rfl)) (hp2_0.rsto (hS6.sel [0, 1] rfl)) (hS6.sel [1] rfl).base0 _ hu17) rfl ?_
    rintro _ w18 ⟨rfl, hE19, hM20⟩
    refine ⟨_, rfl, ?_⟩
    have hB21 := hS6.mutB [1] rfl (M := [R.own ty_3 B0_0 v0_0 l7]) rfl (M' := [R.own ty_3 B0_0 v0_0 u17]) rfl hB5 hB5.size hE19 hM20
    have hS22 : Sep (wE w0).heap.size w18 [R.own ty_3 B0_0 v0_0 u17, R.rest w0 (fps [R.own ty_3 B0_0 v0_0 x0])] := hS6.mut [1] [0] rfl (M := [R.own ty_3 B0_0 v0_0 l7]) rfl (M' := [R.own ty_3 B0_0 v0_0 u17]) rfl hM20
    refine WL.nil fun a ha => hK16 _ _ (W.seq fun K23 hK23 => (W.region (wl_move rfl rfl (wl_assign rfl rfl (WL.nil (fun a ha => hK23 _ _ (W.region (wl_move rfl rfl (wl_move rfl rfl (wl_add rfl rfl rfl (wl_assign rfl rfl (WL.nil ?_)))))) a ha)))))) a ha
    rw [hnx10] at hF
    exact fun a ha => hKL11 a _ m12 (Nat.lt_succ_self m12) ⟨u17, y9, (w64 (y9 + 20)), ha.sub ⟨rfl, rfl, rfl, rfl, rfl, rfl, trivial⟩, hB21, (hS22.sel [1, 0] rfl), hF⟩
   ·replace hF := ifN h15 hF
    refine W.exit fun a ha => hK3 _ _ (W.seq fun K24 hK24 => (W.region (wl_move rfl rfl (wl_move rfl rfl (wl_move rfl rfl (wl_move rfl rfl ?_)))))) a ha
    obtain ⟨u25, hu25, hF⟩ := bindE hF
    refine wl_call rfl Try.call273 (C_slices_insertionSortCmpFunc_int__impl_RankShows_1__mut w4 l7 v0_0 B0_0 y8 x1 y2_0 p2_0 v2_0_0 (h2_0_0.rsto (hS6.sel [0, 1] rfl)) (hp2_0.rsto (hS6.sel [0, 1] rfl)) (hS6.sel [1] rfl).base0 _ hu25) rfl ?_
    rintro _ w26 ⟨rfl, hE27, hM28⟩
    refine ⟨_, rfl, ?_⟩
    have hB29 := hS6.mutB [1] rfl (M := [R.own ty_3 B0_0 v0_0 l7]) rfl (M' := [R.own ty_3 B0_0 v0_0 u25]) rfl hB5 hB5.size hE27 hM28
    have hS30 : Sep (wE w0).heap.size w26 [R.own ty_3 B0_0 v0_0 u25, R.rest w0 (fps [R.own ty_3 B0_0 v0_0 x0])] := hS6.mut [1] [0] rfl (M := [R.own ty_3 B0_0 v0_0 l7]) rfl (M' := [R.own ty_3 B0_0 v0_0 u25]) rfl hM28
    refine WL.nil fun a ha => hK24 _ _ (W.block (W.loopk (fun m a w31 => ∃ (y34 : Int), St 63 [(0, v0_0), (1, (.int .i64 x1)), (2, (.func (.func 215) #[] #[(.pointer (some p2_0))])), (6, (.int .i64 y34))] a ∧ Below (wE w0).heap.size (wE w0) w31 ∧ Sep (wE w0).heap.size w31 [R.rest w0 (fps [R.own ty_3 B0_0 v0_0 x0]), R.own ty_3 B0_0 v0_0 u25] ∧ F_slices_stableCmpFunc_int__impl_RankShows_1__mut_L2 x1 u25 m y34 = some r) FU ?_ ?_)) a ha
    ·
     exact fun a ha => ⟨20, ha.sub ⟨rfl, rfl, rfl, rfl, trivial⟩, hB29, (hS30.sel [1, 0] rfl), hF⟩
    ·
     rintro m37 a w31 ⟨y34, ha, hB32, hS33, hF⟩ KL36 hKL36
     refine W.at ?_ ha
     cases m37 with
     | zero => exact noneE hF
     | succ m37 =>
      obtain ⟨nx35, hnx35⟩ : ∃ k, k = F_slices_stableCmpFunc_int__impl_RankShows_1__mut_L2 x1 u25 m37 := ⟨_, rfl⟩
      rw [F_slices_stableCmpFunc_int__impl_RankShows_1__mut_L2] at hF; try rw [← hnx35] at hF
      refine W.seq fun K38 hK38 => W.seq fun K39 hK39 => W.region (wl_move rfl rfl (wl_move rfl rfl (wl_lss rfl rfl rfl (WL.nil (fun a ha => hK39 _ _ (W.cond rfl (fun h40 => ?_) (fun h40 => ?_)) a ha)))))
      ·replace hF := ifP h40 hF
       refine W.skip fun a ha => hK38 _ _ (W.block (W.seq fun K41 hK41 => (W.region (wl_move rfl rfl (wl_mul rfl rfl rfl (wl_assign rfl rfl (wl_assign rfl rfl (WL.nil (fun a ha => hK41 _ _ (W.seq fun K42 hK42 => (W.block (W.loopk (fun m a w43 => St 63 [(0, v0_0), (1, (.int .i64 x1)), (2, (.func (.func 215) #[] #[(.pointer (some p2_0))])), (6, (.int .i64 y34)), (7, (.int .i64 0)), (8, (.int .i64 (w64 (2 * y34))))] a ∧ Below (wE w0).heap.size (wE w0) w43 ∧ Sep (wE w0).heap.size w43 [R.rest w0 (fps [R.own ty_3 B0_0 v0_0 x0]), R.own ty_3 B0_0 v0_0 u25] ∧ F_slices_stableCmpFunc_int__impl_RankShows_1__mut_L3 y34 x1 nx35 m  = some r) FU ?_ ?_))) a ha))))))))) a ha
       ·
        exact fun a ha => ⟨ha.sub ⟨rfl, rfl, rfl, rfl, rfl, rfl, trivial⟩, hB32, (hS33.sel [0, 1] rfl), hF⟩
       ·
        rintro m48 a w43 ⟨ha, hB44, hS45, hF⟩ KL47 hKL47
        refine W.at ?_ ha
        cases m48 with
        | zero => exact noneE hF
        | succ m48 =>
         obtain ⟨nx46, hnx46⟩ : ∃ k, k = F_slices_stableCmpFunc_int__impl_RankShows_1__mut_L3 y34 x1 nx35 m48 := ⟨_, rfl⟩
         rw [F_slices_stableCmpFunc_int__impl_RankShows_1__mut_L3] at hF; try rw [← hnx46] at hF
         refine W.seq fun K49 hK49 => W.seq fun K50 hK50 => W.region (wl_move rfl rfl (wl_move rfl rfl (wl_leq rfl rfl rfl (WL.nil (fun a ha => hK50 _ _ (W.cond rfl (fun h51 => ?_) (fun h51 => ?_)) a ha)))))
         ·replace hF := ifP h51 hF
          exact noneE hF
         ·replace hF := ifN h51 hF
          refine W.exit fun a ha => hK42 _ _ (W.seq fun K53 hK53 => (W.seq fun K54 hK54 => (W.region (wl_move rfl rfl (wl_move rfl rfl (wl_add rfl rfl rfl (wl_assign rfl rfl (WL.nil (fun a ha => hK54 _ _ (W.seq fun K55 hK55 => (W.region (wl_move rfl rfl ?_))) a ha))))))))) a ha
          refine wl_move rfl rfl (wl_lss rfl rfl rfl (WL.nil (fun a ha => hK55 _ _ (W.cond rfl (fun h56 => ?_) (fun h56 => ?_)) a ha)))
          ·replace hF := ifP h56 hF
           exact noneE hF
          ·replace hF := ifN h56 hF
           refine W.skip fun a ha => hK53 _ _ (W.region (wl_move rfl rfl (wl_mul rfl rfl rfl (wl_assign rfl rfl (WL.nil ?_))))) a ha
           rw [hnx35] at hF
           exact fun a ha => hKL36 a _ m37 (Nat.lt_succ_self m37) ⟨(w64 (y34 * 2)), ha.sub ⟨rfl, rfl, rfl, rfl, trivial⟩, hB44, (hS45.sel [0, 1] rfl), hF⟩
      ·replace hF := ifN h40 hF
       refine W.exit ?_
       have hr := Option.some.inj hF
       subst hr
       exact retsn (vs := []) hQn rfl trivial ⟨rfl, hB32, hS33.sel [0, 1] rfl⟩
theorem C_slices_SortStableFunc_int_int__impl_RankShows_1__mut (w0 : World) (x0 : (List Int)) (v0_0 : Value) (B0_0 : List Nat) (y1_0 : (List ((List (List (Int × Int))) × (List Int) × Int × Int))) (p1_0 : Addr) (v1_0_0 : Value) (h1_0_0 : rdS ty_53 (Out (fps [R.own ty_3 B0_0 v0_0 x0]) w0) w0 v1_0_0 y1_0) (hp1_0 : EAt (Out (fps [R.own ty_3 B0_0 v0_0 x0]) w0) w0 p1_0 [v1_0_0]) (hS0 : Sep 0 w0 [R.own ty_3 B0_0 v0_0 x0]) (r : (List Int)) (hF : F_slices_SortStableFunc_int_int__impl_RankShows_1__mut x0 y1_0 = some r) :
  Calls Try.prog 214 [v0_0, (.func (.func 215) #[] #[(.pointer (some p1_0))])].toArray w0 fun e w' => e = .returned (.tuple #[]) ∧ Below 0 (wE w0) w' ∧ Sep 0 w' [R.rest w0 (fps [R.own ty_3 B0_0 v0_0 x0]), R.own ty_3 B0_0 v0_0 r] := by
 refine calls_mkn' Try.func214 rfl Try.ntmps214 rfl rfl fun Q hQn hQ hP => ?_
 have hB : Below (wE w0).heap.size (wE w0) w0 := wE_below w0
 have hS : Sep (wE w0).heap.size w0 [R.rest w0 (fps [R.own ty_3 B0_0 v0_0 x0]), R.own ty_3 B0_0 v0_0 x0] := hS0.rest
 unfold F_slices_SortStableFunc_int_int__impl_RankShows_1__mut at hF
 refine W.region (wl_move rfl rfl (wl_move rfl rfl (wl_lenr (e := ty_3) (l := x0) Try.underlying29 rfl rfl (hS.own_ro (i := 1) rfl) (wl_move rfl rfl ?_))))
 obtain ⟨u1, hu1, hF⟩ := bindE hF
 refine wl_call rfl Try.call253 (C_slices_stableCmpFunc_int__impl_RankShows_1__mut w0 x0 v0_0 B0_0 (List.length x0 : Int) y1_0 p1_0 v1_0_0 (h1_0_0.rsto (hS.sel [0, 1] rfl)) (hp1_0.rsto (hS.sel [0, 1] rfl)) (hS.sel [1] rfl).base0 _ hu1) rfl ?_
 rintro _ w2 ⟨rfl, hE3, hM4⟩
 refine ⟨_, rfl, ?_⟩
 have hB5 := hS.mutB [1] rfl (M := [R.own ty_3 B0_0 v0_0 x0]) rfl (M' := [R.own ty_3 B0_0 v0_0 u1]) rfl hB hB.size hE3 hM4
 have hS6 : Sep (wE w0).heap.size w2 [R.own ty_3 B0_0 v0_0 u1, R.rest w0 (fps [R.own ty_3 B0_0 v0_0 x0])] := hS.mut [1] [0] rfl (M := [R.own ty_3 B0_0 v0_0 x0]) rfl (M' := [R.own ty_3 B0_0 v0_0 u1]) rfl hM4
 refine WL.nil ?_
 have hr := Option.some.inj hF
 subst hr
 exact retsn (vs := []) hQn rfl trivial ⟨rfl, hB5, hS6.sel [1, 0] rfl⟩
theorem C_impl_RankShows (w0 : World) (x0 : (List ((List (List (Int × Int))) × (List Int) × Int × Int))) (v0_0 : Value) (h0_0 : rdS ty_53 (· < w0.heap.size) w0 v0_0 x0) (r : ((List Int) × Bool)) (hF : F_impl_RankShows x0 = some r) :
  Calls Try.prog 115 [v0_0].toArray w0 fun e w' => ∃ (q0 : Value) (G0 : List Nat), e = .returned (.tuple #[q0, (.bool r.2)]) ∧ Below w0.heap.size w0 w' ∧ Sep w0.heap.size w' [R.own ty_3 G0 q0 r.1] := by
 refine calls_mk' Try.func115 rfl Try.ntmps115 rfl rfl fun Q hQ hP => ?_
 have hB : Below w0.heap.size w0 w0 := Below.refl _ _
 have hS : Sep w0.heap.size w0 [] := Sep.nil _ _
 unfold F_impl_RankShows at hF
 refine W.seq fun K1 hK1 => W.region (wl_box (cs := [v0_0]) rfl rfl (cells_one (h0_0.ro hB).one) hB hS ?_)
 intro b2 w3 hb4 hB5 hS6
 refine wl_assign rfl rfl (wl_assign rfl rfl (WL.nil (fun a ha => hK1 _ _ (W.seq fun K7 hK7 => (W.seq fun K8 hK8 => (W.region (wl_load_blk (i := 0) (vs := [v0_0]) (v := v0_0) tf_121 rfl rfl hS6 rfl rfl rfl (wl_lenr (e := ty_53) (l := x0) Try.underlying121 rfl rfl h0_0 (wl_gtr rfl rfl rfl (WL.nil (fun a ha => hK8 _ _ (W.cond rfl (fun h9 => ?_) (fun h9 => ?_)) a ha)))))))) a ha)))
 ·replace hF := ifP h9 hF
  refine W.seq fun K10 hK10 => W.region (wl_assign rfl rfl (wl_assign rfl rfl (WL.nil (fun a ha => hK10 _ _ (W.ret ?_) a ha))))
  have hS11 := hS6.push0 (r := R.own ty_3 [] (.slice none 0 0) []) rfl fun _ => .inl ⟨rfl, rfl, rfl⟩
  have hr := Option.some.inj hF
  subst hr
  exact rets (vs := [(.slice none 0 0), (.bool false)]) hQ rfl ⟨rv_tmp rfl, rv_tmp rfl, trivial⟩ ⟨(.slice none 0 0), [], rfl, hB5, hS11.sel [0] rfl⟩
 ·replace hF := ifN h9 hF
  refine W.skip fun a ha => hK7 _ _ (W.seq fun K12 hK12 => (W.region (wl_lit (vs := []) (l := []) fl_3 Try.underlying29 rfl rfl rfl rfl rfl rfl hB5 hS6 ?_))) a ha
  intro v13 F14 w15 hb16 hB17 hS18
  refine wl_assign rfl rfl (WL.nil (fun a ha => hK12 _ _ (W.seq fun K19 hK19 => (W.seq fun K20 hK20 => (W.region (wl_load_blk (i := 1) (vs := [v0_0]) (v := v0_0) tf_121 rfl rfl hS18 rfl rfl rfl (wl_lenr (e := ty_53) (l := x0) Try.underlying121 rfl rfl h0_0 (wl_move rfl rfl (WL.nil (fun a ha => hK20 _ _ (W.block (W.loopk (fun m a w21 => ∃ (l24 : (List Int)) (y27 : Int) (v25 : Value) (F26 : List Nat), St 30 [(1, (.pointer (some ⟨b2, 0, none⟩))), (4, v25), (11, v0_0), (12, (.int .i64 (List.length x0 : Int))), (13, (.int .i64 y27))] a ∧ Below w0.heap.size w0 w21 ∧ Sep w0.heap.size w21 [R.blk b2 121 [v0_0], R.own ty_3 F26 v25 l24] ∧ F_impl_RankShows_L1 x0 m l24 y27 = some r) FU ?_ ?_)) a ha)))))))) a ha))
  ·
   exact fun a ha => ⟨[], 0, v13, F14, ha.sub ⟨rfl, rfl, rfl, rfl, rfl, trivial⟩, hB17, (hS18.sel [1, 0] rfl), hF⟩
  ·
   rintro m30 a w21 ⟨l24, y27, v25, F26, ha, hB22, hS23, hF⟩ KL29 hKL29
   refine W.at ?_ ha
   cases m30 with
   | zero => exact noneE hF
   | succ m30 =>
    obtain ⟨nx28, hnx28⟩ : ∃ k, k = F_impl_RankShows_L1 x0 m30 := ⟨_, rfl⟩
    rw [F_impl_RankShows_L1, ← hnx28] at hF
    refine W.seq fun K31 hK31 => W.region (wl_lss rfl rfl rfl (WL.nil (fun a ha => hK31 _ _ (W.seq fun K32 hK32 => (W.cond rfl (fun h33 => ?_) (fun h33 => ?_))) a ha)))
    ·replace hF := ifP h33 hF
     refine W.skip fun a ha => hK32 _ _ (W.seq fun K34 hK34 => (W.block (W.seq fun K35 hK35 => (W.region (wl_move rfl rfl ?_))))) a ha
     obtain ⟨u36, hu36, hF⟩ := bindE hF
     refine wl_index (e := ty_53) Try.underlying121 rfl rfl rfl h0_0 hu36 ?_
     rintro p37 _ ⟨_, _, rfl, ⟨v39, rfl, hv40⟩, ⟨_, _, rfl, ⟨v41, rfl, hv42⟩, ⟨_, _, rfl, rfl, rfl⟩⟩⟩ hp38
     refine wl_load_p (vs := [v39, v41, (.int .i64 u36.2.2.1), (.int .i64 u36.2.2.2)]) (v := (.agg #[v39, v41, (.int .i64 u36.2.2.1), (.int .i64 u36.2.2.2)])) tf_53 rfl rfl (hp38.ro hB22) rfl rfl (wl_alloc (cs := [(.slice none 0 0), (.slice none 0 0), (.int .i64 0), (.int .i64 0)]) tf_53 rfl rfl hB22 hS23 ?_)
     intro b43 w44 hb45 hB46 hS47
     refine wl_assign rfl rfl (wl_store_blk (i := 0) (vs := [v39, v41, (.int .i64 u36.2.2.1), (.int .i64 u36.2.2.2)]) (cs' := [v39, v41, (.int .i64 u36.2.2.1), (.int .i64 u36.2.2.2)]) tf_53 rfl rfl rfl rfl hB46 hS47 rfl rfl ⟨(hv40.ro hB46).one, (hv42.ro hB46).one, rfl, rfl, trivial⟩ rfl ?_)
     intro w48 hk51 hB49 hS50
     refine WL.nil fun a ha => hK35 _ _ (W.seq fun K52 hK52 => (W.seq fun K53 hK53 => (W.region (wl_load_blk (i := 0) (vs := [v39, v41, (.int .i64 u36.2.2.1), (.int .i64 u36.2.2.2)]) (v := (.agg #[v39, v41, (.int .i64 u36.2.2.1), (.int .i64 u36.2.2.2)])) tf_53 rfl rfl hS50 rfl rfl rfl ?_)))) a ha
     obtain ⟨u54, hu54, hF⟩ := bindE hF
     refine wl_call rfl Try.call60 (C_impl_IsShow w48 u36 v39 (hv40.ro hB49) v41 (hv42.ro hB49) _ hu54) rfl ?_
     rintro _ w55 ⟨rfl, hb56⟩
     refine ⟨_, rfl, ?_⟩
     have hB57 := hB49.trans (hb56.mono hB49.size)
     have hS58 := hS50.below hb56
     refine wl_not rfl rfl (WL.nil (fun a ha => hK53 _ _ (W.cond rfl (fun h60 => ?_) (fun h60 => ?_)) a ha))
     ·replace hF := ifP h60 hF
      refine W.seq fun K61 hK61 => W.region (wl_assign rfl rfl (wl_assign rfl rfl (WL.nil (fun a ha => hK61 _ _ (W.ret ?_) a ha))))
      have hS62 := hS58.push0 (r := R.own ty_3 [] (.slice none 0 0) []) rfl fun _ => .inl ⟨rfl, rfl, rfl⟩
      have hr := Option.some.inj hF
      subst hr
      exact rets (vs := [(.slice none 0 0), (.bool false)]) hQ rfl ⟨rv_tmp rfl, rv_tmp rfl, trivial⟩ ⟨(.slice none 0 0), [], rfl, hB57, hS62.sel [0] rfl⟩
     ·replace hF := ifN h60 hF
      refine W.skip fun a ha => hK52 _ _ (W.region (wl_move rfl rfl (wl_move rfl rfl (wl_lit (vs := [(.int .i64 y27)]) (l := [y27]) fl_3 Try.underlying29 rfl rfl rfl rfl rfl rfl hB57 hS58 ?_)))) a ha
      intro v63 F64 w65 hb66 hB67 hS68
      obtain ⟨u69, hu69, hF⟩ := bindE hF
      refine wl_append (i := 3) (S := (· < w65.heap.size)) fl_3 Try.underlying29 rfl rfl rfl hB67 hS68 rfl (hS68.own_ro (i := 0) rfl) hu69 ?_
      intro v70 F71 w72 hk73 hB74 hS75
      refine wl_assign rfl rfl (WL.nil (fun a ha => hK34 _ _ (W.region (wl_add rfl rfl rfl (wl_move rfl rfl (WL.nil ?_)))) a ha))
      rw [hnx28] at hF
      exact fun a ha => hKL29 a _ m30 (Nat.lt_succ_self m30) ⟨u69, (w64 (y27 + 1)), v70, F71, ha.sub ⟨rfl, rfl, rfl, rfl, rfl, trivial⟩, hB74, (hS75.sel [2, 3] rfl), hF⟩
    ·replace hF := ifN h33 hF
     refine W.exit fun a ha => hK19 _ _ (W.seq fun K76 hK76 => (W.region (wl_move rfl rfl (wl_makeFunc (vs := [(.pointer (some ⟨b2, 0, none⟩))]) rfl rfl ?_)))) a ha
     obtain ⟨u77, hu77, hF⟩ := bindE hF
     refine wl_call rfl Try.call214 (C_slices_SortStableFunc_int_int__impl_RankShows_1__mut w21 l24 v25 F26 x0 ⟨b2, 0, none⟩ v0_0 (h0_0.oldo hB22 (hS23.sel [1] rfl)) (blk_out (hS23.sel [0, 1] rfl)) (hS23.sel [1] rfl).base0 _ hu77) rfl ?_
     rintro _ w78 ⟨rfl, hE79, hM80⟩
     refine ⟨_, rfl, ?_⟩
     have hB81 := hS23.mutB [1] rfl (M := [R.own ty_3 F26 v25 l24]) rfl (M' := [R.own ty_3 F26 v25 u77]) rfl hB22 hB22.size hE79 hM80
     have hS82 : Sep w0.heap.size w78 [R.own ty_3 F26 v25 u77, R.blk b2 121 [v0_0]] := hS23.mut [1] [0] rfl (M := [R.own ty_3 F26 v25 l24]) rfl (M' := [R.own ty_3 F26 v25 u77]) rfl hM80
     refine WL.nil fun a ha => hK76 _ _ (W.seq fun K83 hK83 => (W.region (wl_move rfl rfl (wl_assign rfl rfl (wl_assign rfl rfl (WL.nil (fun a ha => hK83 _ _ (W.ret ?_) a ha))))))) a ha
     have hr := Option.some.inj hF
     subst hr
     exact rets (vs := [v25, (.bool true)]) hQ rfl ⟨rv_tmp rfl, rv_tmp rfl, trivial⟩ ⟨v25, F26, rfl, hB81, hS82.sel [0] rfl⟩
theorem C_spec_RankShows (w0 : World) (x0 : (List ((List (List (Int × Int))) × (List Int) × Int × Int))) (v0_0 : Value) (h0_0 : rdS ty_53 (· < w0.heap.size) w0 v0_0 x0) (r : ((List Int) × Bool)) (hF : F_spec_RankShows x0 = some r) :
  Calls Try.prog 116 [v0_0].toArray w0 fun e w' => ∃ (q0 : Value) (G0 : List Nat), e = .returned (.tuple #[q0, (.bool r.2)]) ∧ Below w0.heap.size w0 w' ∧ Sep w0.heap.size w' [R.own ty_3 G0 q0 r.1] := by
 refine calls_mk' Try.func116 rfl Try.ntmps116 rfl rfl fun Q hQ hP => ?_
 have hB : Below w0.heap.size w0 w0 := Below.refl _ _
 have hS : Sep w0.heap.size w0 [] := Sep.nil _ _
 unfold F_spec_RankShows at hF
 refine W.seq fun K1 hK1 => W.region (wl_assign rfl rfl (wl_assign rfl rfl (WL.nil (fun a ha => hK1 _ _ (W.seq fun K2 hK2 => (W.seq fun K3 hK3 => (W.region (wl_move rfl rfl (wl_lenr (e := ty_53) (l := x0) Try.underlying121 rfl rfl h0_0 (wl_move rfl rfl (WL.nil (fun a ha => hK3 _ _ ?_ a ha)))))))) a ha))))
 refine W.block (W.loopk (fun m a w4 => ∃ (y7 : Int), St 62 [(0, v0_0), (10, v0_0), (11, (.int .i64 (List.length x0 : Int))), (12, (.int .i64 y7))] a ∧ Below w0.heap.size w0 w4 ∧ Sep w0.heap.size w4 [] ∧ F_spec_RankShows_L1 x0 m y7 = some r) FU ?_ ?_)
 ·
  exact fun a ha => ⟨0, ha.sub ⟨rfl, rfl, rfl, rfl, trivial⟩, hB, (hS.sel [] rfl), hF⟩
 ·
  rintro m10 a w4 ⟨y7, ha, hB5, hS6, hF⟩ KL9 hKL9
  refine W.at ?_ ha
  cases m10 with
  | zero => exact noneE hF
  | succ m10 =>
   obtain ⟨nx8, hnx8⟩ : ∃ k, k = F_spec_RankShows_L1 x0 m10 := ⟨_, rfl⟩
   rw [F_spec_RankShows_L1, ← hnx8] at hF
   refine W.seq fun K11 hK11 => W.region (wl_lss rfl rfl rfl (WL.nil (fun a ha => hK11 _ _ (W.seq fun K12 hK12 => (W.cond rfl (fun h13 => ?_) (fun h13 => ?_))) a ha)))
   ·replace hF := ifP h13 hF
    refine W.skip fun a ha => hK12 _ _ (W.seq fun K14 hK14 => (W.block (W.seq fun K15 hK15 => (W.region ?_)))) a ha
    obtain ⟨u16, hu16, hF⟩ := bindE hF
    refine wl_index (e := ty_53) Try.underlying121 rfl rfl rfl h0_0 hu16 ?_
    rintro p17 _ ⟨_, _, rfl, ⟨v19, rfl, hv20⟩, ⟨_, _, rfl, ⟨v21, rfl, hv22⟩, ⟨_, _, rfl, rfl, rfl⟩⟩⟩ hp18
    refine wl_load_p (vs := [v19, v21, (.int .i64 u16.2.2.1), (.int .i64 u16.2.2.2)]) (v := (.agg #[v19, v21, (.int .i64 u16.2.2.1), (.int .i64 u16.2.2.2)])) tf_53 rfl rfl (hp18.ro hB5) rfl rfl (wl_alloc (cs := [(.slice none 0 0), (.slice none 0 0), (.int .i64 0), (.int .i64 0)]) tf_53 rfl rfl hB5 hS6 ?_)
    intro b23 w24 hb25 hB26 hS27
    refine wl_store_blk (i := 0) (vs := [v19, v21, (.int .i64 u16.2.2.1), (.int .i64 u16.2.2.2)]) (cs' := [v19, v21, (.int .i64 u16.2.2.1), (.int .i64 u16.2.2.2)]) tf_53 rfl rfl rfl rfl hB26 hS27 rfl rfl ⟨(hv20.ro hB26).one, (hv22.ro hB26).one, rfl, rfl, trivial⟩ rfl ?_
    intro w28 hk31 hB29 hS30
    refine WL.nil fun a ha => hK15 _ _ (W.seq fun K32 hK32 => (W.region (wl_load_blk (i := 0) (vs := [v19, v21, (.int .i64 u16.2.2.1), (.int .i64 u16.2.2.2)]) (v := (.agg #[v19, v21, (.int .i64 u16.2.2.1), (.int .i64 u16.2.2.2)])) tf_53 rfl rfl hS30 rfl rfl rfl ?_))) a ha
    obtain ⟨u33, hu33, hF⟩ := bindE hF
    refine wl_call rfl Try.call145 (C_spec_swGood w28 u16 v19 (hv20.ro hB29) v21 (hv22.ro hB29) _ hu33) rfl ?_
    rintro _ w34 ⟨rfl, hb35⟩
    refine ⟨_, rfl, ?_⟩
    have hB36 := hB29.trans (hb35.mono hB29.size)
    have hS37 := hS30.below hb35
    refine wl_not rfl rfl (WL.nil (fun a ha => hK32 _ _ (W.cond rfl (fun h39 => ?_) (fun h39 => ?_)) a ha))
    ·replace hF := ifP h39 hF
     refine W.seq fun K40 hK40 => W.region (wl_assign rfl rfl (wl_assign rfl rfl (WL.nil (fun a ha => hK40 _ _ (W.ret ?_) a ha))))
     have hS41 := hS37.push0 (r := R.own ty_3 [] (.slice none 0 0) []) rfl fun _ => .inl ⟨rfl, rfl, rfl⟩
     have hr := Option.some.inj hF
     subst hr
     exact rets (vs := [(.slice none 0 0), (.bool false)]) hQ rfl ⟨rv_tmp rfl, rv_tmp rfl, trivial⟩ ⟨(.slice none 0 0), [], rfl, hB36, hS41.sel [0] rfl⟩
    ·replace hF := ifN h39 hF
     refine W.skip fun a ha => hK14 _ _ (W.region (wl_add rfl rfl rfl (wl_move rfl rfl (WL.nil ?_)))) a ha
     rw [hnx8] at hF
     exact fun a ha => hKL9 a _ m10 (Nat.lt_succ_self m10) ⟨(w64 (y7 + 1)), ha.sub ⟨rfl, rfl, rfl, rfl, trivial⟩, hB36, (hS37.sel [] rfl), hF⟩
   ·replace hF := ifN h13 hF
    refine W.exit fun a ha => hK2 _ _ (W.seq fun K42 hK42 => (W.seq fun K43 hK43 => (W.region (wl_move rfl rfl (wl_lenr (e := ty_53) (l := x0) Try.underlying121 rfl rfl h0_0 (wl_gtr rfl rfl rfl (WL.nil (fun a ha => hK43 _ _ (W.cond rfl (fun h44 => ?_) (fun h44 => ?_)) a ha)))))))) a ha
    ·replace hF := ifP h44 hF
     refine W.seq fun K45 hK45 => W.region (wl_assign rfl rfl (wl_assign rfl rfl (WL.nil (fun a ha => hK45 _ _ (W.ret ?_) a ha))))
     have hS46 := hS6.push0 (r := R.own ty_3 [] (.slice none 0 0) []) rfl fun _ => .inl ⟨rfl, rfl, rfl⟩
     have hr := Option.some.inj hF
     subst hr
     exact rets (vs := [(.slice none 0 0), (.bool false)]) hQ rfl ⟨rv_tmp rfl, rv_tmp rfl, trivial⟩ ⟨(.slice none 0 0), [], rfl, hB5, hS46.sel [0] rfl⟩
    ·replace hF := ifN h44 hF
     refine W.skip fun a ha => hK42 _ _ (W.seq fun K47 hK47 => (W.region (wl_assign rfl rfl (WL.nil (fun a ha => hK47 _ _ (W.seq fun K48 hK48 => (W.seq fun K49 hK49 => (W.region (wl_move rfl rfl (wl_lenr (e := ty_53) (l := x0) Try.underlying121 rfl rfl h0_0 (wl_move rfl rfl (WL.nil ?_))))))) a ha))))) a ha
     refine fun a ha => hK49 _ _ (W.block (W.loopk (fun m a w50 => ∃ (l53 : (List Int)) (y56 : Int) (v54 : Value) (F55 : List Nat), St 62 [(0, v0_0), (6, v54), (23, v0_0), (24, (.int .i64 (List.length x0 : Int))), (25, (.int .i64 y56))] a ∧ Below w0.heap.size w0 w50 ∧ Sep w0.heap.size w50 [R.own ty_3 F55 v54 l53] ∧ F_spec_RankShows_L2 x0 m l53 y56 = some r) FU ?_ ?_)) a ha
     ·
      have hS58 := hS6.push0 (r := R.own ty_3 [] (.slice none 0 0) []) rfl fun _ => .inl ⟨rfl, rfl, rfl⟩
      exact fun a ha => ⟨[], 0, (.slice none 0 0), [], ha.sub ⟨rfl, rfl, rfl, rfl, rfl, trivial⟩, hB5, (hS58.sel [0] rfl), hF⟩
     ·
      rintro m60 a w50 ⟨l53, y56, v54, F55, ha, hB51, hS52, hF⟩ KL59 hKL59
      refine W.at ?_ ha
      cases m60 with
      | zero => exact noneE hF
      | succ m60 =>
       obtain ⟨nx57, hnx57⟩ : ∃ k, k = F_spec_RankShows_L2 x0 m60 := ⟨_, rfl⟩
       rw [F_spec_RankShows_L2, ← hnx57] at hF
       refine W.seq fun K61 hK61 => W.region (wl_lss rfl rfl rfl (WL.nil (fun a ha => hK61 _ _ (W.seq fun K62 hK62 => (W.cond rfl (fun h63 => ?_) (fun h63 => ?_))) a ha)))
       ·replace hF := ifP h63 hF
        refine W.skip fun a ha => hK62 _ _ (W.seq fun K64 hK64 => ?_) a ha
        obtain ⟨k71, hk71, hF⟩ := jE1 hF
        have hJ72 : ∀ (l68 : (List Int)) (v69 : Value) (F70 : List Nat) (w65 : World) (_ : k71 l68 = some r) (_ : Below w0.heap.size w0 w65) (_ : Sep w0.heap.size w65 [R.own ty_3 F70 v69 l68]), ∀ a, St 62 [(0, v0_0), (6, v69), (23, v0_0), (24, (.int .i64 (List.length x0 : Int))), (25, (.int .i64 y56))] a → K64 a w65 := by
         intro l68 v69 F70 w65 hF hB66 hS67
         subst hk71
         refine fun a ha => hK64 _ _ (W.region (wl_add rfl rfl rfl (wl_move rfl rfl (WL.nil ?_)))) a ha
         rw [hnx57] at hF
         exact fun a ha => hKL59 a _ m60 (Nat.lt_succ_self m60) ⟨l68, (w64 (y56 + 1)), v69, F70, ha.sub ⟨rfl, rfl, rfl, rfl, rfl, trivial⟩, hB66, (hS67.sel [0] rfl), hF⟩
        refine W.block (W.seq fun K73 hK73 => (W.region (wl_move rfl rfl ?_)))
        obtain ⟨u74, hu74, hF⟩ := bindE hF
        refine wl_index (e := ty_53) Try.underlying121 rfl rfl rfl h0_0 hu74 ?_
        rintro p75 _ ⟨_, _, rfl, ⟨v77, rfl, hv78⟩, ⟨_, _, rfl, ⟨v79, rfl, hv80⟩, ⟨_, _, rfl, rfl, rfl⟩⟩⟩ hp76
        refine wl_load_p (vs := [v77, v79, (.int .i64 u74.2.2.1), (.int .i64 u74.2.2.2)]) (v := (.agg #[v77, v79, (.int .i64 u74.2.2.1), (.int .i64 u74.2.2.2)])) tf_53 rfl rfl (hp76.ro hB51) rfl rfl (wl_alloc (cs := [(.slice none 0 0), (.slice none 0 0), (.int .i64 0), (.int .i64 0)]) tf_53 rfl rfl hB51 hS52 ?_)
        intro b81 w82 hb83 hB84 hS85
        refine wl_assign rfl rfl (wl_store_blk (i := 0) (vs := [v77, v79, (.int .i64 u74.2.2.1), (.int .i64 u74.2.2.2)]) (cs' := [v77, v79, (.int .i64 u74.2.2.1), (.int .i64 u74.2.2.2)]) tf_53 rfl rfl rfl rfl hB84 hS85 rfl rfl ⟨(hv78.ro hB84).one, (hv80.ro hB84).one, rfl, rfl, trivial⟩ rfl ?_)
        intro w86 hk89 hB87 hS88
        refine WL.nil fun a ha => hK73 _ _ (W.seq fun K90 hK90 => (W.region (wl_move rfl rfl (wl_lenr (e := ty_3) (l := l53) Try.underlying29 rfl rfl (hS88.own_ro (i := 1) rfl) (wl_assign rfl rfl (WL.nil (fun a ha => hK90 _ _ (W.seq fun K91 hK91 => (W.block (W.loopk (fun m a w92 => ∃ (y95 : Int), St 62 [(0, v0_0), (6, v54), (7, (.int .i64 y56)), (8, (.pointer (some ⟨b81, 0, none⟩))), (9, (.int .i64 y95)), (23, v0_0), (24, (.int .i64 (List.length x0 : Int))), (25, (.int .i64 y56))] a ∧ Below w0.heap.size w0 w92 ∧ Sep w0.heap.size w92 [R.own ty_3 F55 v54 l53, R.blk b81 53 [v77, v79, (.int .i64 u74.2.2.1), (.int .i64 u74.2.2.2)]] ∧ F_spec_RankShows_L3 l53 y56 k71 x0 u74 m y95 = some r) FU ?_ ?_))) a ha))))))) a ha
        ·
         exact fun a ha => ⟨(List.length l53 : Int), ha.sub ⟨rfl, rfl, rfl, rfl, rfl, rfl, rfl, rfl, trivial⟩, hB87, (hS88.sel [1, 0] rfl), hF⟩
        ·
         rintro m98 a w92 ⟨y95, ha, hB93, hS94, hF⟩ KL97 hKL97
         refine W.at ?_ ha
         cases m98 with
         | zero => exact noneE hF
         | succ m98 =>
          obtain ⟨nx96, hnx96⟩ : ∃ k, k = F_spec_RankShows_L3 l53 y56 k71 x0 u74 m98 := ⟨_, rfl⟩
          rw [F_spec_RankShows_L3, ← hnx96] at hF
          refine W.seq fun K99 hK99 => W.seq fun K100 hK100 => ?_
          obtain ⟨k105, hk105, hF⟩ := jE1 hF
          have hJ106 : ∀ (y104 : Bool) (w101 : World) (_ : k105 y104 = some r) (_ : Below w0.heap.size w0 w101) (_ : Sep w0.heap.size w101 [R.own ty_3 F55 v54 l53, R.blk b81 53 [v77, v79, (.int .i64 u74.2.2.1), (.int .i64 u74.2.2.2)]]), ∀ a, St 62 [(0, v0_0), (6, v54), (7, (.int .i64 y56)), (8, (.pointer (some ⟨b81, 0, none⟩))), (9, (.int .i64 y95)), (23, v0_0), (24, (.int .i64 (List.length x0 : Int))), (25, (.int .i64 y56)), (46, (.bool y104))] a → K100 a w101 := by
           intro y104 w101 hF hB102 hS103
           subst hk105
           refine fun a ha => hK100 _ _ (W.cond rfl (fun h107 => ?_) (fun h107 => ?_)) a ha
           ·replace hF := ifP h107 hF
            refine W.skip fun a ha => hK99 _ _ (W.block (W.region (wl_move rfl rfl (wl_sub rfl rfl rfl (wl_assign rfl rfl (WL.nil ?_)))))) a ha
            rw [hnx96] at hF
            exact fun a ha => hKL97 a _ m98 (Nat.lt_succ_self m98) ⟨(w64 (y95 - 1)), ha.sub ⟨rfl, rfl, rfl, rfl, rfl, rfl, rfl, rfl, trivial⟩, hB102, (hS103.sel [0, 1] rfl), hF⟩
           ·replace hF := ifN h107 hF
            refine W.exit fun a ha => hK91 _ _ (W.regionH mixed_ [] hB102 hS103 ?_) a ha
            intro w108 hb109 hB110 hS111
            have hSW112 := KeepX.refl w108 []
            refine WH.tk 0 rfl hP hSW112 (pr_move rfl rfl (WH.tk 1 rfl hP hSW112 (pr_move rfl rfl ?_)))
            obtain ⟨u113, hu113, hF⟩ := bindE hF
            refine WH.tk 2 rfl hP hSW112 (pr_sliceof (e := ty_3) Try.underlying29 rfl rfl (hS111.ok (i := 0) rfl : ownS ty_3 _ _ _ _).rd hu113 (.inl ⟨rfl, rfl⟩) (.inr ⟨_, _, rfl, rfl⟩) ?_)
            intro v114 hv117 hs116
            have hv115 := hv117.mono fun b hb => ((hS111.get (i := 0) rfl).2.1 b hb).2
            refine WH.tk 4 rfl hP hSW112 (pr_move rfl rfl (WH.tk 7 rfl hP hSW112 (pr_move rfl rfl (WH.tk 8 rfl hP hSW112 (pr_move rfl rfl ?_)))))
            obtain ⟨u118, hu118, hF⟩ := bindE hF
            refine WH.tk 9 rfl hP hSW112 (pr_sliceof (e := ty_3) Try.underlying29 rfl rfl (hS111.ok (i := 0) rfl : ownS ty_3 _ _ _ _).rd hu118 (.inr ⟨_, _, rfl, rfl⟩) (.inl ⟨rfl, rfl⟩) ?_)
            intro v119 hv122 hs121
            have hv120 := hv122.mono fun b hb => ((hS111.get (i := 0) rfl).2.1 b hb).2
            refine WH.many (is := [3, 5]) (by kernel_rfl) rfl (List.forall_mem_cons.2 ⟨⟨_, rfl, ?_⟩, List.forall_mem_cons.2 ⟨⟨_, rfl, ?_⟩, fun _ h => by cases h⟩⟩)
            ·
             obtain ⟨u123, hu123, hF⟩ := bindE hF
             refine wl_call rfl Try.call216 (C_spec_l1Own w108 u113 v114 (hv115.ro (hSW112.below hB110 hB110)) _ hu123) rfl ?_
             rintro _ w126 ⟨v124, F125, rfl, hb127, hM130⟩
             refine ⟨_, rfl, ?_⟩
             have hB128 := hB110.trans (hb127.mono hB110.size)
             have hn131 : ∀ b ∈ F125, w108.heap.size ≤ b := fun b hb => Nat.le_trans hSW112.size ((hM130.get (i := 0) rfl).2.1 b hb).1
             have hS129 := hS111.join hb127 hM130 hB110.size
             have hSW132 := hSW112.ext hb127
             refine WL.nil (WH.ret hSW132 (WH.on1 5 rfl (wl_lit (vs := [(.int .i64 y56)]) (l := [y56]) fl_3 Try.underlying29 rfl rfl rfl rfl rfl rfl (Below.self w126) (Sep.nil _ _) ?_)))
             intro v133 F134 w135 hb136 hB139 hM140
             have hB137 := hB128.trans (hb136.mono hB128.size)
             have hS138 := hS129.join hb136 hM140 hB128.size
             have hSW142 := hSW132.ext hb136
             refine WL.nil (WH.ret hSW142 (WH.on1 6 rfl ?_))
             obtain ⟨u143, hu143, hF⟩ := bindE hF
             refine wl_append (i := 1) (S := (· < w135.heap.size)) fl_3 Try.underlying29 rfl rfl rfl hB137 hS138 rfl (hS138.own_ro (i := 0) rfl) hu143 ?_
             intro v144 F145 w146 hk147 hB148 hS149
             have hSW150 := hSW142.wr' hk147.1 hk147.2.1 (fun b hlt hb => absurd hlt (Nat.not_lt.2 (hn131 b hb)))
             have hn151 : ∀ b ∈ F145, w108.heap.size ≤ b := fun b hb => (hk147.2.2 b hb).elim (hn131 b) fun h => Nat.le_trans hSW142.size h
             refine WL.nil (WH.ret hSW150 (WH.on1 10 rfl ?_))
             obtain ⟨u152, hu152, hF⟩ := bindE hF
             refine wl_append (i := 1) (S := (· < w146.heap.size)) fl_3 Try.underlying29 rfl rfl rfl hB148 hS149 rfl (hv120.ro (hSW150.below hB110 hB148)) hu152 ?_
             intro v153 F154 w155 hk156 hB157 hS158
             have hSW159 := hSW150.wr' hk156.1 hk156.2.1 (fun b hlt hb => absurd hlt (Nat.not_lt.2 (hn151 b hb)))
             refine WL.nil (WH.ret hSW159 (WH.tk 11 rfl hP hSW159 (pr_assign rfl rfl (WH.done (by kernel_rfl) ?_))))
             have hv115 := hv115.ro (hSW159.below hB110 hB157)
             have hv120 := hv120.ro (hSW159.below hB110 hB157)
             exact fun a ha => hJ72 (u152) (v153) (F154) _ hF hB157 (hS158.sel [1] rfl) a (ha.sub ⟨rfl, rfl, rfl, rfl, rfl, trivial⟩)
            ·
             refine wl_lit (vs := [(.int .i64 y56)]) (l := [y56]) fl_3 Try.underlying29 rfl rfl rfl rfl rfl rfl (Below.self w108) (Sep.nil _ _) ?_
             intro v161 F162 w163 hb164 hB167 hM168
             have hB165 := hB110.trans (hb164.mono hB110.size)
             have hS166 := hS111.join hb164 hM168 hB110.size
             have hSW170 := hSW112.ext hb164
             refine WL.nil (WH.ret hSW170 (WH.on1 3 rfl ?_))
             obtain ⟨u171, hu171, hF⟩ := bindE hF
             refine wl_call rfl Try.call216 (C_spec_l1Own w163 u113 v114 (hv115.ro (hSW170.below hB110 hB165)) _ hu171) rfl ?_
             rintro _ w174 ⟨v172, F173, rfl, hb175, hM178⟩
             refine ⟨_, rfl, ?_⟩
             have hB176 := hB165.trans (hb175.mono hB165.size)
             have hn179 : ∀ b ∈ F173, w108.heap.size ≤ b := fun b hb => Nat.le_trans hSW170.size ((hM178.get (i := 0) rfl).2.1 b hb).1
             have hS177 := hS166.join hb175 hM178 hB165.size
             have hSW180 := hSW170.ext hb175
             refine WL.nil (WH.ret hSW180 (WH.on1 6 rfl ?_))
             obtain ⟨u181, hu181, hF⟩ := bindE hF
             refine wl_append (i := 0) (S := (· < w174.heap.size)) fl_3 Try.underlying29 rfl rfl rfl hB176 hS177 rfl (hS177.own_ro (i := 1) rfl) hu181 ?_
             intro v182 F183 w184 hk185 hB186 hS187
             have hSW188 := hSW180.wr' hk185.1 hk185.2.1 (fun b hlt hb => absurd hlt (Nat.not_lt.2 (hn179 b hb)))
             have hn189 : ∀ b ∈ F183, w108.heap.size ≤ b := fun b hb => (hk185.2.2 b hb).elim (hn179 b) fun h => Nat.le_trans hSW180.size h
             refine WL.nil (WH.ret hSW188 (WH.on1 10 rfl ?_))
             obtain ⟨u190, hu190, hF⟩ := bindE hF
             refine wl_append (i := 0) (S := (· < w184.heap.size)) fl_3 Try.underlying29 rfl rfl rfl hB186 hS187 rfl (hv120.ro (hSW188.below hB110 hB186)) hu190 ?_
             intro v191 F192 w193 hk194 hB195 hS196
             have hSW197 := hSW188.wr' hk194.1 hk194.2.1 (fun b hlt hb => absurd hlt (Nat.not_lt.2 (hn189 b hb)))
             refine WL.nil (WH.ret hSW197 (WH.tk 11 rfl hP hSW197 (pr_assign rfl rfl (WH.done (by kernel_rfl) ?_))))
             have hv115 := hv115.ro (hSW197.below hB110 hB195)
             have hv120 := hv120.ro (hSW197.below hB110 hB195)
             exact fun a ha => hJ72 (u190) (v191) (F192) _ hF hB195 (hS196.sel [0] rfl) a (ha.sub ⟨rfl, rfl, rfl, rfl, rfl, trivial⟩)
          refine W.regionH mixed_ [] hB93 hS94 ?_
          intro w199 hb200 hB201 hS202
          have hSW203 := KeepX.refl w199 []
          refine WH.tk 0 rfl hP hSW203 (pr_move rfl rfl (WH.tk 1 rfl hP hSW203 (pr_gtr rfl rfl rfl (WH.tk 2 rfl hP hSW203 (pr_move rfl rfl ?_)))))
          rcases bE (decide (0 < y95)) with h204 | h204
          ·replace hF := ifP h204 hF
           refine WH.takexg (i := 3) rfl (by kernel_rfl) (by kernel_rfl) (by kernel_rfl) hP rfl rfl h204 hSW203 (pr_load_blk (i := 1) (vs := [v77, v79, (.int .i64 u74.2.2.1), (.int .i64 u74.2.2.2)]) (v := (.agg #[v77, v79, (.int .i64 u74.2.2.1), (.int .i64 u74.2.2.2)])) tf_53 rfl rfl hS202 rfl rfl rfl (by simp) (WH.takexg (i := 4) rfl (by kernel_rfl) (by kernel_rfl) (by kernel_rfl) hP rfl rfl h204 hSW203 (pr_move rfl rfl (WH.takexg (i := 5) rfl (by kernel_rfl) (by kernel_rfl) (by kernel_rfl) hP rfl rfl h204 hSW203 (pr_move rfl rfl (WH.takexg (i := 6) rfl (by kernel_rfl) (by kernel_rfl) (by kernel_rfl) hP rfl rfl h204 hSW203 (pr_move rfl rfl (WH.takexg (i := 7) rfl (by kernel_rfl) (by kernel_rfl) (by kernel_rfl) hP rfl rfl h204 hSW203 (pr_sub rfl rfl rfl ?_)))))))))
           obtain ⟨u205, hu205, hF⟩ := bindE hF
           refine WH.takexg (i := 8) rfl (by kernel_rfl) (by kernel_rfl) (by kernel_rfl) hP rfl rfl h204 hSW203 (pr_indexo (e := ty_3) (i := 0) Try.underlying29 rfl rfl rfl hS202 rfl hu205 ?_)
           rintro p206 _ rfl hp207 ho208
           refine WH.takexg (i := 9) rfl (by kernel_rfl) (by kernel_rfl) (by kernel_rfl) hP rfl rfl h204 hSW203 (pr_load_p (vs := [(.int .i64 u205)]) (v := (.int .i64 u205)) tf_3 rfl rfl (hp207.kx0) rfl rfl ?_)
           obtain ⟨u209, hu209, hF⟩ := bindE hF
           refine WH.takexg (i := 10) rfl (by kernel_rfl) (by kernel_rfl) (by kernel_rfl) hP rfl rfl h204 hSW203 (pr_index (e := ty_53) Try.underlying121 rfl rfl rfl h0_0 hu209 ?_)
           rintro p210 _ ⟨_, _, rfl, ⟨v212, rfl, hv213⟩, ⟨_, _, rfl, ⟨v214, rfl, hv215⟩, ⟨_, _, rfl, rfl, rfl⟩⟩⟩ hp211
           refine WH.takexg (i := 11) rfl (by kernel_rfl) (by kernel_rfl) (by kernel_rfl) hP rfl rfl h204 hSW203 (pr_load_p (vs := [v212, v214, (.int .i64 u209.2.2.1), (.int .i64 u209.2.2.2)]) (v := (.agg #[v212, v214, (.int .i64 u209.2.2.1), (.int .i64 u209.2.2.2)])) tf_53 rfl rfl (hp211.kx hB201 (by simp)) rfl rfl (WH.on1 12 rfl (wl_on rfl rfl h204 ?_)))
           obtain ⟨u216, hu216, hF⟩ := bindE hF
           refine wl_call rfl Try.call212 (C_spec_cpCompare w199 u74 v77 (hv78.ro hB201) v79 (hv80.ro hB201) u209 v212 (hv213.ro hB201) v214 (hv215.ro hB201) _ hu216) rfl ?_
           rintro _ w217 ⟨rfl, hb218⟩
           refine ⟨_, rfl, ?_⟩
           have hB219 := hB201.trans (hb218.mono hB201.size)
           have hS220 := hS202.below hb218
           have hSW222 := hSW203.ext hb218
           refine WL.nil (WH.ret hSW222 (WH.takexg (i := 13) rfl (by kernel_rfl) (by kernel_rfl) (by kernel_rfl) hP rfl rfl h204 hSW222 (pr_lss rfl rfl rfl (WH.tk 14 rfl hP hSW222 (pr_pick_t rfl rfl h204 rfl (WH.done (by kernel_rfl) ?_))))))
           exact fun a ha => hJ106 ((decide (u216 < 0))) _ hF hB219 (hS220.sel [0, 1] rfl) a (ha.sub ⟨rfl, rfl, rfl, rfl, rfl, rfl, rfl, rfl, rfl, trivial⟩)
          ·replace hF := ifN h204 hF
           refine WH.off (i := 3) rfl (by kernel_rfl) (by kernel_rfl) (by kernel_rfl) hP rfl rfl h204 rfl hSW203 (WH.off (i := 4) rfl (by kernel_rfl) (by kernel_rfl) (by kernel_rfl) hP rfl rfl h204 rfl hSW203 (WH.off (i := 5) rfl (by kernel_rfl) (by kernel_rfl) (by kernel_rfl) hP rfl rfl h204 rfl hSW203 (WH.off (i := 6) rfl (by kernel_rfl) (by kernel_rfl) (by kernel_rfl) hP rfl rfl h204 rfl hSW203 (WH.off (i := 7) rfl (by kernel_rfl) (by kernel_rfl) (by kernel_rfl) hP rfl rfl h204 rfl hSW203 (WH.off (i := 8) rfl (by kernel_rfl) (by kernel_rfl) (by kernel_rfl) hP rfl rfl h204 rfl hSW203 (WH.off (i := 9) rfl (by kernel_rfl) (by kernel_rfl) (by kernel_rfl) hP rfl rfl h204 rfl hSW203 (WH.off (i := 10) rfl (by kernel_rfl) (by kernel_rfl) (by kernel_rfl) hP rfl rfl h204 rfl hSW203 (WH.off (i := 11) rfl (by kernel_rfl) (by kernel_rfl) (by kernel_rfl) hP rfl rfl h204 rfl hSW203 ?_))))))))
           refine WH.off (i := 12) rfl (by kernel_rfl) (by kernel_rfl) (by kernel_rfl) hP rfl rfl h204 rfl hSW203 (WH.off (i := 13) rfl (by kernel_rfl) (by kernel_rfl) (by kernel_rfl) hP rfl rfl h204 rfl hSW203 (WH.tk 14 rfl hP hSW203 (pr_pick_f rfl rfl h204 rfl (WH.done (by kernel_rfl) ?_))))
           exact fun a ha => hJ106 (false) _ hF hB201 (hS202.sel [0, 1] rfl) a (ha.sub ⟨rfl, rfl, rfl, rfl, rfl, rfl, rfl, rfl, rfl, trivial⟩)
       ·replace hF := ifN h63 hF
        refine W.exit fun a ha => hK48 _ _ (W.seq fun K223 hK223 => (W.region (wl_move rfl rfl (wl_assign rfl rfl (wl_assign rfl rfl (WL.nil (fun a ha => hK223 _ _ (W.ret ?_) a ha))))))) a ha
        have hr := Option.some.inj hF
        subst hr
        exact rets (vs := [v54, (.bool true)]) hQ rfl ⟨rv_tmp rfl, rv_tmp rfl, trivial⟩ ⟨v54, F55, rfl, hB51, hS52.sel [0] rfl⟩
end Go.Proofs.Ytmkignciedkidaa
