/-
  THE WALKS of functions of this seat, by program (gen.py).
-/
import Derived.Test.YthlfhcefeaehmaaH
import Derived.Test.YthlfhcefeaehmaaWFnExactBeatOnce
import Derived.Test.YthlfhcefeaehmaaWFnExactLeastToKeep
set_option linter.unusedSimpArgs false
set_option linter.unusedVariables false
set_option maxRecDepth 100000
namespace Go.Proofs.Ythlfhcefeaehmaa
open Go Go.RowKit
theorem C_spec_mnHas (w0 : World) (x0 : (((List (List (Int × Int))) × (List Int) × Int × Int) × Int × (List Int) × (List Int))) (v0_0 : Value) (h0_0 : rdS ty_70 (· < w0.heap.size) w0 v0_0 x0.1.1) (v0_1 : Value) (h0_1 : rdS ty_3 (· < w0.heap.size) w0 v0_1 x0.1.2.1) (v0_2 : Value) (h0_2 : rdS ty_3 (· < w0.heap.size) w0 v0_2 x0.2.2.1) (v0_3 : Value) (h0_3 : rdS ty_3 (· < w0.heap.size) w0 v0_3 x0.2.2.2) (x1 : Int) (r : Bool) (hF : F_spec_mnHas x0 x1 = some r) :
    Calls Try.prog 82 [(.agg #[v0_0, v0_1, (.int .i64 x0.1.2.2.1), (.int .i64 x0.1.2.2.2), (.int .i64 x0.2.1), v0_2, v0_3]), (.int .i64 x1)].toArray w0 fun e w' => e = .returned (.bool r) ∧ Below w0.heap.size w0 w' := by
  refine calls_mk' Try.func82 rfl Try.ntmps82 rfl rfl fun Q hQ hP => ?_
  have hB : Below w0.heap.size w0 w0 := Below.refl _ _
  have hS : Sep w0.heap.size w0 [] := Sep.nil _ _
  unfold F_spec_mnHas at hF
  refine W.seq fun K1 hK1 => ?_
  refine W.region ?_
  refine wl_box (cs := [v0_0, v0_1, (.int .i64 x0.1.2.2.1), (.int .i64 x0.1.2.2.2), (.int .i64 x0.2.1), v0_2, v0_3]) rfl rfl rfl hB hS ?_
  intro b2 w3 hb4 hB5 hS6
  refine wl_assign rfl rfl ?_
  refine WL.nil ?_
  refine fun a ha => hK1 _ _ ?_ a ha
  refine W.seq fun K7 hK7 => ?_
  obtain ⟨k12, hk12, hF⟩ := jE1 hF
  have hJ13 : ∀ (y11 : Bool) (w8 : World) (_ : k12 y11 = some r) (_ : Below w0.heap.size w0 w8) (_ : Sep w0.heap.size w8 []), ∀ a, St 15 [(4, (.bool y11))] a → K7 a w8 := by
    intro y11 w8 hF hB9 hS10
    subst hk12
    refine fun a ha => hK7 _ _ ?_ a ha
    refine W.ret ?_
    have hr := Option.some.inj hF
    subst hr
    exact rets (vs := [(.bool y11)]) hQ rfl ⟨rv_tmp rfl, trivial⟩ ⟨rfl, hB9⟩
  refine W.region ?_
  refine wl_load_blk (i := 0) (vs := [v0_0, v0_1, (.int .i64 x0.1.2.2.1), (.int .i64 x0.1.2.2.2), (.int .i64 x0.2.1), v0_2, v0_3]) (v := (.agg #[v0_0, v0_1, (.int .i64 x0.1.2.2.1), (.int .i64 x0.1.2.2.2), (.int .i64 x0.2.1), v0_2, v0_3])) tf_58 rfl rfl hS6 rfl rfl rfl ?_
  obtain ⟨u14, hu14, hF⟩ := bindE hF
  refine wl_call rfl Try.call95 (C_spec_mnGood w3 x0 v0_0 (h0_0.ro hB5) v0_1 (h0_1.ro hB5) v0_2 (h0_2.ro hB5) v0_3 (h0_3.ro hB5) _ hu14) rfl ?_
  rintro _ w15 ⟨rfl, hb16⟩
  refine ⟨_, rfl, ?_⟩
  have hB17 := hB5.trans (hb16.mono hB5.size)
  have hS18 := hS6.below hb16
  refine wl_move rfl rfl ?_
  rcases bE u14 with h20 | h20
  · replace hF := ifP h20 hF
    refine wl_on rfl rfl h20 ?_
    refine wl_move rfl rfl ?_
    refine wl_on rfl rfl h20 ?_
    refine wl_field (o := 6) (off' := 6) ff_58_3 rfl rfl rfl ?_
    refine wl_on rfl rfl h20 ?_
    refine wl_load_blk (i := 0) (vs := [v0_3]) (v := v0_3) tf_23 rfl rfl hS18 rfl rfl rfl ?_
    refine wl_on rfl rfl h20 ?_
    refine wl_lenr (e := ty_3) (l := x0.2.2.2) Try.underlying23 rfl rfl h0_3 ?_
    refine wl_on rfl rfl h20 ?_
    refine wl_sub rfl rfl rfl ?_
    refine wl_on rfl rfl h20 ?_
    obtain ⟨u21, hu21, hF⟩ := bindE hF
    refine wl_call rfl Try.call107 (C_spec_l1In w15 x1 0 (w64 ((List.length x0.2.2.2 : Int) - 1)) _ hu21) rfl ?_
    rintro _ w22 ⟨rfl, hb23⟩
    refine ⟨_, rfl, ?_⟩
    have hB24 := hB17.trans (hb23.mono hB17.size)
    have hS25 := hS18.below hb23
    refine wl_pick_t rfl rfl h20 rfl ?_
    refine wl_assign rfl rfl ?_
    refine WL.nil ?_
    exact fun a ha => hJ13 (u21) _ hF hB24 (hS25.sel [] rfl) a (ha.sub ⟨rfl, trivial⟩)
  · replace hF := ifN h20 hF
    refine wl_off rfl rfl rfl h20 ?_
    refine wl_off rfl rfl rfl h20 ?_
    refine wl_off rfl rfl rfl h20 ?_
    refine wl_off rfl rfl rfl h20 ?_
    refine wl_off rfl rfl rfl h20 ?_
    refine wl_off rfl rfl rfl h20 ?_
    refine wl_pick_f rfl rfl h20 rfl ?_
    refine wl_assign rfl rfl ?_
    refine WL.nil ?_
    exact fun a ha => hJ13 (false) _ hF hB17 (hS18.sel [] rfl) a (ha.sub ⟨rfl, trivial⟩)
theorem C_spec_shOf (w0 : World) (x0 : (List (List (Int × Int)))) (v0_0 : Value) (h0_0 : rdS ty_70 (· < w0.heap.size) w0 v0_0 x0) (x1 : (List Int)) (v1_0 : Value) (h1_0 : rdS ty_3 (· < w0.heap.size) w0 v1_0 x1) (x2 : Int) (r : (Int × (Int × Int) × (List (Int × (Int × Int))))) (hF : F_spec_shOf x0 x1 x2 = some r) :
    Calls Try.prog 100 [v0_0, v1_0, (.int .i64 x2)].toArray w0 fun e w' => ∃ (q0 : Value) (G0 : List Nat), e = .returned (.agg #[(.int .i64 r.1), (.int .i64 r.2.1.1), (.int .i64 r.2.1.2), q0]) ∧ Below w0.heap.size w0 w' ∧ Sep w0.heap.size w' [R.own ty_141 G0 q0 r.2.2] := by
  refine calls_mk' Try.func100 rfl Try.ntmps100 rfl rfl fun Q hQ hP => ?_
  have hB : Below w0.heap.size w0 w0 := Below.refl _ _
  have hS : Sep w0.heap.size w0 [] := Sep.nil _ _
  unfold F_spec_shOf at hF
  refine W.seq fun K1 hK1 => ?_
  refine W.region ?_
  refine wl_alloc (cs := [(.int .i64 0), (.int .i64 0), (.int .i64 0), (.slice none 0 0)]) tf_114 rfl rfl hB hS ?_
  intro b2 w3 hb4 hB5 hS6
  refine WL.nil ?_
  refine fun a ha => hK1 _ _ ?_ a ha
  refine W.seq fun K7 hK7 => ?_
  refine W.region ?_
  refine wl_move rfl rfl ?_
  refine wl_move rfl rfl ?_
  obtain ⟨u8, hu8, hF⟩ := bindE hF
  refine wl_index (e := ty_70) Try.underlying29 rfl rfl rfl h0_0 hu8 ?_
  rintro p9 _ ⟨v11, rfl, hv12⟩ hp10
  refine wl_load_p (vs := [v11]) (v := v11) tf_70 rfl rfl (hp10.ro hB5) rfl rfl ?_
  refine wl_move rfl rfl ?_
  obtain ⟨u13, hu13, hF⟩ := bindE hF
  refine wl_index (e := ty_54) Try.underlying70 rfl rfl rfl hv12 hu13 ?_
  rintro p14 _ rfl hp15
  refine wl_load_p (vs := [(.int .i64 u13.1), (.int .i64 u13.2)]) (v := (.agg #[(.int .i64 u13.1), (.int .i64 u13.2)])) tf_54 rfl rfl (hp15.ro hB5) rfl rfl ?_
  refine wl_build (zs := [(.int .i64 0), (.int .i64 0), (.int .i64 0), (.slice none 0 0)]) (out := [(.int .i64 x2), (.int .i64 u13.1), (.int .i64 u13.2), (.slice none 0 0)]) (vs := [(.int .i64 x2), (.agg #[(.int .i64 u13.1), (.int .i64 u13.2)])]) (css := [[(.int .i64 x2)], [(.int .i64 u13.1), (.int .i64 u13.2)]]) tf_114 pl_114 rfl rfl rfl rfl rfl ?_
  refine wl_alloc (cs := [(.int .i64 0), (.int .i64 0), (.int .i64 0), (.slice none 0 0)]) tf_114 rfl rfl hB5 hS6 ?_
  intro b16 w17 hb18 hB19 hS20
  refine wl_store_blk (i := 0) (vs := [(.int .i64 x2), (.int .i64 u13.1), (.int .i64 u13.2), (.slice none 0 0)]) (cs' := [(.int .i64 x2), (.int .i64 u13.1), (.int .i64 u13.2), (.slice none 0 0)]) tf_114 rfl rfl rfl rfl hB19 hS20 rfl rfl ⟨rfl, rfl, rfl, rfl, trivial⟩ rfl ?_
  intro w21 hk24 hB22 hS23
  refine WL.nil ?_
  refine fun a ha => hK7 _ _ ?_ a ha
  refine W.seq fun K25 hK25 => ?_
  refine W.seq fun K26 hK26 => ?_
  refine W.region ?_
  refine wl_move rfl rfl ?_
  refine wl_lenr (e := ty_3) (l := x1) Try.underlying23 rfl rfl h1_0 ?_
  refine wl_move rfl rfl ?_
  refine WL.nil ?_
  refine fun a ha => hK26 _ _ ?_ a ha
  refine W.block ?_
  refine W.loopk (fun m a w27 => ∃ (l30 : (List (Int × (Int × Int)))) (y33 : Int) (v31 : Value) (F32 : List Nat), St 42 [(0, v0_0), (2, (.int .i64 x2)), (6, (.pointer (some ⟨b2, 0, none⟩))), (7, (.pointer (some ⟨b16, 0, none⟩))), (18, v1_0), (19, (.int .i64 (List.length x1 : Int))), (20, (.int .i64 y33))] a ∧ Below w0.heap.size w0 w27 ∧ Sep w0.heap.size w27 [R.blk b2 114 [(.int .i64 0), (.int .i64 0), (.int .i64 0), (.slice none 0 0)], R.own ty_141 F32 v31 l30, R.blk b16 114 [(.int .i64 x2), (.int .i64 u13.1), (.int .i64 u13.2), v31]] ∧ F_spec_shOf_L1 x1 x0 x2 u13 m l30 y33 = some r) FU ?_ ?_
  ·
    have hS35 := hS23.push0 (r := R.own ty_141 [] (.slice none 0 0) []) rfl fun _ => .inl ⟨rfl, rfl, rfl⟩
    exact fun a ha => ⟨[], 0, (.slice none 0 0), [], ha.sub ⟨rfl, rfl, rfl, rfl, rfl, rfl, rfl, trivial⟩, hB22, (hS35.sel [2, 0, 1] rfl), hF⟩
  ·
    rintro m37 a w27 ⟨l30, y33, v31, F32, ha, hB28, hS29, hF⟩ KL36 hKL36
    refine W.at ?_ ha
    cases m37 with
    | zero => exact noneE hF
    | succ m37 =>
      obtain ⟨nx34, hnx34⟩ : ∃ k, k = F_spec_shOf_L1 x1 x0 x2 u13 m37 := ⟨_, rfl⟩
      rw [F_spec_shOf_L1, ← hnx34] at hF
      refine W.seq fun K38 hK38 => ?_
      refine W.region ?_
      refine wl_lss rfl rfl rfl ?_
      refine WL.nil ?_
      refine fun a ha => hK38 _ _ ?_ a ha
      refine W.seq fun K39 hK39 => ?_
      refine W.cond rfl (fun h40 => ?_) (fun h40 => ?_)
      · replace hF := ifP h40 hF
        refine W.skip ?_
        refine fun a ha => hK39 _ _ ?_ a ha
        refine W.seq fun K41 hK41 => ?_
        obtain ⟨k48, hk48, hF⟩ := jE1 hF
        have hJ49 : ∀ (l45 : (List (Int × (Int × Int)))) (v46 : Value) (F47 : List Nat) (w42 : World) (_ : k48 l45 = some r) (_ : Below w0.heap.size w0 w42) (_ : Sep w0.heap.size w42 [R.blk b2 114 [(.int .i64 0), (.int .i64 0), (.int .i64 0), (.slice none 0 0)], R.own ty_141 F47 v46 l45, R.blk b16 114 [(.int .i64 x2), (.int .i64 u13.1), (.int .i64 u13.2), v46]]), ∀ a, St 42 [(0, v0_0), (2, (.int .i64 x2)), (6, (.pointer (some ⟨b2, 0, none⟩))), (7, (.pointer (some ⟨b16, 0, none⟩))), (18, v1_0), (19, (.int .i64 (List.length x1 : Int))), (20, (.int .i64 y33))] a → K41 a w42 := by
          intro l45 v46 F47 w42 hF hB43 hS44
          subst hk48
          refine fun a ha => hK41 _ _ ?_ a ha
          refine W.region ?_
          refine wl_add rfl rfl rfl ?_
          refine wl_move rfl rfl ?_
          refine WL.nil ?_
          rw [hnx34] at hF
          exact fun a ha => hKL36 a _ m37 (Nat.lt_succ_self m37) ⟨l45, (w64 (y33 + 1)), v46, F47, ha.sub ⟨rfl, rfl, rfl, rfl, rfl, rfl, rfl, trivial⟩, hB43, (hS44.sel [0, 1, 2] rfl), hF⟩
        refine W.block ?_
        refine W.seq fun K50 hK50 => ?_
        refine W.region ?_
        refine wl_move rfl rfl ?_
        obtain ⟨u51, hu51, hF⟩ := bindE hF
        refine wl_index (e := ty_3) Try.underlying23 rfl rfl rfl h1_0 hu51 ?_
        rintro p52 _ rfl hp53
        refine wl_load_p (vs := [(.int .i64 u51)]) (v := (.int .i64 u51)) tf_3 rfl rfl (hp53.ro hB28) rfl rfl ?_
        refine wl_assign rfl rfl ?_
        refine wl_assign rfl rfl ?_
        refine WL.nil ?_
        refine fun a ha => hK50 _ _ ?_ a ha
        refine W.regionH mixed_ (F32 ++ [b16]) hB28 hS29 ?_
        intro w54 hb55 hB56 hS57
        have hSW58 := KeepX.refl w54 (F32 ++ [b16])
        refine WH.takex (i := 0) rfl (by kernel_rfl) (by kernel_rfl) (by kernel_rfl) hP hSW58 ?_
        refine pr_field (o := 3) (off' := 3) ff_114_2 rfl rfl rfl ?_
        refine WH.takex (i := 2) rfl (by kernel_rfl) (by kernel_rfl) (by kernel_rfl) hP hSW58 ?_
        refine pr_move rfl rfl ?_
        refine WH.takex (i := 3) rfl (by kernel_rfl) (by kernel_rfl) (by kernel_rfl) hP hSW58 ?_
        refine pr_move rfl rfl ?_
        refine WH.takex (i := 4) rfl (by kernel_rfl) (by kernel_rfl) (by kernel_rfl) hP hSW58 ?_
        refine pr_move rfl rfl ?_
        refine WH.takex (i := 5) rfl (by kernel_rfl) (by kernel_rfl) (by kernel_rfl) hP hSW58 ?_
        refine pr_add rfl rfl rfl ?_
        obtain ⟨u59, hu59, hF⟩ := bindE hF
        refine WH.takex (i := 6) rfl (by kernel_rfl) (by kernel_rfl) (by kernel_rfl) hP hSW58 ?_
        refine pr_index (e := ty_70) Try.underlying29 rfl rfl rfl h0_0 hu59 ?_
        rintro p60 _ ⟨v62, rfl, hv63⟩ hp61
        refine WH.takex (i := 7) rfl (by kernel_rfl) (by kernel_rfl) (by kernel_rfl) hP hSW58 ?_
        refine pr_load_p (vs := [v62]) (v := v62) tf_70 rfl rfl (hp61.kx hB56 (fun b hb => ((List.mem_append.1 hb).elim (fun hb => (((hS57.get (i := 1) rfl).2.1 b hb).1)) (fun hb => (((hS57.get (i := 2) rfl).2.1 b hb).1))))) rfl rfl ?_
        refine WH.takex (i := 8) rfl (by kernel_rfl) (by kernel_rfl) (by kernel_rfl) hP hSW58 ?_
        refine pr_move rfl rfl ?_
        obtain ⟨u64, hu64, hF⟩ := bindE hF
        refine WH.takex (i := 9) rfl (by kernel_rfl) (by kernel_rfl) (by kernel_rfl) hP hSW58 ?_
        refine pr_index (e := ty_54) Try.underlying70 rfl rfl rfl hv63 hu64 ?_
        rintro p65 _ rfl hp66
        refine WH.takex (i := 10) rfl (by kernel_rfl) (by kernel_rfl) (by kernel_rfl) hP hSW58 ?_
        refine pr_load_p (vs := [(.int .i64 u64.1), (.int .i64 u64.2)]) (v := (.agg #[(.int .i64 u64.1), (.int .i64 u64.2)])) tf_54 rfl rfl (hp66.kx hB56 (fun b hb => ((List.mem_append.1 hb).elim (fun hb => (((hS57.get (i := 1) rfl).2.1 b hb).1)) (fun hb => (((hS57.get (i := 2) rfl).2.1 b hb).1))))) rfl rfl ?_
        refine WH.takex (i := 11) rfl (by kernel_rfl) (by kernel_rfl) (by kernel_rfl) hP hSW58 ?_
        refine pr_build (zs := [(.int .i64 0), (.int .i64 0), (.int .i64 0)]) (out := [(.int .i64 u51), (.int .i64 u64.1), (.int .i64 u64.2)]) (vs := [(.int .i64 u51), (.agg #[(.int .i64 u64.1), (.int .i64 u64.2)])]) (css := [[(.int .i64 u51)], [(.int .i64 u64.1), (.int .i64 u64.2)]]) tf_141 pl_141 rfl rfl rfl rfl rfl ?_
        refine WH.many (is := [1, 12]) (by kernel_rfl) rfl ?_
        refine List.forall_mem_cons.2 ⟨⟨_, rfl, ?_⟩, List.forall_mem_cons.2 ⟨⟨_, rfl, ?_⟩, fun _ h => by cases h⟩⟩
        ·
          refine wl_load_blk (i := 2) (vs := [v31]) (v := v31) tf_112 rfl rfl hS57 rfl rfl rfl ?_
          refine WL.nil (WH.ret hSW58 ?_)
          refine WH.one (i := 12) (by kernel_rfl) rfl ?_
          refine wl_lit (vs := [(.agg #[(.int .i64 u51), (.int .i64 u64.1), (.int .i64 u64.2)])]) (l := [(u51, u64)]) fl_141 Try.underlying112 rfl rfl rfl rfl rfl rfl (Below.self w54) (Sep.nil _ _) ?_
          intro v67 F68 w69 hb70 hB73 hM74
          have hB71 := hB56.trans (hb70.mono hB56.size)
          have hS72 := hS57.join hb70 hM74 hB56.size
          have hn75 : ∀ b ∈ F68, w54.heap.size ≤ b := fun b hb => Nat.le_trans hSW58.size ((hM74.1 _ (List.mem_cons_self ..)).2.1 b hb).1
          have hSW76 := hSW58.ext hb70
          have hbS77 : Below w54.heap.size w54 w69 := hb70
          refine WL.nil (WH.ret hSW76 ?_)
          refine WH.one (i := 13) (by kernel_rfl) rfl ?_
          obtain ⟨u78, hu78, hF⟩ := bindE hF
          refine wl_append (i := 2) (S := (· < w69.heap.size)) fl_141 Try.underlying112 rfl rfl rfl hB71 hS72 rfl (hS72.own_ro (i := 0) rfl) hu78 ?_
          intro v79 F80 w81 hk82 hB83 hS84
          have hSW85 := hSW76.wr' hk82.1 hk82.2.1 (fun _ _ h => List.mem_append_left _ (h))
          refine WL.nil (WH.ret hSW85 ?_)
          refine WH.takex (i := 14) rfl (by kernel_rfl) (by kernel_rfl) (by kernel_rfl) hP hSW85 ?_
          refine pr_field (o := 3) (off' := 3) ff_114_2 rfl rfl rfl ?_
          refine WH.one (i := 15) (by kernel_rfl) rfl ?_
          refine wl_store_blk (i := 3) (vs := [v79]) (cs' := [(.int .i64 x2), (.int .i64 u13.1), (.int .i64 u13.2), v79]) tf_112 rfl rfl (cells_one (hS84.own_ro (i := 2) rfl).one) rfl hB83 hS84 rfl rfl ⟨(hS84.own_ro (i := 2) rfl).one, trivial⟩ rfl ?_
          intro w86 hk89 hB87 hS88
          have hSW90 := hSW85.wr' hk89.1 hk89.2.1 (fun _ _ h => List.mem_append_right _ h)
          refine WL.nil (WH.ret hSW90 ?_)
          refine WH.done (by kernel_rfl) ?_
          exact fun a ha => hJ49 (u78) (v79) (F80) _ hF hB87 (hS88.sel [1, 2, 3] rfl) a (ha.sub ⟨rfl, rfl, rfl, rfl, rfl, rfl, rfl, trivial⟩)
        ·
          refine wl_lit (vs := [(.agg #[(.int .i64 u51), (.int .i64 u64.1), (.int .i64 u64.2)])]) (l := [(u51, u64)]) fl_141 Try.underlying112 rfl rfl rfl rfl rfl rfl (Below.self w54) (Sep.nil _ _) ?_
          intro v91 F92 w93 hb94 hB97 hM98
          have hB95 := hB56.trans (hb94.mono hB56.size)
          have hS96 := hS57.join hb94 hM98 hB56.size
          have hn99 : ∀ b ∈ F92, w54.heap.size ≤ b := fun b hb => Nat.le_trans hSW58.size ((hM98.1 _ (List.mem_cons_self ..)).2.1 b hb).1
          have hSW100 := hSW58.ext hb94
          have hbS101 : Below w54.heap.size w54 w93 := hb94
          refine WL.nil (WH.ret hSW100 ?_)
          refine WH.one (i := 1) (by kernel_rfl) rfl ?_
          refine wl_load_blk (i := 3) (vs := [v31]) (v := v31) tf_112 rfl rfl hS96 rfl rfl rfl ?_
          refine WL.nil (WH.ret hSW100 ?_)
          refine WH.one (i := 13) (by kernel_rfl) rfl ?_
          obtain ⟨u102, hu102, hF⟩ := bindE hF
          refine wl_append (i := 2) (S := (· < w93.heap.size)) fl_141 Try.underlying112 rfl rfl rfl hB95 hS96 rfl (hS96.own_ro (i := 0) rfl) hu102 ?_
          intro v103 F104 w105 hk106 hB107 hS108
          have hSW109 := hSW100.wr' hk106.1 hk106.2.1 (fun _ _ h => List.mem_append_left _ (h))
          refine WL.nil (WH.ret hSW109 ?_)
          refine WH.takex (i := 14) rfl (by kernel_rfl) (by kernel_rfl) (by kernel_rfl) hP hSW109 ?_
          refine pr_field (o := 3) (off' := 3) ff_114_2 rfl rfl rfl ?_
          refine WH.one (i := 15) (by kernel_rfl) rfl ?_
          refine wl_store_blk (i := 3) (vs := [v103]) (cs' := [(.int .i64 x2), (.int .i64 u13.1), (.int .i64 u13.2), v103]) tf_112 rfl rfl (cells_one (hS108.own_ro (i := 2) rfl).one) rfl hB107 hS108 rfl rfl ⟨(hS108.own_ro (i := 2) rfl).one, trivial⟩ rfl ?_
          intro w110 hk113 hB111 hS112
          have hSW114 := hSW109.wr' hk113.1 hk113.2.1 (fun _ _ h => List.mem_append_right _ h)
          refine WL.nil (WH.ret hSW114 ?_)
          refine WH.done (by kernel_rfl) ?_
          exact fun a ha => hJ49 (u102) (v103) (F104) _ hF hB111 (hS112.sel [1, 2, 3] rfl) a (ha.sub ⟨rfl, rfl, rfl, rfl, rfl, rfl, rfl, trivial⟩)
      · replace hF := ifN h40 hF
        refine W.exit ?_
        refine fun a ha => hK25 _ _ ?_ a ha
        refine W.seq fun K115 hK115 => ?_
        refine W.region ?_
        refine wl_load_blk (i := 2) (vs := [(.int .i64 x2), (.int .i64 u13.1), (.int .i64 u13.2), v31]) (v := (.agg #[(.int .i64 x2), (.int .i64 u13.1), (.int .i64 u13.2), v31])) tf_114 rfl rfl hS29 rfl rfl rfl ?_
        refine wl_store_blk (i := 0) (vs := [(.int .i64 x2), (.int .i64 u13.1), (.int .i64 u13.2), v31]) (cs' := [(.int .i64 x2), (.int .i64 u13.1), (.int .i64 u13.2), v31]) tf_114 rfl rfl rfl rfl hB28 hS29 rfl rfl ⟨rfl, rfl, rfl, (hS29.own_ro (i := 1) rfl).one, trivial⟩ rfl ?_
        intro w116 hk119 hB117 hS118
        refine WL.nil ?_
        refine fun a ha => hK115 _ _ ?_ a ha
        refine W.ret ?_
        have hr := Option.some.inj hF
        subst hr
        exact rets (vs := [(.agg #[(.int .i64 x2), (.int .i64 u13.1), (.int .i64 u13.2), v31])]) hQ rfl ⟨rv_cell (i := 0) tf_114 rfl hS118 rfl rfl rfl, trivial⟩ ⟨v31, F32, rfl, hB117, hS118.sel [1] rfl⟩
theorem C_spec_swTotal (w0 : World) (x0 : ((List (List (Int × Int))) × (List Int) × Int × Int)) (v0_0 : Value) (h0_0 : rdS ty_70 (· < w0.heap.size) w0 v0_0 x0.1) (v0_1 : Value) (h0_1 : rdS ty_3 (· < w0.heap.size) w0 v0_1 x0.2.1) (r : Int) (hF : F_spec_swTotal x0 = some r) :
    Calls Try.prog 135 [(.agg #[v0_0, v0_1, (.int .i64 x0.2.2.1), (.int .i64 x0.2.2.2)])].toArray w0 fun e w' => e = .returned (.int .i64 r) ∧ Below w0.heap.size w0 w' := by
  refine calls_mk' Try.func135 rfl Try.ntmps135 rfl rfl fun Q hQ hP => ?_
  have hB : Below w0.heap.size w0 w0 := Below.refl _ _
  have hS : Sep w0.heap.size w0 [] := Sep.nil _ _
  unfold F_spec_swTotal at hF
  refine W.seq fun K1 hK1 => ?_
  refine W.region ?_
  refine wl_box (cs := [v0_0, v0_1, (.int .i64 x0.2.2.1), (.int .i64 x0.2.2.2)]) rfl rfl rfl hB hS ?_
  intro b2 w3 hb4 hB5 hS6
  refine wl_assign rfl rfl ?_
  refine WL.nil ?_
  refine fun a ha => hK1 _ _ ?_ a ha
  refine W.seq fun K7 hK7 => ?_
  refine W.region ?_
  refine wl_assign rfl rfl ?_
  refine WL.nil ?_
  refine fun a ha => hK7 _ _ ?_ a ha
  refine W.seq fun K8 hK8 => ?_
  refine W.seq fun K9 hK9 => ?_
  refine W.region ?_
  refine wl_field (o := 1) (off' := 1) ff_31_1 rfl rfl rfl ?_
  refine wl_load_blk (i := 0) (vs := [v0_1]) (v := v0_1) tf_23 rfl rfl hS6 rfl rfl rfl ?_
  refine wl_lenr (e := ty_3) (l := x0.2.1) Try.underlying23 rfl rfl h0_1 ?_
  refine wl_move rfl rfl ?_
  refine WL.nil ?_
  refine fun a ha => hK9 _ _ ?_ a ha
  refine W.block ?_
  refine W.loopk (fun m a w10 => ∃ (y13 : Int) (y14 : Int), St 18 [(3, (.int .i64 y13)), (7, v0_1), (8, (.int .i64 (List.length x0.2.1 : Int))), (9, (.int .i64 y14))] a ∧ Below w0.heap.size w0 w10 ∧ Sep w0.heap.size w10 [] ∧ F_spec_swTotal_L1 x0 m y13 y14 = some r) FU ?_ ?_
  ·
    exact fun a ha => ⟨0, 0, ha.sub ⟨rfl, rfl, rfl, rfl, trivial⟩, hB5, (hS6.sel [] rfl), hF⟩
  ·
    rintro m17 a w10 ⟨y13, y14, ha, hB11, hS12, hF⟩ KL16 hKL16
    refine W.at ?_ ha
    cases m17 with
    | zero => exact noneE hF
    | succ m17 =>
      obtain ⟨nx15, hnx15⟩ : ∃ k, k = F_spec_swTotal_L1 x0 m17 := ⟨_, rfl⟩
      rw [F_spec_swTotal_L1, ← hnx15] at hF
      refine W.seq fun K18 hK18 => ?_
      refine W.region ?_
      refine wl_lss rfl rfl rfl ?_
      refine WL.nil ?_
      refine fun a ha => hK18 _ _ ?_ a ha
      refine W.seq fun K19 hK19 => ?_
      refine W.cond rfl (fun h20 => ?_) (fun h20 => ?_)
      · replace hF := ifP h20 hF
        refine W.skip ?_
        refine fun a ha => hK19 _ _ ?_ a ha
        refine W.seq fun K21 hK21 => ?_
        refine W.block ?_
        refine W.seq fun K22 hK22 => ?_
        refine W.region ?_
        obtain ⟨u23, hu23, hF⟩ := bindE hF
        refine wl_index (e := ty_3) Try.underlying23 rfl rfl rfl h0_1 hu23 ?_
        rintro p24 _ rfl hp25
        refine wl_load_p (vs := [(.int .i64 u23)]) (v := (.int .i64 u23)) tf_3 rfl rfl (hp25.ro hB11) rfl rfl ?_
        refine wl_assign rfl rfl ?_
        refine WL.nil ?_
        refine fun a ha => hK22 _ _ ?_ a ha
        refine W.region ?_
        refine wl_move rfl rfl ?_
        refine wl_move rfl rfl ?_
        refine wl_add rfl rfl rfl ?_
        refine wl_assign rfl rfl ?_
        refine WL.nil ?_
        refine fun a ha => hK21 _ _ ?_ a ha
        refine W.region ?_
        refine wl_add rfl rfl rfl ?_
        refine wl_move rfl rfl ?_
        refine WL.nil ?_
        rw [hnx15] at hF
        exact fun a ha => hKL16 a _ m17 (Nat.lt_succ_self m17) ⟨(w64 (y13 + u23)), (w64 (y14 + 1)), ha.sub ⟨rfl, rfl, rfl, rfl, trivial⟩, hB11, (hS12.sel [] rfl), hF⟩
      · replace hF := ifN h20 hF
        refine W.exit ?_
        refine fun a ha => hK8 _ _ ?_ a ha
        refine W.seq fun K26 hK26 => ?_
        refine W.region ?_
        refine wl_move rfl rfl ?_
        refine wl_assign rfl rfl ?_
        refine WL.nil ?_
        refine fun a ha => hK26 _ _ ?_ a ha
        refine W.ret ?_
        have hr := Option.some.inj hF
        subst hr
        exact rets (vs := [(.int .i64 y13)]) hQ rfl ⟨rv_tmp rfl, trivial⟩ ⟨rfl, hB11⟩
theorem C_spec_mnCount (w0 : World) (x0 : (((List (List (Int × Int))) × (List Int) × Int × Int) × Int × (List Int) × (List Int))) (v0_0 : Value) (h0_0 : rdS ty_70 (· < w0.heap.size) w0 v0_0 x0.1.1) (v0_1 : Value) (h0_1 : rdS ty_3 (· < w0.heap.size) w0 v0_1 x0.1.2.1) (v0_2 : Value) (h0_2 : rdS ty_3 (· < w0.heap.size) w0 v0_2 x0.2.2.1) (v0_3 : Value) (h0_3 : rdS ty_3 (· < w0.heap.size) w0 v0_3 x0.2.2.2) (x1 : Int) (r : Int) (hF : F_spec_mnCount x0 x1 = some r) :
    Calls Try.prog 126 [(.agg #[v0_0, v0_1, (.int .i64 x0.1.2.2.1), (.int .i64 x0.1.2.2.2), (.int .i64 x0.2.1), v0_2, v0_3]), (.int .i64 x1)].toArray w0 fun e w' => e = .returned (.int .i64 r) ∧ Below w0.heap.size w0 w' := by
  refine calls_mk' Try.func126 rfl Try.ntmps126 rfl rfl fun Q hQ hP => ?_
  have hB : Below w0.heap.size w0 w0 := Below.refl _ _
  have hS : Sep w0.heap.size w0 [] := Sep.nil _ _
  unfold F_spec_mnCount at hF
  refine W.seq fun K1 hK1 => ?_
  refine W.region ?_
  refine wl_box (cs := [v0_0, v0_1, (.int .i64 x0.1.2.2.1), (.int .i64 x0.1.2.2.2), (.int .i64 x0.2.1), v0_2, v0_3]) rfl rfl rfl hB hS ?_
  intro b2 w3 hb4 hB5 hS6
  refine wl_assign rfl rfl ?_
  refine WL.nil ?_
  refine fun a ha => hK1 _ _ ?_ a ha
  refine W.seq fun K7 hK7 => ?_
  refine W.regionH mixed_ [] hB5 hS6 ?_
  intro w8 hb9 hB10 hS11
  have hSW12 := KeepX.refl w8 []
  refine WH.takex (i := 0) rfl (by kernel_rfl) (by kernel_rfl) (by kernel_rfl) hP hSW12 ?_
  refine pr_field (o := 0) (off' := 0) ff_58_0 rfl rfl rfl ?_
  refine WH.takex (i := 1) rfl (by kernel_rfl) (by kernel_rfl) (by kernel_rfl) hP hSW12 ?_
  refine pr_load_blk (i := 0) (vs := [v0_0, v0_1, (.int .i64 x0.1.2.2.1), (.int .i64 x0.1.2.2.2)]) (v := (.agg #[v0_0, v0_1, (.int .i64 x0.1.2.2.1), (.int .i64 x0.1.2.2.2)])) tf_31 rfl rfl hS11 rfl rfl rfl (by simp) ?_
  refine WH.takex (i := 3) rfl (by kernel_rfl) (by kernel_rfl) (by kernel_rfl) hP hSW12 ?_
  refine pr_field (o := 4) (off' := 4) ff_58_1 rfl rfl rfl ?_
  refine WH.takex (i := 4) rfl (by kernel_rfl) (by kernel_rfl) (by kernel_rfl) hP hSW12 ?_
  refine pr_load_blk (i := 0) (vs := [(.int .i64 x0.2.1)]) (v := (.int .i64 x0.2.1)) tf_3 rfl rfl hS11 rfl rfl rfl (by simp) ?_
  refine WH.takex (i := 5) rfl (by kernel_rfl) (by kernel_rfl) (by kernel_rfl) hP hSW12 ?_
  refine pr_field (o := 6) (off' := 6) ff_58_3 rfl rfl rfl ?_
  refine WH.takex (i := 6) rfl (by kernel_rfl) (by kernel_rfl) (by kernel_rfl) hP hSW12 ?_
  refine pr_load_blk (i := 0) (vs := [v0_3]) (v := v0_3) tf_23 rfl rfl hS11 rfl rfl rfl (by simp) ?_
  refine WH.takex (i := 7) rfl (by kernel_rfl) (by kernel_rfl) (by kernel_rfl) hP hSW12 ?_
  refine pr_move rfl rfl ?_
  obtain ⟨u13, hu13, hF⟩ := bindE hF
  refine WH.takex (i := 8) rfl (by kernel_rfl) (by kernel_rfl) (by kernel_rfl) hP hSW12 ?_
  refine pr_index (e := ty_3) Try.underlying23 rfl rfl rfl h0_3 hu13 ?_
  rintro p14 _ rfl hp15
  refine WH.takex (i := 9) rfl (by kernel_rfl) (by kernel_rfl) (by kernel_rfl) hP hSW12 ?_
  refine pr_load_p (vs := [(.int .i64 u13)]) (v := (.int .i64 u13)) tf_3 rfl rfl (hp15.kx hB10 (by simp)) rfl rfl ?_
  refine WH.takex (i := 10) rfl (by kernel_rfl) (by kernel_rfl) (by kernel_rfl) hP hSW12 ?_
  refine pr_sub rfl rfl rfl ?_
  refine WH.one (i := 2) (by kernel_rfl) rfl ?_
  obtain ⟨u16, hu16, hF⟩ := bindE hF
  refine wl_call rfl Try.call135 (C_spec_swTotal w8 x0.1 v0_0 (h0_0.ro hB10) v0_1 (h0_1.ro hB10) _ hu16) rfl ?_
  rintro _ w17 ⟨rfl, hb18⟩
  refine ⟨_, rfl, ?_⟩
  have hB19 := hB10.trans (hb18.mono hB10.size)
  have hS20 := hS11.below hb18
  have hSW22 := hSW12.ext hb18
  refine WL.nil (WH.ret hSW22 ?_)
  refine WH.one (i := 11) (by kernel_rfl) rfl ?_
  obtain ⟨u23, hu23, hF⟩ := bindE hF
  refine wl_call rfl Try.call152 (C_spec_l1Least w17 u16 (w64 (x0.2.1 - u13)) _ hu23) rfl ?_
  rintro _ w24 ⟨rfl, hb25⟩
  refine ⟨_, rfl, ?_⟩
  have hB26 := hB19.trans (hb25.mono hB19.size)
  have hS27 := hS20.below hb25
  have hSW29 := hSW22.ext hb25
  refine WL.nil (WH.ret hSW29 ?_)
  refine WH.takex (i := 12) rfl (by kernel_rfl) (by kernel_rfl) (by kernel_rfl) hP hSW29 ?_
  refine pr_assign rfl rfl ?_
  refine WH.done (by kernel_rfl) ?_
  refine fun a ha => hK7 _ _ ?_ a ha
  refine W.ret ?_
  have hr := Option.some.inj hF
  subst hr
  exact rets (vs := [(.int .i64 u23)]) hQ rfl ⟨rv_tmp rfl, trivial⟩ ⟨rfl, hB26⟩
theorem C_spec_shGood (w0 : World) (x0 : (Int × (Int × Int) × (List (Int × (Int × Int))))) (v0_0 : Value) (h0_0 : rdS ty_141 (· < w0.heap.size) w0 v0_0 x0.2.2) (r : Bool) (hF : F_spec_shGood x0 = some r) :
    Calls Try.prog 154 [(.agg #[(.int .i64 x0.1), (.int .i64 x0.2.1.1), (.int .i64 x0.2.1.2), v0_0])].toArray w0 fun e w' => e = .returned (.bool r) ∧ Below w0.heap.size w0 w' := by
  refine calls_mk' Try.func154 rfl Try.ntmps154 rfl rfl fun Q hQ hP => ?_
  have hB : Below w0.heap.size w0 w0 := Below.refl _ _
  have hS : Sep w0.heap.size w0 [] := Sep.nil _ _
  unfold F_spec_shGood at hF
  refine W.seq fun K1 hK1 => ?_
  refine W.region ?_
  refine wl_box (cs := [(.int .i64 x0.1), (.int .i64 x0.2.1.1), (.int .i64 x0.2.1.2), v0_0]) rfl rfl rfl hB hS ?_
  intro b2 w3 hb4 hB5 hS6
  refine wl_assign rfl rfl ?_
  refine WL.nil ?_
  refine fun a ha => hK1 _ _ ?_ a ha
  refine W.seq fun K7 hK7 => ?_
  refine W.seq fun K8 hK8 => ?_
  refine W.region ?_
  refine wl_field (o := 3) (off' := 3) ff_114_2 rfl rfl rfl ?_
  refine wl_load_blk (i := 0) (vs := [v0_0]) (v := v0_0) tf_112 rfl rfl hS6 rfl rfl rfl ?_
  refine wl_lenr (e := ty_141) (l := x0.2.2) Try.underlying112 rfl rfl h0_0 ?_
  refine wl_move rfl rfl ?_
  refine WL.nil ?_
  refine fun a ha => hK8 _ _ ?_ a ha
  refine W.block ?_
  refine W.loopk (fun m a w9 => ∃ (y12 : Int), St 37 [(1, (.pointer (some ⟨b2, 0, none⟩))), (6, v0_0), (7, (.int .i64 (List.length x0.2.2 : Int))), (8, (.int .i64 y12))] a ∧ Below w0.heap.size w0 w9 ∧ Sep w0.heap.size w9 [R.blk b2 114 [(.int .i64 x0.1), (.int .i64 x0.2.1.1), (.int .i64 x0.2.1.2), v0_0]] ∧ F_spec_shGood_L1 x0 m y12 = some r) FU ?_ ?_
  ·
    exact fun a ha => ⟨0, ha.sub ⟨rfl, rfl, rfl, rfl, trivial⟩, hB5, (hS6.sel [0] rfl), hF⟩
  ·
    rintro m15 a w9 ⟨y12, ha, hB10, hS11, hF⟩ KL14 hKL14
    refine W.at ?_ ha
    cases m15 with
    | zero => exact noneE hF
    | succ m15 =>
      obtain ⟨nx13, hnx13⟩ : ∃ k, k = F_spec_shGood_L1 x0 m15 := ⟨_, rfl⟩
      rw [F_spec_shGood_L1, ← hnx13] at hF
      refine W.seq fun K16 hK16 => ?_
      refine W.region ?_
      refine wl_lss rfl rfl rfl ?_
      refine WL.nil ?_
      refine fun a ha => hK16 _ _ ?_ a ha
      refine W.seq fun K17 hK17 => ?_
      refine W.cond rfl (fun h18 => ?_) (fun h18 => ?_)
      · replace hF := ifP h18 hF
        refine W.skip ?_
        refine fun a ha => hK17 _ _ ?_ a ha
        refine W.seq fun K19 hK19 => ?_
        refine W.block ?_
        refine W.seq fun K20 hK20 => ?_
        refine W.region ?_
        obtain ⟨u21, hu21, hF⟩ := bindE hF
        refine wl_index (e := ty_141) Try.underlying112 rfl rfl rfl h0_0 hu21 ?_
        rintro p22 _ rfl hp23
        refine wl_load_p (vs := [(.int .i64 u21.1), (.int .i64 u21.2.1), (.int .i64 u21.2.2)]) (v := (.agg #[(.int .i64 u21.1), (.int .i64 u21.2.1), (.int .i64 u21.2.2)])) tf_141 rfl rfl (hp23.ro hB10) rfl rfl ?_
        refine wl_alloc (cs := [(.int .i64 0), (.int .i64 0), (.int .i64 0)]) tf_141 rfl rfl hB10 hS11 ?_
        intro b24 w25 hb26 hB27 hS28
        refine wl_store_blk (i := 0) (vs := [(.int .i64 u21.1), (.int .i64 u21.2.1), (.int .i64 u21.2.2)]) (cs' := [(.int .i64 u21.1), (.int .i64 u21.2.1), (.int .i64 u21.2.2)]) tf_141 rfl rfl rfl rfl hB27 hS28 rfl rfl ⟨rfl, rfl, rfl, trivial⟩ rfl ?_
        intro w29 hk32 hB30 hS31
        refine WL.nil ?_
        refine fun a ha => hK20 _ _ ?_ a ha
        refine W.seq fun K33 hK33 => ?_
        obtain ⟨k38, hk38, hF⟩ := jE1 hF
        have hJ39 : ∀ (y37 : Bool) (w34 : World) (_ : k38 y37 = some r) (_ : Below w0.heap.size w0 w34) (_ : Sep w0.heap.size w34 [R.blk b2 114 [(.int .i64 x0.1), (.int .i64 x0.2.1.1), (.int .i64 x0.2.1.2), v0_0]]), ∀ a, St 37 [(1, (.pointer (some ⟨b2, 0, none⟩))), (6, v0_0), (7, (.int .i64 (List.length x0.2.2 : Int))), (8, (.int .i64 y12)), (21, (.bool y37))] a → K33 a w34 := by
          intro y37 w34 hF hB35 hS36
          subst hk38
          refine fun a ha => hK33 _ _ ?_ a ha
          refine W.cond rfl (fun h40 => ?_) (fun h40 => ?_)
          · replace hF := ifP h40 hF
            refine W.seq fun K41 hK41 => ?_
            refine W.region ?_
            refine wl_assign rfl rfl ?_
            refine WL.nil ?_
            refine fun a ha => hK41 _ _ ?_ a ha
            refine W.ret ?_
            have hr := Option.some.inj hF
            subst hr
            exact rets (vs := [(.bool false)]) hQ rfl ⟨rv_tmp rfl, trivial⟩ ⟨rfl, hB35⟩
          · replace hF := ifN h40 hF
            refine W.skip ?_
            refine fun a ha => hK19 _ _ ?_ a ha
            refine W.region ?_
            refine wl_add rfl rfl rfl ?_
            refine wl_move rfl rfl ?_
            refine WL.nil ?_
            rw [hnx13] at hF
            exact fun a ha => hKL14 a _ m15 (Nat.lt_succ_self m15) ⟨(w64 (y12 + 1)), ha.sub ⟨rfl, rfl, rfl, rfl, trivial⟩, hB35, (hS36.sel [0] rfl), hF⟩
        refine W.region ?_
        refine wl_field (o := 0) (off' := 0) ff_141_0 rfl rfl rfl ?_
        refine wl_load_blk (i := 0) (vs := [(.int .i64 u21.1)]) (v := (.int .i64 u21.1)) tf_3 rfl rfl hS31 rfl rfl rfl ?_
        obtain ⟨u42, hu42, hF⟩ := bindE hF
        refine wl_call rfl Try.call107 (C_spec_l1In w29 u21.1 1 64 _ hu42) rfl ?_
        rintro _ w43 ⟨rfl, hb44⟩
        refine ⟨_, rfl, ?_⟩
        have hB45 := hB30.trans (hb44.mono hB30.size)
        have hS46 := hS31.below hb44
        refine wl_not rfl rfl ?_
        refine wl_move rfl rfl ?_
        rcases bE (!u42) with h48 | h48
        · replace hF := ifP h48 hF
          refine wl_off rfl rfl rfl h48 ?_
          refine wl_off rfl rfl rfl h48 ?_
          refine wl_off rfl rfl rfl h48 ?_
          refine wl_off rfl rfl rfl h48 ?_
          refine wl_pick_t rfl rfl h48 rfl ?_
          refine WL.nil ?_
          exact fun a ha => hJ39 (true) _ hF hB45 (hS46.sel [1] rfl) a (ha.sub ⟨rfl, rfl, rfl, rfl, rfl, trivial⟩)
        · replace hF := ifN h48 hF
          refine wl_on rfl rfl h48 ?_
          refine wl_field (o := 1) (off' := 1) ff_141_1 rfl rfl rfl ?_
          refine wl_on rfl rfl h48 ?_
          refine wl_load_blk (i := 0) (vs := [(.int .i64 u21.2.1), (.int .i64 u21.2.2)]) (v := (.agg #[(.int .i64 u21.2.1), (.int .i64 u21.2.2)])) tf_54 rfl rfl hS46 rfl rfl rfl ?_
          refine wl_on rfl rfl h48 ?_
          obtain ⟨u49, hu49, hF⟩ := bindE hF
          refine wl_call rfl Try.call143 (C_spec_stGood w43 u21.2 _ hu49) rfl ?_
          rintro _ w50 ⟨rfl, hb51⟩
          refine ⟨_, rfl, ?_⟩
          have hB52 := hB45.trans (hb51.mono hB45.size)
          have hS53 := hS46.below hb51
          refine wl_on rfl rfl h48 ?_
          refine wl_not rfl rfl ?_
          refine wl_pick_f rfl rfl h48 rfl ?_
          refine WL.nil ?_
          exact fun a ha => hJ39 ((!u49)) _ hF hB52 (hS53.sel [1] rfl) a (ha.sub ⟨rfl, rfl, rfl, rfl, rfl, trivial⟩)
      · replace hF := ifN h18 hF
        refine W.exit ?_
        refine fun a ha => hK7 _ _ ?_ a ha
        refine W.seq fun K55 hK55 => ?_
        obtain ⟨k60, hk60, hF⟩ := jE1 hF
        have hJ61 : ∀ (y59 : Bool) (w56 : World) (_ : k60 y59 = some r) (_ : Below w0.heap.size w0 w56) (_ : Sep w0.heap.size w56 []), ∀ a, St 37 [(2, (.bool y59))] a → K55 a w56 := by
          intro y59 w56 hF hB57 hS58
          subst hk60
          refine fun a ha => hK55 _ _ ?_ a ha
          refine W.ret ?_
          have hr := Option.some.inj hF
          subst hr
          exact rets (vs := [(.bool y59)]) hQ rfl ⟨rv_tmp rfl, trivial⟩ ⟨rfl, hB57⟩
        refine W.region ?_
        refine wl_field (o := 0) (off' := 0) ff_114_0 rfl rfl rfl ?_
        refine wl_load_blk (i := 0) (vs := [(.int .i64 x0.1)]) (v := (.int .i64 x0.1)) tf_3 rfl rfl hS11 rfl rfl rfl ?_
        obtain ⟨u62, hu62, hF⟩ := bindE hF
        refine wl_call rfl Try.call107 (C_spec_l1In w9 x0.1 0 11 _ hu62) rfl ?_
        rintro _ w63 ⟨rfl, hb64⟩
        refine ⟨_, rfl, ?_⟩
        have hB65 := hB10.trans (hb64.mono hB10.size)
        have hS66 := hS11.below hb64
        refine wl_move rfl rfl ?_
        rcases bE u62 with h68 | h68
        · replace hF := ifP h68 hF
          refine wl_on rfl rfl h68 ?_
          refine wl_field (o := 1) (off' := 1) ff_114_1 rfl rfl rfl ?_
          refine wl_on rfl rfl h68 ?_
          refine wl_load_blk (i := 0) (vs := [(.int .i64 x0.2.1.1), (.int .i64 x0.2.1.2)]) (v := (.agg #[(.int .i64 x0.2.1.1), (.int .i64 x0.2.1.2)])) tf_54 rfl rfl hS66 rfl rfl rfl ?_
          refine wl_on rfl rfl h68 ?_
          obtain ⟨u69, hu69, hF⟩ := bindE hF
          refine wl_call rfl Try.call143 (C_spec_stGood w63 x0.2.1 _ hu69) rfl ?_
          rintro _ w70 ⟨rfl, hb71⟩
          refine ⟨_, rfl, ?_⟩
          have hB72 := hB65.trans (hb71.mono hB65.size)
          have hS73 := hS66.below hb71
          refine wl_pick_t rfl rfl h68 rfl ?_
          refine wl_move rfl rfl ?_
          rcases bE u69 with h75 | h75
          · replace hF := ifP h75 hF
            refine wl_on rfl rfl h75 ?_
            refine wl_field (o := 3) (off' := 3) ff_114_2 rfl rfl rfl ?_
            refine wl_on rfl rfl h75 ?_
            refine wl_load_blk (i := 0) (vs := [v0_0]) (v := v0_0) tf_112 rfl rfl hS73 rfl rfl rfl ?_
            refine wl_on rfl rfl h75 ?_
            refine wl_lenr (e := ty_141) (l := x0.2.2) Try.underlying112 rfl rfl h0_0 ?_
            refine wl_on rfl rfl h75 ?_
            refine wl_leq rfl rfl rfl ?_
            refine wl_pick_t rfl rfl h75 rfl ?_
            refine wl_assign rfl rfl ?_
            refine WL.nil ?_
            exact fun a ha => hJ61 ((decide ((List.length x0.2.2 : Int) ≤ 8))) _ hF hB72 (hS73.sel [] rfl) a (ha.sub ⟨rfl, trivial⟩)
          · replace hF := ifN h75 hF
            refine wl_off rfl rfl rfl h75 ?_
            refine wl_off rfl rfl rfl h75 ?_
            refine wl_off rfl rfl rfl h75 ?_
            refine wl_off rfl rfl rfl h75 ?_
            refine wl_pick_f rfl rfl h75 rfl ?_
            refine wl_assign rfl rfl ?_
            refine WL.nil ?_
            exact fun a ha => hJ61 (false) _ hF hB72 (hS73.sel [] rfl) a (ha.sub ⟨rfl, trivial⟩)
        · replace hF := ifN h68 hF
          refine wl_off rfl rfl rfl h68 ?_
          refine wl_off rfl rfl rfl h68 ?_
          refine wl_off rfl rfl rfl h68 ?_
          refine wl_pick_f rfl rfl h68 rfl ?_
          refine wl_move rfl rfl ?_
          refine wl_off rfl rfl rfl rfl ?_
          refine wl_off rfl rfl rfl rfl ?_
          refine wl_off rfl rfl rfl rfl ?_
          refine wl_off rfl rfl rfl rfl ?_
          refine wl_pick_f rfl rfl rfl rfl ?_
          refine wl_assign rfl rfl ?_
          refine WL.nil ?_
          exact fun a ha => hJ61 (false) _ hF hB65 (hS66.sel [] rfl) a (ha.sub ⟨rfl, trivial⟩)
theorem C_spec_shRows (w0 : World) (x0 : (Int × (Int × Int) × (List (Int × (Int × Int))))) (v0_0 : Value) (h0_0 : rdS ty_141 (· < w0.heap.size) w0 v0_0 x0.2.2) (r : (List ((Int × Int) × (Int × Int) × Int))) (hF : F_spec_shRows x0 = some r) :
    Calls Try.prog 155 [(.agg #[(.int .i64 x0.1), (.int .i64 x0.2.1.1), (.int .i64 x0.2.1.2), v0_0])].toArray w0 fun e w' => ∃ (q0 : Value) (G0 : List Nat), e = .returned q0 ∧ Below w0.heap.size w0 w' ∧ Sep w0.heap.size w' [R.own ty_96 G0 q0 r] := by
  refine calls_mk' Try.func155 rfl Try.ntmps155 rfl rfl fun Q hQ hP => ?_
  have hB : Below w0.heap.size w0 w0 := Below.refl _ _
  have hS : Sep w0.heap.size w0 [] := Sep.nil _ _
  unfold F_spec_shRows at hF
  refine W.seq fun K1 hK1 => ?_
  refine W.region ?_
  refine wl_box (cs := [(.int .i64 x0.1), (.int .i64 x0.2.1.1), (.int .i64 x0.2.1.2), v0_0]) rfl rfl rfl hB hS ?_
  intro b2 w3 hb4 hB5 hS6
  refine wl_assign rfl rfl ?_
  refine WL.nil ?_
  refine fun a ha => hK1 _ _ ?_ a ha
  refine W.seq fun K7 hK7 => ?_
  refine W.region ?_
  refine wl_assign rfl rfl ?_
  refine WL.nil ?_
  refine fun a ha => hK7 _ _ ?_ a ha
  refine W.seq fun K8 hK8 => ?_
  refine W.region ?_
  refine wl_field (o := 1) (off' := 1) ff_114_1 rfl rfl rfl ?_
  refine wl_load_blk (i := 0) (vs := [(.int .i64 x0.2.1.1), (.int .i64 x0.2.1.2)]) (v := (.agg #[(.int .i64 x0.2.1.1), (.int .i64 x0.2.1.2)])) tf_54 rfl rfl hS6 rfl rfl rfl ?_
  refine wl_alloc (cs := [(.int .i64 0), (.int .i64 0)]) tf_54 rfl rfl hB5 hS6 ?_
  intro b9 w10 hb11 hB12 hS13
  refine wl_store_blk (i := 0) (vs := [(.int .i64 x0.2.1.1), (.int .i64 x0.2.1.2)]) (cs' := [(.int .i64 x0.2.1.1), (.int .i64 x0.2.1.2)]) tf_54 rfl rfl rfl rfl hB12 hS13 rfl rfl ⟨rfl, rfl, trivial⟩ rfl ?_
  intro w14 hk17 hB15 hS16
  refine WL.nil ?_
  refine fun a ha => hK8 _ _ ?_ a ha
  refine W.seq fun K18 hK18 => ?_
  refine W.seq fun K19 hK19 => ?_
  refine W.region ?_
  refine wl_field (o := 3) (off' := 3) ff_114_2 rfl rfl rfl ?_
  refine wl_load_blk (i := 1) (vs := [v0_0]) (v := v0_0) tf_112 rfl rfl hS16 rfl rfl rfl ?_
  refine wl_lenr (e := ty_141) (l := x0.2.2) Try.underlying112 rfl rfl h0_0 ?_
  refine wl_move rfl rfl ?_
  refine WL.nil ?_
  refine fun a ha => hK19 _ _ ?_ a ha
  refine W.block ?_
  refine W.loopk (fun m a w20 => ∃ (l23 : (List ((Int × Int) × (Int × Int) × Int))) (y26 : Int) (y27 : Int) (y28 : Int) (v24 : Value) (F25 : List Nat), St 29 [(3, v24), (4, (.pointer (some ⟨b9, 0, none⟩))), (10, v0_0), (11, (.int .i64 (List.length x0.2.2 : Int))), (12, (.int .i64 y28))] a ∧ Below w0.heap.size w0 w20 ∧ Sep w0.heap.size w20 [R.own ty_96 F25 v24 l23, R.blk b9 54 [(.int .i64 y26), (.int .i64 y27)]] ∧ F_spec_shRows_L1 x0 m l23 y26 y27 y28 = some r) FU ?_ ?_
  ·
    have hS30 := hS16.push0 (r := R.own ty_96 [] (.slice none 0 0) []) rfl fun _ => .inl ⟨rfl, rfl, rfl⟩
    exact fun a ha => ⟨[], x0.2.1.1, x0.2.1.2, 0, (.slice none 0 0), [], ha.sub ⟨rfl, rfl, rfl, rfl, rfl, trivial⟩, hB15, (hS30.sel [0, 1] rfl), hF⟩
  ·
    rintro m32 a w20 ⟨l23, y26, y27, y28, v24, F25, ha, hB21, hS22, hF⟩ KL31 hKL31
    refine W.at ?_ ha
    cases m32 with
    | zero => exact noneE hF
    | succ m32 =>
      obtain ⟨nx29, hnx29⟩ : ∃ k, k = F_spec_shRows_L1 x0 m32 := ⟨_, rfl⟩
      rw [F_spec_shRows_L1, ← hnx29] at hF
      refine W.seq fun K33 hK33 => ?_
      refine W.region ?_
      refine wl_lss rfl rfl rfl ?_
      refine WL.nil ?_
      refine fun a ha => hK33 _ _ ?_ a ha
      refine W.seq fun K34 hK34 => ?_
      refine W.cond rfl (fun h35 => ?_) (fun h35 => ?_)
      · replace hF := ifP h35 hF
        refine W.skip ?_
        refine fun a ha => hK34 _ _ ?_ a ha
        refine W.seq fun K36 hK36 => ?_
        refine W.block ?_
        refine W.seq fun K37 hK37 => ?_
        refine W.region ?_
        obtain ⟨u38, hu38, hF⟩ := bindE hF
        refine wl_index (e := ty_141) Try.underlying112 rfl rfl rfl h0_0 hu38 ?_
        rintro p39 _ rfl hp40
        refine wl_load_p (vs := [(.int .i64 u38.1), (.int .i64 u38.2.1), (.int .i64 u38.2.2)]) (v := (.agg #[(.int .i64 u38.1), (.int .i64 u38.2.1), (.int .i64 u38.2.2)])) tf_141 rfl rfl (hp40.ro hB21) rfl rfl ?_
        refine wl_alloc (cs := [(.int .i64 0), (.int .i64 0), (.int .i64 0)]) tf_141 rfl rfl hB21 hS22 ?_
        intro b41 w42 hb43 hB44 hS45
        refine wl_store_blk (i := 0) (vs := [(.int .i64 u38.1), (.int .i64 u38.2.1), (.int .i64 u38.2.2)]) (cs' := [(.int .i64 u38.1), (.int .i64 u38.2.1), (.int .i64 u38.2.2)]) tf_141 rfl rfl rfl rfl hB44 hS45 rfl rfl ⟨rfl, rfl, rfl, trivial⟩ rfl ?_
        intro w46 hk49 hB47 hS48
        refine WL.nil ?_
        refine fun a ha => hK37 _ _ ?_ a ha
        refine W.seq fun K50 hK50 => ?_
        refine W.region ?_
        refine wl_move rfl rfl ?_
        refine wl_load_blk (i := 2) (vs := [(.int .i64 y26), (.int .i64 y27)]) (v := (.agg #[(.int .i64 y26), (.int .i64 y27)])) tf_54 rfl rfl hS48 rfl rfl rfl ?_
        refine wl_field (o := 1) (off' := 1) ff_141_1 rfl rfl rfl ?_
        refine wl_load_blk (i := 0) (vs := [(.int .i64 u38.2.1), (.int .i64 u38.2.2)]) (v := (.agg #[(.int .i64 u38.2.1), (.int .i64 u38.2.2)])) tf_54 rfl rfl hS48 rfl rfl rfl ?_
        refine wl_field (o := 0) (off' := 0) ff_141_0 rfl rfl rfl ?_
        refine wl_load_blk (i := 0) (vs := [(.int .i64 u38.1)]) (v := (.int .i64 u38.1)) tf_3 rfl rfl hS48 rfl rfl rfl ?_
        refine wl_build (zs := [(.int .i64 0), (.int .i64 0), (.int .i64 0), (.int .i64 0), (.int .i64 0)]) (out := [(.int .i64 y26), (.int .i64 y27), (.int .i64 u38.2.1), (.int .i64 u38.2.2), (.int .i64 u38.1)]) (vs := [(.agg #[(.int .i64 y26), (.int .i64 y27)]), (.agg #[(.int .i64 u38.2.1), (.int .i64 u38.2.2)]), (.int .i64 u38.1)]) (css := [[(.int .i64 y26), (.int .i64 y27)], [(.int .i64 u38.2.1), (.int .i64 u38.2.2)], [(.int .i64 u38.1)]]) tf_96 pl_96 rfl rfl rfl rfl rfl ?_
        refine wl_lit (vs := [(.agg #[(.int .i64 y26), (.int .i64 y27), (.int .i64 u38.2.1), (.int .i64 u38.2.2), (.int .i64 u38.1)])]) (l := [((y26, y27), u38.2, u38.1)]) fl_96 Try.underlying87 rfl rfl rfl rfl rfl rfl hB47 hS48 ?_
        intro v51 F52 w53 hb54 hB55 hS56
        obtain ⟨u57, hu57, hF⟩ := bindE hF
        refine wl_append (i := 2) (S := (· < w53.heap.size)) fl_96 Try.underlying87 rfl rfl rfl hB55 hS56 rfl (hS56.own_ro (i := 0) rfl) hu57 ?_
        intro v58 F59 w60 hk61 hB62 hS63
        refine wl_assign rfl rfl ?_
        refine WL.nil ?_
        refine fun a ha => hK50 _ _ ?_ a ha
        refine W.region ?_
        refine wl_field (o := 1) (off' := 1) ff_141_1 rfl rfl rfl ?_
        refine wl_load_blk (i := 1) (vs := [(.int .i64 u38.2.1), (.int .i64 u38.2.2)]) (v := (.agg #[(.int .i64 u38.2.1), (.int .i64 u38.2.2)])) tf_54 rfl rfl hS63 rfl rfl rfl ?_
        refine wl_store_blk (i := 3) (vs := [(.int .i64 u38.2.1), (.int .i64 u38.2.2)]) (cs' := [(.int .i64 u38.2.1), (.int .i64 u38.2.2)]) tf_54 rfl rfl rfl rfl hB62 hS63 rfl rfl ⟨rfl, rfl, trivial⟩ rfl ?_
        intro w65 hk68 hB66 hS67
        refine WL.nil ?_
        refine fun a ha => hK36 _ _ ?_ a ha
        refine W.region ?_
        refine wl_add rfl rfl rfl ?_
        refine wl_move rfl rfl ?_
        refine WL.nil ?_
        rw [hnx29] at hF
        exact fun a ha => hKL31 a _ m32 (Nat.lt_succ_self m32) ⟨u57, u38.2.1, u38.2.2, (w64 (y28 + 1)), v58, F59, ha.sub ⟨rfl, rfl, rfl, rfl, rfl, trivial⟩, hB66, (hS67.sel [2, 3] rfl), hF⟩
      · replace hF := ifN h35 hF
        refine W.exit ?_
        refine fun a ha => hK18 _ _ ?_ a ha
        refine W.seq fun K69 hK69 => ?_
        refine W.region ?_
        refine wl_move rfl rfl ?_
        refine wl_assign rfl rfl ?_
        refine WL.nil ?_
        refine fun a ha => hK69 _ _ ?_ a ha
        refine W.ret ?_
        have hr := Option.some.inj hF
        subst hr
        exact rets (vs := [v24]) hQ rfl ⟨rv_tmp rfl, trivial⟩ ⟨v24, F25, rfl, hB21, hS22.sel [0] rfl⟩
theorem C_spec_mvAt (w0 : World) (x0 : ((Int × Int) × (Int × Int) × Int)) (x1 : Int) (r : (Int × Int)) (hF : F_spec_mvAt x0 x1 = some r) :
    Calls Try.prog 169 [(.agg #[(.int .i64 x0.1.1), (.int .i64 x0.1.2), (.int .i64 x0.2.1.1), (.int .i64 x0.2.1.2), (.int .i64 x0.2.2)]), (.int .i64 x1)].toArray w0 fun e w' => e = .returned (.tuple #[(.int .i64 r.1), (.int .i64 r.2)]) ∧ Below w0.heap.size w0 w' := by
  refine calls_mk' Try.func169 rfl Try.ntmps169 rfl rfl fun Q hQ hP => ?_
  have hB : Below w0.heap.size w0 w0 := Below.refl _ _
  have hS : Sep w0.heap.size w0 [] := Sep.nil _ _
  unfold F_spec_mvAt at hF
  refine W.seq fun K1 hK1 => ?_
  refine W.region ?_
  refine wl_box (cs := [(.int .i64 x0.1.1), (.int .i64 x0.1.2), (.int .i64 x0.2.1.1), (.int .i64 x0.2.1.2), (.int .i64 x0.2.2)]) rfl rfl rfl hB hS ?_
  intro b2 w3 hb4 hB5 hS6
  refine wl_assign rfl rfl ?_
  refine wl_assign rfl rfl ?_
  refine WL.nil ?_
  refine fun a ha => hK1 _ _ ?_ a ha
  refine W.seq fun K7 hK7 => ?_
  refine W.regionH mixed_ [] hB5 hS6 ?_
  intro w8 hb9 hB10 hS11
  have hSW12 := KeepX.refl w8 []
  refine WH.takex (i := 0) rfl (by kernel_rfl) (by kernel_rfl) (by kernel_rfl) hP hSW12 ?_
  refine pr_field (o := 0) (off' := 0) ff_96_0 rfl rfl rfl ?_
  refine WH.takex (i := 1) rfl (by kernel_rfl) (by kernel_rfl) (by kernel_rfl) hP hSW12 ?_
  refine pr_field (o := 0) (off' := 0) ff_54_0 rfl rfl rfl ?_
  refine WH.takex (i := 2) rfl (by kernel_rfl) (by kernel_rfl) (by kernel_rfl) hP hSW12 ?_
  refine pr_load_blk (i := 0) (vs := [(.int .i64 x0.1.1)]) (v := (.int .i64 x0.1.1)) tf_3 rfl rfl hS11 rfl rfl rfl (by simp) ?_
  refine WH.takex (i := 3) rfl (by kernel_rfl) (by kernel_rfl) (by kernel_rfl) hP hSW12 ?_
  refine pr_field (o := 4) (off' := 4) ff_96_2 rfl rfl rfl ?_
  refine WH.takex (i := 4) rfl (by kernel_rfl) (by kernel_rfl) (by kernel_rfl) hP hSW12 ?_
  refine pr_load_blk (i := 0) (vs := [(.int .i64 x0.2.2)]) (v := (.int .i64 x0.2.2)) tf_3 rfl rfl hS11 rfl rfl rfl (by simp) ?_
  refine WH.takex (i := 5) rfl (by kernel_rfl) (by kernel_rfl) (by kernel_rfl) hP hSW12 ?_
  refine pr_mul rfl rfl rfl ?_
  refine WH.takex (i := 6) rfl (by kernel_rfl) (by kernel_rfl) (by kernel_rfl) hP hSW12 ?_
  refine pr_field (o := 2) (off' := 2) ff_96_1 rfl rfl rfl ?_
  refine WH.takex (i := 7) rfl (by kernel_rfl) (by kernel_rfl) (by kernel_rfl) hP hSW12 ?_
  refine pr_field (o := 0) (off' := 2) ff_54_0 rfl rfl rfl ?_
  refine WH.takex (i := 8) rfl (by kernel_rfl) (by kernel_rfl) (by kernel_rfl) hP hSW12 ?_
  refine pr_load_blk (i := 0) (vs := [(.int .i64 x0.2.1.1)]) (v := (.int .i64 x0.2.1.1)) tf_3 rfl rfl hS11 rfl rfl rfl (by simp) ?_
  refine WH.takex (i := 9) rfl (by kernel_rfl) (by kernel_rfl) (by kernel_rfl) hP hSW12 ?_
  refine pr_field (o := 0) (off' := 0) ff_96_0 rfl rfl rfl ?_
  refine WH.takex (i := 10) rfl (by kernel_rfl) (by kernel_rfl) (by kernel_rfl) hP hSW12 ?_
  refine pr_field (o := 0) (off' := 0) ff_54_0 rfl rfl rfl ?_
  refine WH.takex (i := 11) rfl (by kernel_rfl) (by kernel_rfl) (by kernel_rfl) hP hSW12 ?_
  refine pr_load_blk (i := 0) (vs := [(.int .i64 x0.1.1)]) (v := (.int .i64 x0.1.1)) tf_3 rfl rfl hS11 rfl rfl rfl (by simp) ?_
  refine WH.takex (i := 12) rfl (by kernel_rfl) (by kernel_rfl) (by kernel_rfl) hP hSW12 ?_
  refine pr_sub rfl rfl rfl ?_
  refine WH.takex (i := 13) rfl (by kernel_rfl) (by kernel_rfl) (by kernel_rfl) hP hSW12 ?_
  refine pr_move rfl rfl ?_
  refine WH.takex (i := 14) rfl (by kernel_rfl) (by kernel_rfl) (by kernel_rfl) hP hSW12 ?_
  refine pr_mul rfl rfl rfl ?_
  refine WH.takex (i := 15) rfl (by kernel_rfl) (by kernel_rfl) (by kernel_rfl) hP hSW12 ?_
  refine pr_add rfl rfl rfl ?_
  refine WH.takex (i := 16) rfl (by kernel_rfl) (by kernel_rfl) (by kernel_rfl) hP hSW12 ?_
  refine pr_field (o := 0) (off' := 0) ff_96_0 rfl rfl rfl ?_
  refine WH.takex (i := 17) rfl (by kernel_rfl) (by kernel_rfl) (by kernel_rfl) hP hSW12 ?_
  refine pr_field (o := 1) (off' := 1) ff_54_1 rfl rfl rfl ?_
  refine WH.takex (i := 18) rfl (by kernel_rfl) (by kernel_rfl) (by kernel_rfl) hP hSW12 ?_
  refine pr_load_blk (i := 0) (vs := [(.int .i64 x0.1.2)]) (v := (.int .i64 x0.1.2)) tf_3 rfl rfl hS11 rfl rfl rfl (by simp) ?_
  refine WH.takex (i := 19) rfl (by kernel_rfl) (by kernel_rfl) (by kernel_rfl) hP hSW12 ?_
  refine pr_field (o := 4) (off' := 4) ff_96_2 rfl rfl rfl ?_
  refine WH.takex (i := 20) rfl (by kernel_rfl) (by kernel_rfl) (by kernel_rfl) hP hSW12 ?_
  refine pr_load_blk (i := 0) (vs := [(.int .i64 x0.2.2)]) (v := (.int .i64 x0.2.2)) tf_3 rfl rfl hS11 rfl rfl rfl (by simp) ?_
  refine WH.takex (i := 21) rfl (by kernel_rfl) (by kernel_rfl) (by kernel_rfl) hP hSW12 ?_
  refine pr_mul rfl rfl rfl ?_
  refine WH.takex (i := 22) rfl (by kernel_rfl) (by kernel_rfl) (by kernel_rfl) hP hSW12 ?_
  refine pr_field (o := 2) (off' := 2) ff_96_1 rfl rfl rfl ?_
  refine WH.takex (i := 23) rfl (by kernel_rfl) (by kernel_rfl) (by kernel_rfl) hP hSW12 ?_
  refine pr_field (o := 1) (off' := 3) ff_54_1 rfl rfl rfl ?_
  refine WH.takex (i := 24) rfl (by kernel_rfl) (by kernel_rfl) (by kernel_rfl) hP hSW12 ?_
  refine pr_load_blk (i := 0) (vs := [(.int .i64 x0.2.1.2)]) (v := (.int .i64 x0.2.1.2)) tf_3 rfl rfl hS11 rfl rfl rfl (by simp) ?_
  refine WH.takex (i := 25) rfl (by kernel_rfl) (by kernel_rfl) (by kernel_rfl) hP hSW12 ?_
  refine pr_field (o := 0) (off' := 0) ff_96_0 rfl rfl rfl ?_
  refine WH.takex (i := 26) rfl (by kernel_rfl) (by kernel_rfl) (by kernel_rfl) hP hSW12 ?_
  refine pr_field (o := 1) (off' := 1) ff_54_1 rfl rfl rfl ?_
  refine WH.takex (i := 27) rfl (by kernel_rfl) (by kernel_rfl) (by kernel_rfl) hP hSW12 ?_
  refine pr_load_blk (i := 0) (vs := [(.int .i64 x0.1.2)]) (v := (.int .i64 x0.1.2)) tf_3 rfl rfl hS11 rfl rfl rfl (by simp) ?_
  refine WH.takex (i := 28) rfl (by kernel_rfl) (by kernel_rfl) (by kernel_rfl) hP hSW12 ?_
  refine pr_sub rfl rfl rfl ?_
  refine WH.takex (i := 29) rfl (by kernel_rfl) (by kernel_rfl) (by kernel_rfl) hP hSW12 ?_
  refine pr_move rfl rfl ?_
  refine WH.takex (i := 30) rfl (by kernel_rfl) (by kernel_rfl) (by kernel_rfl) hP hSW12 ?_
  refine pr_mul rfl rfl rfl ?_
  refine WH.takex (i := 31) rfl (by kernel_rfl) (by kernel_rfl) (by kernel_rfl) hP hSW12 ?_
  refine pr_add rfl rfl rfl ?_
  refine WH.takex (i := 32) rfl (by kernel_rfl) (by kernel_rfl) (by kernel_rfl) hP hSW12 ?_
  refine pr_assign rfl rfl ?_
  refine WH.takex (i := 33) rfl (by kernel_rfl) (by kernel_rfl) (by kernel_rfl) hP hSW12 ?_
  refine pr_assign rfl rfl ?_
  refine WH.done (by kernel_rfl) ?_
  refine fun a ha => hK7 _ _ ?_ a ha
  refine W.ret ?_
  have hr := Option.some.inj hF
  subst hr
  exact rets (vs := [(.int .i64 (w64 ((w64 (x0.1.1 * x0.2.2)) + (w64 ((w64 (x0.2.1.1 - x0.1.1)) * x1))))), (.int .i64 (w64 ((w64 (x0.1.2 * x0.2.2)) + (w64 ((w64 (x0.2.1.2 - x0.1.2)) * x1)))))]) hQ rfl ⟨rv_tmp rfl, rv_tmp rfl, trivial⟩ ⟨rfl, hB10⟩
theorem C_spec_mvRound (w0 : World) (x0 : ((Int × Int) × (Int × Int) × Int)) (x1 : Int) (r : (Int × Int)) (hF : F_spec_mvRound x0 x1 = some r) :
    Calls Try.prog 156 [(.agg #[(.int .i64 x0.1.1), (.int .i64 x0.1.2), (.int .i64 x0.2.1.1), (.int .i64 x0.2.1.2), (.int .i64 x0.2.2)]), (.int .i64 x1)].toArray w0 fun e w' => e = .returned (.agg #[(.int .i64 r.1), (.int .i64 r.2)]) ∧ Below w0.heap.size w0 w' := by
  refine calls_mk' Try.func156 rfl Try.ntmps156 rfl rfl fun Q hQ hP => ?_
  have hB : Below w0.heap.size w0 w0 := Below.refl _ _
  have hS : Sep w0.heap.size w0 [] := Sep.nil _ _
  unfold F_spec_mvRound at hF
  refine W.seq fun K1 hK1 => ?_
  refine W.region ?_
  refine wl_box (cs := [(.int .i64 x0.1.1), (.int .i64 x0.1.2), (.int .i64 x0.2.1.1), (.int .i64 x0.2.1.2), (.int .i64 x0.2.2)]) rfl rfl rfl hB hS ?_
  intro b2 w3 hb4 hB5 hS6
  refine wl_alloc (cs := [(.int .i64 0), (.int .i64 0)]) tf_54 rfl rfl hB5 hS6 ?_
  intro b7 w8 hb9 hB10 hS11
  refine WL.nil ?_
  refine fun a ha => hK1 _ _ ?_ a ha
  refine W.seq fun K12 hK12 => ?_
  refine W.region ?_
  refine wl_load_blk (i := 1) (vs := [(.int .i64 x0.1.1), (.int .i64 x0.1.2), (.int .i64 x0.2.1.1), (.int .i64 x0.2.1.2), (.int .i64 x0.2.2)]) (v := (.agg #[(.int .i64 x0.1.1), (.int .i64 x0.1.2), (.int .i64 x0.2.1.1), (.int .i64 x0.2.1.2), (.int .i64 x0.2.2)])) tf_96 rfl rfl hS11 rfl rfl rfl ?_
  refine wl_move rfl rfl ?_
  obtain ⟨u13, hu13, hF⟩ := bindE hF
  refine wl_call rfl Try.call169 (C_spec_mvAt w8 x0 x1 _ hu13) rfl ?_
  rintro _ w14 ⟨rfl, hb15⟩
  refine ⟨_, rfl, ?_⟩
  have hB16 := hB10.trans (hb15.mono hB10.size)
  have hS17 := hS11.below hb15
  refine wl_move rfl rfl ?_
  refine wl_extract rfl rfl rfl ?_
  refine wl_extract rfl rfl rfl ?_
  refine wl_assign rfl rfl ?_
  refine wl_assign rfl rfl ?_
  refine WL.nil ?_
  refine fun a ha => hK12 _ _ ?_ a ha
  refine W.seq fun K19 hK19 => ?_
  refine W.regionH mixed_ [b7] hB16 hS17 ?_
  intro w20 hb21 hB22 hS23
  have hSW24 := KeepX.refl w20 [b7]
  refine WH.takex (i := 0) rfl (by kernel_rfl) (by kernel_rfl) (by kernel_rfl) hP hSW24 ?_
  refine pr_move rfl rfl ?_
  refine WH.takex (i := 1) rfl (by kernel_rfl) (by kernel_rfl) (by kernel_rfl) hP hSW24 ?_
  refine pr_mul rfl rfl rfl ?_
  refine WH.takex (i := 2) rfl (by kernel_rfl) (by kernel_rfl) (by kernel_rfl) hP hSW24 ?_
  refine pr_field (o := 4) (off' := 4) ff_96_2 rfl rfl rfl ?_
  refine WH.takex (i := 3) rfl (by kernel_rfl) (by kernel_rfl) (by kernel_rfl) hP hSW24 ?_
  refine pr_load_blk (i := 1) (vs := [(.int .i64 x0.2.2)]) (v := (.int .i64 x0.2.2)) tf_3 rfl rfl hS23 rfl rfl rfl (hS23.disj (i := 1) (j := 0) rfl rfl rfl b2 (by simp [R.blk])) ?_
  refine WH.takex (i := 4) rfl (by kernel_rfl) (by kernel_rfl) (by kernel_rfl) hP hSW24 ?_
  refine pr_add rfl rfl rfl ?_
  refine WH.takex (i := 5) rfl (by kernel_rfl) (by kernel_rfl) (by kernel_rfl) hP hSW24 ?_
  refine pr_field (o := 4) (off' := 4) ff_96_2 rfl rfl rfl ?_
  refine WH.takex (i := 6) rfl (by kernel_rfl) (by kernel_rfl) (by kernel_rfl) hP hSW24 ?_
  refine pr_load_blk (i := 1) (vs := [(.int .i64 x0.2.2)]) (v := (.int .i64 x0.2.2)) tf_3 rfl rfl hS23 rfl rfl rfl (hS23.disj (i := 1) (j := 0) rfl rfl rfl b2 (by simp [R.blk])) ?_
  refine WH.takex (i := 7) rfl (by kernel_rfl) (by kernel_rfl) (by kernel_rfl) hP hSW24 ?_
  refine pr_mul rfl rfl rfl ?_
  have h25 : (w64 (2 * x0.2.2)) ≠ 0 := fun h25 => noneE (ifP h25 hF)
  replace hF := ifNP h25 hF
  refine WH.takex (i := 8) rfl (by kernel_rfl) (by kernel_rfl) (by kernel_rfl) hP hSW24 ?_
  refine pr_quo rfl rfl rfl h25 ?_
  refine WH.takex (i := 9) rfl (by kernel_rfl) (by kernel_rfl) (by kernel_rfl) hP hSW24 ?_
  refine pr_move rfl rfl ?_
  refine WH.takex (i := 10) rfl (by kernel_rfl) (by kernel_rfl) (by kernel_rfl) hP hSW24 ?_
  refine pr_mul rfl rfl rfl ?_
  refine WH.takex (i := 11) rfl (by kernel_rfl) (by kernel_rfl) (by kernel_rfl) hP hSW24 ?_
  refine pr_field (o := 4) (off' := 4) ff_96_2 rfl rfl rfl ?_
  refine WH.takex (i := 12) rfl (by kernel_rfl) (by kernel_rfl) (by kernel_rfl) hP hSW24 ?_
  refine pr_load_blk (i := 1) (vs := [(.int .i64 x0.2.2)]) (v := (.int .i64 x0.2.2)) tf_3 rfl rfl hS23 rfl rfl rfl (hS23.disj (i := 1) (j := 0) rfl rfl rfl b2 (by simp [R.blk])) ?_
  refine WH.takex (i := 13) rfl (by kernel_rfl) (by kernel_rfl) (by kernel_rfl) hP hSW24 ?_
  refine pr_add rfl rfl rfl ?_
  refine WH.takex (i := 14) rfl (by kernel_rfl) (by kernel_rfl) (by kernel_rfl) hP hSW24 ?_
  refine pr_field (o := 4) (off' := 4) ff_96_2 rfl rfl rfl ?_
  refine WH.takex (i := 15) rfl (by kernel_rfl) (by kernel_rfl) (by kernel_rfl) hP hSW24 ?_
  refine pr_load_blk (i := 1) (vs := [(.int .i64 x0.2.2)]) (v := (.int .i64 x0.2.2)) tf_3 rfl rfl hS23 rfl rfl rfl (hS23.disj (i := 1) (j := 0) rfl rfl rfl b2 (by simp [R.blk])) ?_
  refine WH.takex (i := 16) rfl (by kernel_rfl) (by kernel_rfl) (by kernel_rfl) hP hSW24 ?_
  refine pr_mul rfl rfl rfl ?_
  have h26 : (w64 (2 * x0.2.2)) ≠ 0 := fun h26 => noneE (ifP h26 hF)
  replace hF := ifNP h26 hF
  refine WH.takex (i := 17) rfl (by kernel_rfl) (by kernel_rfl) (by kernel_rfl) hP hSW24 ?_
  refine pr_quo rfl rfl rfl h26 ?_
  refine WH.takex (i := 18) rfl (by kernel_rfl) (by kernel_rfl) (by kernel_rfl) hP hSW24 ?_
  refine pr_build (zs := [(.int .i64 0), (.int .i64 0)]) (out := [(.int .i64 (w64 (Int.tdiv (w64 ((w64 (2 * u13.1)) + x0.2.2)) (w64 (2 * x0.2.2))))), (.int .i64 (w64 (Int.tdiv (w64 ((w64 (2 * u13.2)) + x0.2.2)) (w64 (2 * x0.2.2)))))]) (vs := [(.int .i64 (w64 (Int.tdiv (w64 ((w64 (2 * u13.1)) + x0.2.2)) (w64 (2 * x0.2.2))))), (.int .i64 (w64 (Int.tdiv (w64 ((w64 (2 * u13.2)) + x0.2.2)) (w64 (2 * x0.2.2)))))]) (css := [[(.int .i64 (w64 (Int.tdiv (w64 ((w64 (2 * u13.1)) + x0.2.2)) (w64 (2 * x0.2.2)))))], [(.int .i64 (w64 (Int.tdiv (w64 ((w64 (2 * u13.2)) + x0.2.2)) (w64 (2 * x0.2.2)))))]]) tf_54 pl_54 rfl rfl rfl rfl rfl ?_
  refine WH.one (i := 19) (by kernel_rfl) rfl ?_
  refine wl_store_blk (i := 0) (vs := [(.int .i64 (w64 (Int.tdiv (w64 ((w64 (2 * u13.1)) + x0.2.2)) (w64 (2 * x0.2.2))))), (.int .i64 (w64 (Int.tdiv (w64 ((w64 (2 * u13.2)) + x0.2.2)) (w64 (2 * x0.2.2)))))]) (cs' := [(.int .i64 (w64 (Int.tdiv (w64 ((w64 (2 * u13.1)) + x0.2.2)) (w64 (2 * x0.2.2))))), (.int .i64 (w64 (Int.tdiv (w64 ((w64 (2 * u13.2)) + x0.2.2)) (w64 (2 * x0.2.2)))))]) tf_54 rfl rfl rfl rfl hB22 hS23 rfl rfl ⟨rfl, rfl, trivial⟩ rfl ?_
  intro w27 hk30 hB28 hS29
  have hSW31 := hSW24.wr' hk30.1 hk30.2.1 (fun _ _ h => h)
  refine WL.nil (WH.ret hSW31 ?_)
  refine WH.done (by kernel_rfl) ?_
  refine fun a ha => hK19 _ _ ?_ a ha
  refine W.ret ?_
  have hr := Option.some.inj hF
  subst hr
  exact rets (vs := [(.agg #[(.int .i64 (w64 (Int.tdiv (w64 ((w64 (2 * u13.1)) + x0.2.2)) (w64 (2 * x0.2.2))))), (.int .i64 (w64 (Int.tdiv (w64 ((w64 (2 * u13.2)) + x0.2.2)) (w64 (2 * x0.2.2)))))])]) hQ rfl ⟨rv_cell (i := 0) tf_54 rfl hS29 rfl rfl rfl, trivial⟩ ⟨rfl, hB28⟩
theorem C_spec_SpotAfter (w0 : World) (x0 : (Int × (Int × Int) × (List (Int × (Int × Int))))) (v0_0 : Value) (h0_0 : rdS ty_141 (· < w0.heap.size) w0 v0_0 x0.2.2) (x1 : Int) (r : ((Int × Int) × Bool)) (hF : F_spec_SpotAfter x0 x1 = some r) :
    Calls Try.prog 125 [(.agg #[(.int .i64 x0.1), (.int .i64 x0.2.1.1), (.int .i64 x0.2.1.2), v0_0]), (.int .i64 x1)].toArray w0 fun e w' => e = .returned (.tuple #[(.agg #[(.int .i64 r.1.1), (.int .i64 r.1.2)]), (.bool r.2)]) ∧ Below w0.heap.size w0 w' := by
  refine calls_mk' Try.func125 rfl Try.ntmps125 rfl rfl fun Q hQ hP => ?_
  have hB : Below w0.heap.size w0 w0 := Below.refl _ _
  have hS : Sep w0.heap.size w0 [] := Sep.nil _ _
  unfold F_spec_SpotAfter at hF
  refine W.seq fun K1 hK1 => ?_
  refine W.region ?_
  refine wl_box (cs := [(.int .i64 x0.1), (.int .i64 x0.2.1.1), (.int .i64 x0.2.1.2), v0_0]) rfl rfl rfl hB hS ?_
  intro b2 w3 hb4 hB5 hS6
  refine wl_alloc (cs := [(.int .i64 0), (.int .i64 0)]) tf_54 rfl rfl hB5 hS6 ?_
  intro b7 w8 hb9 hB10 hS11
  refine wl_assign rfl rfl ?_
  refine WL.nil ?_
  refine fun a ha => hK1 _ _ ?_ a ha
  refine W.seq fun K12 hK12 => ?_
  refine W.seq fun K13 hK13 => ?_
  obtain ⟨k18, hk18, hF⟩ := jE1 hF
  have hJ19 : ∀ (y17 : Bool) (w14 : World) (_ : k18 y17 = some r) (_ : Below w0.heap.size w0 w14) (_ : Sep w0.heap.size w14 [R.blk b2 114 [(.int .i64 x0.1), (.int .i64 x0.2.1.1), (.int .i64 x0.2.1.2), v0_0], R.blk b7 54 [(.int .i64 0), (.int .i64 0)]]), ∀ a, St 40 [(1, (.int .i64 x1)), (2, (.pointer (some ⟨b2, 0, none⟩))), (4, (.pointer (some ⟨b7, 0, none⟩))), (14, (.bool y17))] a → K13 a w14 := by
    intro y17 w14 hF hB15 hS16
    subst hk18
    refine fun a ha => hK13 _ _ ?_ a ha
    refine W.cond rfl (fun h20 => ?_) (fun h20 => ?_)
    · replace hF := ifP h20 hF
      refine W.seq fun K21 hK21 => ?_
      refine W.region ?_
      refine wl_build (zs := [(.int .i64 0), (.int .i64 0)]) (out := [(.int .i64 0), (.int .i64 0)]) (vs := []) (css := []) tf_54 pl_54 rfl rfl rfl rfl rfl ?_
      refine wl_store_blk (i := 1) (vs := [(.int .i64 0), (.int .i64 0)]) (cs' := [(.int .i64 0), (.int .i64 0)]) tf_54 rfl rfl rfl rfl hB15 hS16 rfl rfl ⟨rfl, rfl, trivial⟩ rfl ?_
      intro w22 hk25 hB23 hS24
      refine wl_assign rfl rfl ?_
      refine WL.nil ?_
      refine fun a ha => hK21 _ _ ?_ a ha
      refine W.ret ?_
      have hr := Option.some.inj hF
      subst hr
      exact rets (vs := [(.agg #[(.int .i64 0), (.int .i64 0)]), (.bool false)]) hQ rfl ⟨rv_cell (i := 1) tf_54 rfl hS24 rfl rfl rfl, rv_tmp rfl, trivial⟩ ⟨rfl, hB23⟩
    · replace hF := ifN h20 hF
      refine W.skip ?_
      refine fun a ha => hK12 _ _ ?_ a ha
      refine W.seq fun K26 hK26 => ?_
      refine W.seq fun K27 hK27 => ?_
      refine W.region ?_
      refine wl_move rfl rfl ?_
      refine wl_eql rfl rfl rfl ?_
      refine WL.nil ?_
      refine fun a ha => hK27 _ _ ?_ a ha
      refine W.cond rfl (fun h28 => ?_) (fun h28 => ?_)
      · replace hF := ifP h28 hF
        refine W.seq fun K29 hK29 => ?_
        refine W.region ?_
        refine wl_field (o := 1) (off' := 1) ff_114_1 rfl rfl rfl ?_
        refine wl_load_blk (i := 0) (vs := [(.int .i64 x0.2.1.1), (.int .i64 x0.2.1.2)]) (v := (.agg #[(.int .i64 x0.2.1.1), (.int .i64 x0.2.1.2)])) tf_54 rfl rfl hS16 rfl rfl rfl ?_
        refine wl_store_blk (i := 1) (vs := [(.int .i64 x0.2.1.1), (.int .i64 x0.2.1.2)]) (cs' := [(.int .i64 x0.2.1.1), (.int .i64 x0.2.1.2)]) tf_54 rfl rfl rfl rfl hB15 hS16 rfl rfl ⟨rfl, rfl, trivial⟩ rfl ?_
        intro w30 hk33 hB31 hS32
        refine wl_assign rfl rfl ?_
        refine WL.nil ?_
        refine fun a ha => hK29 _ _ ?_ a ha
        refine W.ret ?_
        have hr := Option.some.inj hF
        subst hr
        exact rets (vs := [(.agg #[(.int .i64 x0.2.1.1), (.int .i64 x0.2.1.2)]), (.bool true)]) hQ rfl ⟨rv_cell (i := 1) tf_54 rfl hS32 rfl rfl rfl, rv_tmp rfl, trivial⟩ ⟨rfl, hB31⟩
      · replace hF := ifN h28 hF
        refine W.skip ?_
        refine fun a ha => hK26 _ _ ?_ a ha
        refine W.seq fun K34 hK34 => ?_
        refine W.seq fun K35 hK35 => ?_
        refine W.region ?_
        refine wl_load_blk (i := 0) (vs := [(.int .i64 x0.1), (.int .i64 x0.2.1.1), (.int .i64 x0.2.1.2), v0_0]) (v := (.agg #[(.int .i64 x0.1), (.int .i64 x0.2.1.1), (.int .i64 x0.2.1.2), v0_0])) tf_114 rfl rfl hS16 rfl rfl rfl ?_
        obtain ⟨u36, hu36, hF⟩ := bindE hF
        refine wl_call rfl Try.call155 (C_spec_shRows w14 x0 v0_0 (h0_0.ro hB15) _ hu36) rfl ?_
        rintro _ w39 ⟨v37, F38, rfl, hb40, hM43⟩
        refine ⟨_, rfl, ?_⟩
        have hB41 := hB15.trans (hb40.mono hB15.size)
        have hS42 := hS16.join hb40 hM43 hB15.size
        refine wl_lenr (e := ty_96) (l := u36) Try.underlying87 rfl rfl (hS42.own_ro (i := 0) rfl) ?_
        refine wl_move rfl rfl ?_
        refine WL.nil ?_
        refine fun a ha => hK35 _ _ ?_ a ha
        refine W.block ?_
        refine W.loopk (fun m a w44 => ∃ (y47 : Int) (y48 : Int), St 40 [(1, (.int .i64 y47)), (4, (.pointer (some ⟨b7, 0, none⟩))), (21, v37), (22, (.int .i64 (List.length u36 : Int))), (23, (.int .i64 y48))] a ∧ Below w0.heap.size w0 w44 ∧ Sep w0.heap.size w44 [R.blk b7 54 [(.int .i64 0), (.int .i64 0)], R.own ty_96 F38 v37 u36] ∧ F_spec_SpotAfter_L1 u36 m y47 y48 = some r) FU ?_ ?_
        ·
          exact fun a ha => ⟨x1, 0, ha.sub ⟨rfl, rfl, rfl, rfl, rfl, trivial⟩, hB41, (hS42.sel [2, 0] rfl), hF⟩
        ·
          rintro m51 a w44 ⟨y47, y48, ha, hB45, hS46, hF⟩ KL50 hKL50
          refine W.at ?_ ha
          cases m51 with
          | zero => exact noneE hF
          | succ m51 =>
            obtain ⟨nx49, hnx49⟩ : ∃ k, k = F_spec_SpotAfter_L1 u36 m51 := ⟨_, rfl⟩
            rw [F_spec_SpotAfter_L1, ← hnx49] at hF
            refine W.seq fun K52 hK52 => ?_
            refine W.region ?_
            refine wl_lss rfl rfl rfl ?_
            refine WL.nil ?_
            refine fun a ha => hK52 _ _ ?_ a ha
            refine W.seq fun K53 hK53 => ?_
            refine W.cond rfl (fun h54 => ?_) (fun h54 => ?_)
            · replace hF := ifP h54 hF
              refine W.skip ?_
              refine fun a ha => hK53 _ _ ?_ a ha
              refine W.seq fun K55 hK55 => ?_
              refine W.block ?_
              refine W.seq fun K56 hK56 => ?_
              refine W.region ?_
              obtain ⟨u57, hu57, hF⟩ := bindE hF
              refine wl_indexo (e := ty_96) (i := 1) Try.underlying87 rfl rfl rfl hS46 rfl hu57 ?_
              rintro p58 _ rfl hp59 ho60
              refine wl_load_p (vs := [(.int .i64 u57.1.1), (.int .i64 u57.1.2), (.int .i64 u57.2.1.1), (.int .i64 u57.2.1.2), (.int .i64 u57.2.2)]) (v := (.agg #[(.int .i64 u57.1.1), (.int .i64 u57.1.2), (.int .i64 u57.2.1.1), (.int .i64 u57.2.1.2), (.int .i64 u57.2.2)])) tf_96 rfl rfl hp59 rfl rfl ?_
              refine wl_alloc (cs := [(.int .i64 0), (.int .i64 0), (.int .i64 0), (.int .i64 0), (.int .i64 0)]) tf_96 rfl rfl hB45 hS46 ?_
              intro b61 w62 hb63 hB64 hS65
              refine wl_store_blk (i := 0) (vs := [(.int .i64 u57.1.1), (.int .i64 u57.1.2), (.int .i64 u57.2.1.1), (.int .i64 u57.2.1.2), (.int .i64 u57.2.2)]) (cs' := [(.int .i64 u57.1.1), (.int .i64 u57.1.2), (.int .i64 u57.2.1.1), (.int .i64 u57.2.1.2), (.int .i64 u57.2.2)]) tf_96 rfl rfl rfl rfl hB64 hS65 rfl rfl ⟨rfl, rfl, rfl, rfl, rfl, trivial⟩ rfl ?_
              intro w66 hk69 hB67 hS68
              refine WL.nil ?_
              refine fun a ha => hK56 _ _ ?_ a ha
              refine W.seq fun K70 hK70 => ?_
              refine W.seq fun K71 hK71 => ?_
              refine W.region ?_
              refine wl_move rfl rfl ?_
              refine wl_field (o := 4) (off' := 4) ff_96_2 rfl rfl rfl ?_
              refine wl_load_blk (i := 0) (vs := [(.int .i64 u57.2.2)]) (v := (.int .i64 u57.2.2)) tf_3 rfl rfl hS68 rfl rfl rfl ?_
              refine wl_leq rfl rfl rfl ?_
              refine WL.nil ?_
              refine fun a ha => hK71 _ _ ?_ a ha
              refine W.cond rfl (fun h72 => ?_) (fun h72 => ?_)
              · replace hF := ifP h72 hF
                refine W.seq fun K73 hK73 => ?_
                refine W.region ?_
                refine wl_load_blk (i := 0) (vs := [(.int .i64 u57.1.1), (.int .i64 u57.1.2), (.int .i64 u57.2.1.1), (.int .i64 u57.2.1.2), (.int .i64 u57.2.2)]) (v := (.agg #[(.int .i64 u57.1.1), (.int .i64 u57.1.2), (.int .i64 u57.2.1.1), (.int .i64 u57.2.1.2), (.int .i64 u57.2.2)])) tf_96 rfl rfl hS68 rfl rfl rfl ?_
                refine wl_move rfl rfl ?_
                obtain ⟨u74, hu74, hF⟩ := bindE hF
                refine wl_call rfl Try.call156 (C_spec_mvRound w66 u57 y47 _ hu74) rfl ?_
                rintro _ w75 ⟨rfl, hb76⟩
                refine ⟨_, rfl, ?_⟩
                have hB77 := hB67.trans (hb76.mono hB67.size)
                have hS78 := hS68.below hb76
                refine wl_store_blk (i := 1) (vs := [(.int .i64 u74.1), (.int .i64 u74.2)]) (cs' := [(.int .i64 u74.1), (.int .i64 u74.2)]) tf_54 rfl rfl rfl rfl hB77 hS78 rfl rfl ⟨rfl, rfl, trivial⟩ rfl ?_
                intro w80 hk83 hB81 hS82
                refine wl_assign rfl rfl ?_
                refine WL.nil ?_
                refine fun a ha => hK73 _ _ ?_ a ha
                refine W.ret ?_
                have hr := Option.some.inj hF
                subst hr
                exact rets (vs := [(.agg #[(.int .i64 u74.1), (.int .i64 u74.2)]), (.bool true)]) hQ rfl ⟨rv_cell (i := 1) tf_54 rfl hS82 rfl rfl rfl, rv_tmp rfl, trivial⟩ ⟨rfl, hB81⟩
              · replace hF := ifN h72 hF
                refine W.skip ?_
                refine fun a ha => hK70 _ _ ?_ a ha
                refine W.region ?_
                refine wl_move rfl rfl ?_
                refine wl_field (o := 4) (off' := 4) ff_96_2 rfl rfl rfl ?_
                refine wl_load_blk (i := 0) (vs := [(.int .i64 u57.2.2)]) (v := (.int .i64 u57.2.2)) tf_3 rfl rfl hS68 rfl rfl rfl ?_
                refine wl_sub rfl rfl rfl ?_
                refine wl_assign rfl rfl ?_
                refine WL.nil ?_
                refine fun a ha => hK55 _ _ ?_ a ha
                refine W.region ?_
                refine wl_add rfl rfl rfl ?_
                refine wl_move rfl rfl ?_
                refine WL.nil ?_
                rw [hnx49] at hF
                exact fun a ha => hKL50 a _ m51 (Nat.lt_succ_self m51) ⟨(w64 (y47 - u57.2.2)), (w64 (y48 + 1)), ha.sub ⟨rfl, rfl, rfl, rfl, rfl, trivial⟩, hB67, (hS68.sel [1, 2] rfl), hF⟩
            · replace hF := ifN h54 hF
              refine W.exit ?_
              refine fun a ha => hK34 _ _ ?_ a ha
              refine W.seq fun K84 hK84 => ?_
              refine W.region ?_
              refine wl_build (zs := [(.int .i64 0), (.int .i64 0)]) (out := [(.int .i64 0), (.int .i64 0)]) (vs := []) (css := []) tf_54 pl_54 rfl rfl rfl rfl rfl ?_
              refine wl_store_blk (i := 0) (vs := [(.int .i64 0), (.int .i64 0)]) (cs' := [(.int .i64 0), (.int .i64 0)]) tf_54 rfl rfl rfl rfl hB45 hS46 rfl rfl ⟨rfl, rfl, trivial⟩ rfl ?_
              intro w85 hk88 hB86 hS87
              refine wl_assign rfl rfl ?_
              refine WL.nil ?_
              refine fun a ha => hK84 _ _ ?_ a ha
              refine W.ret ?_
              have hr := Option.some.inj hF
              subst hr
              exact rets (vs := [(.agg #[(.int .i64 0), (.int .i64 0)]), (.bool false)]) hQ rfl ⟨rv_cell (i := 0) tf_54 rfl hS87 rfl rfl rfl, rv_tmp rfl, trivial⟩ ⟨rfl, hB86⟩
  refine W.region ?_
  refine wl_load_blk (i := 1) (vs := [(.int .i64 x0.1), (.int .i64 x0.2.1.1), (.int .i64 x0.2.1.2), v0_0]) (v := (.agg #[(.int .i64 x0.1), (.int .i64 x0.2.1.1), (.int .i64 x0.2.1.2), v0_0])) tf_114 rfl rfl hS11 rfl rfl rfl ?_
  obtain ⟨u89, hu89, hF⟩ := bindE hF
  refine wl_call rfl Try.call154 (C_spec_shGood w8 x0 v0_0 (h0_0.ro hB10) _ hu89) rfl ?_
  rintro _ w90 ⟨rfl, hb91⟩
  refine ⟨_, rfl, ?_⟩
  have hB92 := hB10.trans (hb91.mono hB10.size)
  have hS93 := hS11.below hb91
  refine wl_not rfl rfl ?_
  refine wl_move rfl rfl ?_
  rcases bE (!u89) with h95 | h95
  · replace hF := ifP h95 hF
    refine wl_off rfl rfl rfl h95 ?_
    refine wl_off rfl rfl rfl h95 ?_
    refine wl_pick_t rfl rfl h95 rfl ?_
    refine WL.nil ?_
    exact fun a ha => hJ19 (true) _ hF hB92 (hS93.sel [1, 0] rfl) a (ha.sub ⟨rfl, rfl, rfl, rfl, trivial⟩)
  · replace hF := ifN h95 hF
    refine wl_on rfl rfl h95 ?_
    refine wl_move rfl rfl ?_
    refine wl_on rfl rfl h95 ?_
    refine wl_lss rfl rfl rfl ?_
    refine wl_pick_f rfl rfl h95 rfl ?_
    refine WL.nil ?_
    exact fun a ha => hJ19 ((decide (x1 < 0))) _ hF hB92 (hS93.sel [1, 0] rfl) a (ha.sub ⟨rfl, rfl, rfl, rfl, trivial⟩)
theorem C_spec_mnWhere (w0 : World) (x0 : (((List (List (Int × Int))) × (List Int) × Int × Int) × Int × (List Int) × (List Int))) (v0_0 : Value) (h0_0 : rdS ty_70 (· < w0.heap.size) w0 v0_0 x0.1.1) (v0_1 : Value) (h0_1 : rdS ty_3 (· < w0.heap.size) w0 v0_1 x0.1.2.1) (v0_2 : Value) (h0_2 : rdS ty_3 (· < w0.heap.size) w0 v0_2 x0.2.2.1) (v0_3 : Value) (h0_3 : rdS ty_3 (· < w0.heap.size) w0 v0_3 x0.2.2.2) (x1 : Int) (r : (Int × Int)) (hF : F_spec_mnWhere x0 x1 = some r) :
    Calls Try.prog 83 [(.agg #[v0_0, v0_1, (.int .i64 x0.1.2.2.1), (.int .i64 x0.1.2.2.2), (.int .i64 x0.2.1), v0_2, v0_3]), (.int .i64 x1)].toArray w0 fun e w' => e = .returned (.agg #[(.int .i64 r.1), (.int .i64 r.2)]) ∧ Below w0.heap.size w0 w' := by
  refine calls_mk' Try.func83 rfl Try.ntmps83 rfl rfl fun Q hQ hP => ?_
  have hB : Below w0.heap.size w0 w0 := Below.refl _ _
  have hS : Sep w0.heap.size w0 [] := Sep.nil _ _
  unfold F_spec_mnWhere at hF
  refine W.seq fun K1 hK1 => ?_
  refine W.region ?_
  refine wl_box (cs := [v0_0, v0_1, (.int .i64 x0.1.2.2.1), (.int .i64 x0.1.2.2.2), (.int .i64 x0.2.1), v0_2, v0_3]) rfl rfl rfl hB hS ?_
  intro b2 w3 hb4 hB5 hS6
  refine wl_alloc (cs := [(.int .i64 0), (.int .i64 0)]) tf_54 rfl rfl hB5 hS6 ?_
  intro b7 w8 hb9 hB10 hS11
  refine WL.nil ?_
  refine fun a ha => hK1 _ _ ?_ a ha
  refine W.seq fun K12 hK12 => ?_
  obtain ⟨k19, hk19, hF⟩ := jE2 hF
  have hJ20 : ∀ (y17 : Int) (y18 : Int) (b16 : Nat) (w13 : World) (_ : k19 y17 y18 = some r) (_ : Below w0.heap.size w0 w13) (_ : Sep w0.heap.size w13 [R.blk b7 54 [(.int .i64 0), (.int .i64 0)], R.blk b16 54 [(.int .i64 y17), (.int .i64 y18)]]), ∀ a, St 23 [(4, (.pointer (some ⟨b7, 0, none⟩))), (5, (.pointer (some ⟨b16, 0, none⟩)))] a → K12 a w13 := by
    intro y17 y18 b16 w13 hF hB14 hS15
    subst hk19
    refine fun a ha => hK12 _ _ ?_ a ha
    refine W.seq fun K21 hK21 => ?_
    refine W.region ?_
    refine wl_load_blk (i := 1) (vs := [(.int .i64 y17), (.int .i64 y18)]) (v := (.agg #[(.int .i64 y17), (.int .i64 y18)])) tf_54 rfl rfl hS15 rfl rfl rfl ?_
    refine wl_store_blk (i := 0) (vs := [(.int .i64 y17), (.int .i64 y18)]) (cs' := [(.int .i64 y17), (.int .i64 y18)]) tf_54 rfl rfl rfl rfl hB14 hS15 rfl rfl ⟨rfl, rfl, trivial⟩ rfl ?_
    intro w22 hk25 hB23 hS24
    refine WL.nil ?_
    refine fun a ha => hK21 _ _ ?_ a ha
    refine W.ret ?_
    have hr := Option.some.inj hF
    subst hr
    exact rets (vs := [(.agg #[(.int .i64 y17), (.int .i64 y18)])]) hQ rfl ⟨rv_cell (i := 0) tf_54 rfl hS24 rfl rfl rfl, trivial⟩ ⟨rfl, hB23⟩
  refine W.regionH mixed_ [] hB10 hS11 ?_
  intro w26 hb27 hB28 hS29
  have hSW30 := KeepX.refl w26 []
  refine WH.takex (i := 0) rfl (by kernel_rfl) (by kernel_rfl) (by kernel_rfl) hP hSW30 ?_
  refine pr_field (o := 0) (off' := 0) ff_58_0 rfl rfl rfl ?_
  refine WH.takex (i := 1) rfl (by kernel_rfl) (by kernel_rfl) (by kernel_rfl) hP hSW30 ?_
  refine pr_field (o := 0) (off' := 0) ff_31_0 rfl rfl rfl ?_
  refine WH.takex (i := 2) rfl (by kernel_rfl) (by kernel_rfl) (by kernel_rfl) hP hSW30 ?_
  refine pr_load_blk (i := 1) (vs := [v0_0]) (v := v0_0) tf_29 rfl rfl hS29 rfl rfl rfl (by simp) ?_
  refine WH.takex (i := 3) rfl (by kernel_rfl) (by kernel_rfl) (by kernel_rfl) hP hSW30 ?_
  refine pr_field (o := 0) (off' := 0) ff_58_0 rfl rfl rfl ?_
  refine WH.takex (i := 4) rfl (by kernel_rfl) (by kernel_rfl) (by kernel_rfl) hP hSW30 ?_
  refine pr_field (o := 1) (off' := 1) ff_31_1 rfl rfl rfl ?_
  refine WH.takex (i := 5) rfl (by kernel_rfl) (by kernel_rfl) (by kernel_rfl) hP hSW30 ?_
  refine pr_load_blk (i := 1) (vs := [v0_1]) (v := v0_1) tf_23 rfl rfl hS29 rfl rfl rfl (by simp) ?_
  refine WH.takex (i := 6) rfl (by kernel_rfl) (by kernel_rfl) (by kernel_rfl) hP hSW30 ?_
  refine pr_move rfl rfl ?_
  refine WH.takex (i := 8) rfl (by kernel_rfl) (by kernel_rfl) (by kernel_rfl) hP hSW30 ?_
  refine pr_load_blk (i := 1) (vs := [v0_0, v0_1, (.int .i64 x0.1.2.2.1), (.int .i64 x0.1.2.2.2), (.int .i64 x0.2.1), v0_2, v0_3]) (v := (.agg #[v0_0, v0_1, (.int .i64 x0.1.2.2.1), (.int .i64 x0.1.2.2.2), (.int .i64 x0.2.1), v0_2, v0_3])) tf_58 rfl rfl hS29 rfl rfl rfl (by simp) ?_
  refine WH.takex (i := 9) rfl (by kernel_rfl) (by kernel_rfl) (by kernel_rfl) hP hSW30 ?_
  refine pr_move rfl rfl ?_
  refine WH.many (is := [7, 15]) (by kernel_rfl) rfl ?_
  refine List.forall_mem_cons.2 ⟨⟨_, rfl, ?_⟩, List.forall_mem_cons.2 ⟨⟨_, rfl, ?_⟩, fun _ h => by cases h⟩⟩
  ·
    obtain ⟨u31, hu31, hF⟩ := bindE hF
    refine wl_call rfl Try.call100 (C_spec_shOf w26 x0.1.1 v0_0 (h0_0.ro hB28) x0.1.2.1 v0_1 (h0_1.ro hB28) x1 _ hu31) rfl ?_
    rintro _ w34 ⟨v32, F33, rfl, hb35, hM38⟩
    refine ⟨_, rfl, ?_⟩
    have hB36 := hB28.trans (hb35.mono hB28.size)
    have hS37 := hS29.join hb35 hM38 hB28.size
    have hSW39 := hSW30.ext hb35
    refine WL.nil (WH.ret hSW39 ?_)
    refine WH.many (is := [10, 15]) (by kernel_rfl) rfl ?_
    refine List.forall_mem_cons.2 ⟨⟨_, rfl, ?_⟩, List.forall_mem_cons.2 ⟨⟨_, rfl, ?_⟩, fun _ h => by cases h⟩⟩
    ·
      obtain ⟨u40, hu40, hF⟩ := bindE hF
      refine wl_call rfl Try.call126 (C_spec_mnCount w34 x0 v0_0 (h0_0.ro hB36) v0_1 (h0_1.ro hB36) v0_2 (h0_2.ro hB36) v0_3 (h0_3.ro hB36) x1 _ hu40) rfl ?_
      rintro _ w41 ⟨rfl, hb42⟩
      refine ⟨_, rfl, ?_⟩
      have hB43 := hB36.trans (hb42.mono hB36.size)
      have hS44 := hS37.below hb42
      have hSW46 := hSW39.ext hb42
      refine WL.nil (WH.ret hSW46 ?_)
      refine WH.many (is := [11, 15]) (by kernel_rfl) rfl ?_
      refine List.forall_mem_cons.2 ⟨⟨_, rfl, ?_⟩, List.forall_mem_cons.2 ⟨⟨_, rfl, ?_⟩, fun _ h => by cases h⟩⟩
      ·
        obtain ⟨u47, hu47, hF⟩ := bindE hF
        refine wl_call rfl Try.call125 (C_spec_SpotAfter w41 u31 v32 (hS44.own_ro (i := 0) rfl) u40 _ hu47) rfl ?_
        rintro _ w48 ⟨rfl, hb49⟩
        refine ⟨_, rfl, ?_⟩
        have hB50 := hB43.trans (hb49.mono hB43.size)
        have hS51 := hS44.below hb49
        have hSW53 := hSW46.ext hb49
        refine WL.nil (WH.ret hSW53 ?_)
        refine WH.takex (i := 12) rfl (by kernel_rfl) (by kernel_rfl) (by kernel_rfl) hP hSW53 ?_
        refine pr_move rfl rfl ?_
        refine WH.takex (i := 13) rfl (by kernel_rfl) (by kernel_rfl) (by kernel_rfl) hP hSW53 ?_
        refine pr_extract rfl rfl rfl ?_
        refine WH.takex (i := 14) rfl (by kernel_rfl) (by kernel_rfl) (by kernel_rfl) hP hSW53 ?_
        refine pr_extract rfl rfl rfl ?_
        refine WH.one (i := 15) (by kernel_rfl) rfl ?_
        refine wl_alloc (cs := [(.int .i64 0), (.int .i64 0)]) tf_54 rfl rfl (Below.self w48) (Sep.nil _ _) ?_
        intro b54 w55 hb56 hB59 hM60
        have hB57 := hB50.trans (hb56.mono hB50.size)
        have hS58 := hS51.join hb56 hM60 hB50.size
        have hn61 : ∀ b ∈ [b54], w26.heap.size ≤ b := fun b hb => Nat.le_trans hSW53.size ((hM60.1 _ (List.mem_cons_self ..)).2.1 b hb).1
        have hSW62 := hSW53.ext hb56
        refine WL.nil (WH.ret hSW62 ?_)
        refine WH.one (i := 16) (by kernel_rfl) rfl ?_
        refine wl_store_blk (i := 0) (vs := [(.int .i64 u47.1.1), (.int .i64 u47.1.2)]) (cs' := [(.int .i64 u47.1.1), (.int .i64 u47.1.2)]) tf_54 rfl rfl rfl rfl hB57 hS58 rfl rfl ⟨rfl, rfl, trivial⟩ rfl ?_
        intro w63 hk66 hB64 hS65
        have hSW67 := hSW62.wr' hk66.1 hk66.2.1 (fun b hlt hb => absurd hlt (Nat.not_lt.2 (hn61 b hb)))
        have hn68 : ∀ b ∈ [b54], w26.heap.size ≤ b := fun b hb => (hk66.2.2 b hb).elim (hn61 b) fun h => Nat.le_trans hSW62.size h
        refine WL.nil (WH.ret hSW67 ?_)
        refine WH.takex (i := 17) rfl (by kernel_rfl) (by kernel_rfl) (by kernel_rfl) hP hSW67 ?_
        refine pr_assign rfl rfl ?_
        refine WH.done (by kernel_rfl) ?_
        exact fun a ha => hJ20 (u47.1.1) (u47.1.2) (b54) _ hF hB64 (hS65.sel [2, 0] rfl) a (ha.sub ⟨rfl, rfl, trivial⟩)
      ·
        refine wl_alloc (cs := [(.int .i64 0), (.int .i64 0)]) tf_54 rfl rfl (Below.self w41) (Sep.nil _ _) ?_
        intro b69 w70 hb71 hB74 hM75
        have hB72 := hB43.trans (hb71.mono hB43.size)
        have hS73 := hS44.join hb71 hM75 hB43.size
        have hn76 : ∀ b ∈ [b69], w26.heap.size ≤ b := fun b hb => Nat.le_trans hSW46.size ((hM75.1 _ (List.mem_cons_self ..)).2.1 b hb).1
        have hSW77 := hSW46.ext hb71
        refine WL.nil (WH.ret hSW77 ?_)
        refine WH.one (i := 11) (by kernel_rfl) rfl ?_
        obtain ⟨u78, hu78, hF⟩ := bindE hF
        refine wl_call rfl Try.call125 (C_spec_SpotAfter w70 u31 v32 (hS73.own_ro (i := 1) rfl) u40 _ hu78) rfl ?_
        rintro _ w79 ⟨rfl, hb80⟩
        refine ⟨_, rfl, ?_⟩
        have hB81 := hB72.trans (hb80.mono hB72.size)
        have hS82 := hS73.below hb80
        have hSW84 := hSW77.ext hb80
        refine WL.nil (WH.ret hSW84 ?_)
        refine WH.takex (i := 12) rfl (by kernel_rfl) (by kernel_rfl) (by kernel_rfl) hP hSW84 ?_
        refine pr_move rfl rfl ?_
        refine WH.takex (i := 13) rfl (by kernel_rfl) (by kernel_rfl) (by kernel_rfl) hP hSW84 ?_
        refine pr_extract rfl rfl rfl ?_
        refine WH.takex (i := 14) rfl (by kernel_rfl) (by kernel_rfl) (by kernel_rfl) hP hSW84 ?_
        refine pr_extract rfl rfl rfl ?_
        refine WH.one (i := 16) (by kernel_rfl) rfl ?_
        refine wl_store_blk (i := 0) (vs := [(.int .i64 u78.1.1), (.int .i64 u78.1.2)]) (cs' := [(.int .i64 u78.1.1), (.int .i64 u78.1.2)]) tf_54 rfl rfl rfl rfl hB81 hS82 rfl rfl ⟨rfl, rfl, trivial⟩ rfl ?_
        intro w85 hk88 hB86 hS87
        have hSW89 := hSW84.wr' hk88.1 hk88.2.1 (fun b hlt hb => absurd hlt (Nat.not_lt.2 (hn76 b hb)))
        have hn90 : ∀ b ∈ [b69], w26.heap.size ≤ b := fun b hb => (hk88.2.2 b hb).elim (hn76 b) fun h => Nat.le_trans hSW84.size h
        refine WL.nil (WH.ret hSW89 ?_)
        refine WH.takex (i := 17) rfl (by kernel_rfl) (by kernel_rfl) (by kernel_rfl) hP hSW89 ?_
        refine pr_assign rfl rfl ?_
        refine WH.done (by kernel_rfl) ?_
        exact fun a ha => hJ20 (u78.1.1) (u78.1.2) (b69) _ hF hB86 (hS87.sel [2, 0] rfl) a (ha.sub ⟨rfl, rfl, trivial⟩)
    ·
      refine wl_alloc (cs := [(.int .i64 0), (.int .i64 0)]) tf_54 rfl rfl (Below.self w34) (Sep.nil _ _) ?_
      intro b91 w92 hb93 hB96 hM97
      have hB94 := hB36.trans (hb93.mono hB36.size)
      have hS95 := hS37.join hb93 hM97 hB36.size
      have hn98 : ∀ b ∈ [b91], w26.heap.size ≤ b := fun b hb => Nat.le_trans hSW39.size ((hM97.1 _ (List.mem_cons_self ..)).2.1 b hb).1
      have hSW99 := hSW39.ext hb93
      refine WL.nil (WH.ret hSW99 ?_)
      refine WH.one (i := 10) (by kernel_rfl) rfl ?_
      obtain ⟨u100, hu100, hF⟩ := bindE hF
      refine wl_call rfl Try.call126 (C_spec_mnCount w92 x0 v0_0 (h0_0.ro hB94) v0_1 (h0_1.ro hB94) v0_2 (h0_2.ro hB94) v0_3 (h0_3.ro hB94) x1 _ hu100) rfl ?_
      rintro _ w101 ⟨rfl, hb102⟩
      refine ⟨_, rfl, ?_⟩
      have hB103 := hB94.trans (hb102.mono hB94.size)
      have hS104 := hS95.below hb102
      have hSW106 := hSW99.ext hb102
      refine WL.nil (WH.ret hSW106 ?_)
      refine WH.one (i := 11) (by kernel_rfl) rfl ?_
      obtain ⟨u107, hu107, hF⟩ := bindE hF
      refine wl_call rfl Try.call125 (C_spec_SpotAfter w101 u31 v32 (hS104.own_ro (i := 1) rfl) u100 _ hu107) rfl ?_
      rintro _ w108 ⟨rfl, hb109⟩
      refine ⟨_, rfl, ?_⟩
      have hB110 := hB103.trans (hb109.mono hB103.size)
      have hS111 := hS104.below hb109
      have hSW113 := hSW106.ext hb109
      refine WL.nil (WH.ret hSW113 ?_)
      refine WH.takex (i := 12) rfl (by kernel_rfl) (by kernel_rfl) (by kernel_rfl) hP hSW113 ?_
      refine pr_move rfl rfl ?_
      refine WH.takex (i := 13) rfl (by kernel_rfl) (by kernel_rfl) (by kernel_rfl) hP hSW113 ?_
      refine pr_extract rfl rfl rfl ?_
      refine WH.takex (i := 14) rfl (by kernel_rfl) (by kernel_rfl) (by kernel_rfl) hP hSW113 ?_
      refine pr_extract rfl rfl rfl ?_
      refine WH.one (i := 16) (by kernel_rfl) rfl ?_
      refine wl_store_blk (i := 0) (vs := [(.int .i64 u107.1.1), (.int .i64 u107.1.2)]) (cs' := [(.int .i64 u107.1.1), (.int .i64 u107.1.2)]) tf_54 rfl rfl rfl rfl hB110 hS111 rfl rfl ⟨rfl, rfl, trivial⟩ rfl ?_
      intro w114 hk117 hB115 hS116
      have hSW118 := hSW113.wr' hk117.1 hk117.2.1 (fun b hlt hb => absurd hlt (Nat.not_lt.2 (hn98 b hb)))
      have hn119 : ∀ b ∈ [b91], w26.heap.size ≤ b := fun b hb => (hk117.2.2 b hb).elim (hn98 b) fun h => Nat.le_trans hSW113.size h
      refine WL.nil (WH.ret hSW118 ?_)
      refine WH.takex (i := 17) rfl (by kernel_rfl) (by kernel_rfl) (by kernel_rfl) hP hSW118 ?_
      refine pr_assign rfl rfl ?_
      refine WH.done (by kernel_rfl) ?_
      exact fun a ha => hJ20 (u107.1.1) (u107.1.2) (b91) _ hF hB115 (hS116.sel [2, 0] rfl) a (ha.sub ⟨rfl, rfl, trivial⟩)
  ·
    refine wl_alloc (cs := [(.int .i64 0), (.int .i64 0)]) tf_54 rfl rfl (Below.self w26) (Sep.nil _ _) ?_
    intro b120 w121 hb122 hB125 hM126
    have hB123 := hB28.trans (hb122.mono hB28.size)
    have hS124 := hS29.join hb122 hM126 hB28.size
    have hn127 : ∀ b ∈ [b120], w26.heap.size ≤ b := fun b hb => Nat.le_trans hSW30.size ((hM126.1 _ (List.mem_cons_self ..)).2.1 b hb).1
    have hSW128 := hSW30.ext hb122
    refine WL.nil (WH.ret hSW128 ?_)
    refine WH.one (i := 7) (by kernel_rfl) rfl ?_
    obtain ⟨u129, hu129, hF⟩ := bindE hF
    refine wl_call rfl Try.call100 (C_spec_shOf w121 x0.1.1 v0_0 (h0_0.ro hB123) x0.1.2.1 v0_1 (h0_1.ro hB123) x1 _ hu129) rfl ?_
    rintro _ w132 ⟨v130, F131, rfl, hb133, hM136⟩
    refine ⟨_, rfl, ?_⟩
    have hB134 := hB123.trans (hb133.mono hB123.size)
    have hS135 := hS124.join hb133 hM136 hB123.size
    have hSW137 := hSW128.ext hb133
    refine WL.nil (WH.ret hSW137 ?_)
    refine WH.one (i := 10) (by kernel_rfl) rfl ?_
    obtain ⟨u138, hu138, hF⟩ := bindE hF
    refine wl_call rfl Try.call126 (C_spec_mnCount w132 x0 v0_0 (h0_0.ro hB134) v0_1 (h0_1.ro hB134) v0_2 (h0_2.ro hB134) v0_3 (h0_3.ro hB134) x1 _ hu138) rfl ?_
    rintro _ w139 ⟨rfl, hb140⟩
    refine ⟨_, rfl, ?_⟩
    have hB141 := hB134.trans (hb140.mono hB134.size)
    have hS142 := hS135.below hb140
    have hSW144 := hSW137.ext hb140
    refine WL.nil (WH.ret hSW144 ?_)
    refine WH.one (i := 11) (by kernel_rfl) rfl ?_
    obtain ⟨u145, hu145, hF⟩ := bindE hF
    refine wl_call rfl Try.call125 (C_spec_SpotAfter w139 u129 v130 (hS142.own_ro (i := 0) rfl) u138 _ hu145) rfl ?_
    rintro _ w146 ⟨rfl, hb147⟩
    refine ⟨_, rfl, ?_⟩
    have hB148 := hB141.trans (hb147.mono hB141.size)
    have hS149 := hS142.below hb147
    have hSW151 := hSW144.ext hb147
    refine WL.nil (WH.ret hSW151 ?_)
    refine WH.takex (i := 12) rfl (by kernel_rfl) (by kernel_rfl) (by kernel_rfl) hP hSW151 ?_
    refine pr_move rfl rfl ?_
    refine WH.takex (i := 13) rfl (by kernel_rfl) (by kernel_rfl) (by kernel_rfl) hP hSW151 ?_
    refine pr_extract rfl rfl rfl ?_
    refine WH.takex (i := 14) rfl (by kernel_rfl) (by kernel_rfl) (by kernel_rfl) hP hSW151 ?_
    refine pr_extract rfl rfl rfl ?_
    refine WH.one (i := 16) (by kernel_rfl) rfl ?_
    refine wl_store_blk (i := 1) (vs := [(.int .i64 u145.1.1), (.int .i64 u145.1.2)]) (cs' := [(.int .i64 u145.1.1), (.int .i64 u145.1.2)]) tf_54 rfl rfl rfl rfl hB148 hS149 rfl rfl ⟨rfl, rfl, trivial⟩ rfl ?_
    intro w152 hk155 hB153 hS154
    have hSW156 := hSW151.wr' hk155.1 hk155.2.1 (fun b hlt hb => absurd hlt (Nat.not_lt.2 (hn127 b hb)))
    have hn157 : ∀ b ∈ [b120], w26.heap.size ≤ b := fun b hb => (hk155.2.2 b hb).elim (hn127 b) fun h => Nat.le_trans hSW151.size h
    refine WL.nil (WH.ret hSW156 ?_)
    refine WH.takex (i := 17) rfl (by kernel_rfl) (by kernel_rfl) (by kernel_rfl) hP hSW156 ?_
    refine pr_assign rfl rfl ?_
    refine WH.done (by kernel_rfl) ?_
    exact fun a ha => hJ20 (u145.1.1) (u145.1.2) (b120) _ hF hB153 (hS154.sel [2, 1] rfl) a (ha.sub ⟨rfl, rfl, trivial⟩)
theorem C_spec_WhereNow (w0 : World) (x0 : (((List (List (Int × Int))) × (List Int) × Int × Int) × Int × (List Int) × (List Int))) (v0_0 : Value) (h0_0 : rdS ty_70 (· < w0.heap.size) w0 v0_0 x0.1.1) (v0_1 : Value) (h0_1 : rdS ty_3 (· < w0.heap.size) w0 v0_1 x0.1.2.1) (v0_2 : Value) (h0_2 : rdS ty_3 (· < w0.heap.size) w0 v0_2 x0.2.2.1) (v0_3 : Value) (h0_3 : rdS ty_3 (· < w0.heap.size) w0 v0_3 x0.2.2.2) (x1 : Int) (r : ((Int × Int) × Bool)) (hF : F_spec_WhereNow x0 x1 = some r) :
    Calls Try.prog 36 [(.agg #[v0_0, v0_1, (.int .i64 x0.1.2.2.1), (.int .i64 x0.1.2.2.2), (.int .i64 x0.2.1), v0_2, v0_3]), (.int .i64 x1)].toArray w0 fun e w' => e = .returned (.tuple #[(.agg #[(.int .i64 r.1.1), (.int .i64 r.1.2)]), (.bool r.2)]) ∧ Below w0.heap.size w0 w' := by
  refine calls_mk' Try.func36 rfl Try.ntmps36 rfl rfl fun Q hQ hP => ?_
  have hB : Below w0.heap.size w0 w0 := Below.refl _ _
  have hS : Sep w0.heap.size w0 [] := Sep.nil _ _
  unfold F_spec_WhereNow at hF
  refine W.seq fun K1 hK1 => ?_
  refine W.region ?_
  refine wl_box (cs := [v0_0, v0_1, (.int .i64 x0.1.2.2.1), (.int .i64 x0.1.2.2.2), (.int .i64 x0.2.1), v0_2, v0_3]) rfl rfl rfl hB hS ?_
  intro b2 w3 hb4 hB5 hS6
  refine wl_alloc (cs := [(.int .i64 0), (.int .i64 0)]) tf_54 rfl rfl hB5 hS6 ?_
  intro b7 w8 hb9 hB10 hS11
  refine wl_assign rfl rfl ?_
  refine WL.nil ?_
  refine fun a ha => hK1 _ _ ?_ a ha
  refine W.seq fun K12 hK12 => ?_
  refine W.seq fun K13 hK13 => ?_
  refine W.region ?_
  refine wl_load_blk (i := 1) (vs := [v0_0, v0_1, (.int .i64 x0.1.2.2.1), (.int .i64 x0.1.2.2.2), (.int .i64 x0.2.1), v0_2, v0_3]) (v := (.agg #[v0_0, v0_1, (.int .i64 x0.1.2.2.1), (.int .i64 x0.1.2.2.2), (.int .i64 x0.2.1), v0_2, v0_3])) tf_58 rfl rfl hS11 rfl rfl rfl ?_
  refine wl_move rfl rfl ?_
  obtain ⟨u14, hu14, hF⟩ := bindE hF
  refine wl_call rfl Try.call82 (C_spec_mnHas w8 x0 v0_0 (h0_0.ro hB10) v0_1 (h0_1.ro hB10) v0_2 (h0_2.ro hB10) v0_3 (h0_3.ro hB10) x1 _ hu14) rfl ?_
  rintro _ w15 ⟨rfl, hb16⟩
  refine ⟨_, rfl, ?_⟩
  have hB17 := hB10.trans (hb16.mono hB10.size)
  have hS18 := hS11.below hb16
  refine wl_not rfl rfl ?_
  refine WL.nil ?_
  refine fun a ha => hK13 _ _ ?_ a ha
  refine W.cond rfl (fun h20 => ?_) (fun h20 => ?_)
  · replace hF := ifP h20 hF
    refine W.seq fun K21 hK21 => ?_
    refine W.region ?_
    refine wl_build (zs := [(.int .i64 0), (.int .i64 0)]) (out := [(.int .i64 0), (.int .i64 0)]) (vs := []) (css := []) tf_54 pl_54 rfl rfl rfl rfl rfl ?_
    refine wl_store_blk (i := 0) (vs := [(.int .i64 0), (.int .i64 0)]) (cs' := [(.int .i64 0), (.int .i64 0)]) tf_54 rfl rfl rfl rfl hB17 hS18 rfl rfl ⟨rfl, rfl, trivial⟩ rfl ?_
    intro w22 hk25 hB23 hS24
    refine wl_assign rfl rfl ?_
    refine WL.nil ?_
    refine fun a ha => hK21 _ _ ?_ a ha
    refine W.ret ?_
    have hr := Option.some.inj hF
    subst hr
    exact rets (vs := [(.agg #[(.int .i64 0), (.int .i64 0)]), (.bool false)]) hQ rfl ⟨rv_cell (i := 0) tf_54 rfl hS24 rfl rfl rfl, rv_tmp rfl, trivial⟩ ⟨rfl, hB23⟩
  · replace hF := ifN h20 hF
    refine W.skip ?_
    refine fun a ha => hK12 _ _ ?_ a ha
    refine W.seq fun K26 hK26 => ?_
    refine W.region ?_
    refine wl_load_blk (i := 1) (vs := [v0_0, v0_1, (.int .i64 x0.1.2.2.1), (.int .i64 x0.1.2.2.2), (.int .i64 x0.2.1), v0_2, v0_3]) (v := (.agg #[v0_0, v0_1, (.int .i64 x0.1.2.2.1), (.int .i64 x0.1.2.2.2), (.int .i64 x0.2.1), v0_2, v0_3])) tf_58 rfl rfl hS18 rfl rfl rfl ?_
    refine wl_move rfl rfl ?_
    obtain ⟨u27, hu27, hF⟩ := bindE hF
    refine wl_call rfl Try.call83 (C_spec_mnWhere w15 x0 v0_0 (h0_0.ro hB17) v0_1 (h0_1.ro hB17) v0_2 (h0_2.ro hB17) v0_3 (h0_3.ro hB17) x1 _ hu27) rfl ?_
    rintro _ w28 ⟨rfl, hb29⟩
    refine ⟨_, rfl, ?_⟩
    have hB30 := hB17.trans (hb29.mono hB17.size)
    have hS31 := hS18.below hb29
    refine wl_store_blk (i := 0) (vs := [(.int .i64 u27.1), (.int .i64 u27.2)]) (cs' := [(.int .i64 u27.1), (.int .i64 u27.2)]) tf_54 rfl rfl rfl rfl hB30 hS31 rfl rfl ⟨rfl, rfl, trivial⟩ rfl ?_
    intro w33 hk36 hB34 hS35
    refine wl_assign rfl rfl ?_
    refine WL.nil ?_
    refine fun a ha => hK26 _ _ ?_ a ha
    refine W.ret ?_
    have hr := Option.some.inj hF
    subst hr
    exact rets (vs := [(.agg #[(.int .i64 u27.1), (.int .i64 u27.2)]), (.bool true)]) hQ rfl ⟨rv_cell (i := 0) tf_54 rfl hS35 rfl rfl rfl, rv_tmp rfl, trivial⟩ ⟨rfl, hB34⟩
theorem C_impl_hasPerformer (w0 : World) (x0 : (((List (List (Int × Int))) × (List Int) × Int × Int) × Int × (List Int) × (List Int))) (v0_0 : Value) (h0_0 : rdS ty_70 (· < w0.heap.size) w0 v0_0 x0.1.1) (v0_1 : Value) (h0_1 : rdS ty_3 (· < w0.heap.size) w0 v0_1 x0.1.2.1) (v0_2 : Value) (h0_2 : rdS ty_3 (· < w0.heap.size) w0 v0_2 x0.2.2.1) (v0_3 : Value) (h0_3 : rdS ty_3 (· < w0.heap.size) w0 v0_3 x0.2.2.2) (x1 : Int) (r : Bool) (hF : F_impl_hasPerformer x0 x1 = some r) :
    Calls Try.prog 84 [(.agg #[v0_0, v0_1, (.int .i64 x0.1.2.2.1), (.int .i64 x0.1.2.2.2), (.int .i64 x0.2.1), v0_2, v0_3]), (.int .i64 x1)].toArray w0 fun e w' => e = .returned (.bool r) ∧ Below w0.heap.size w0 w' := by
  refine calls_mk' Try.func84 rfl Try.ntmps84 rfl rfl fun Q hQ hP => ?_
  have hB : Below w0.heap.size w0 w0 := Below.refl _ _
  have hS : Sep w0.heap.size w0 [] := Sep.nil _ _
  unfold F_impl_hasPerformer at hF
  refine W.seq fun K1 hK1 => ?_
  refine W.region ?_
  refine wl_box (cs := [v0_0, v0_1, (.int .i64 x0.1.2.2.1), (.int .i64 x0.1.2.2.2), (.int .i64 x0.2.1), v0_2, v0_3]) rfl rfl rfl hB hS ?_
  intro b2 w3 hb4 hB5 hS6
  refine wl_assign rfl rfl ?_
  refine WL.nil ?_
  refine fun a ha => hK1 _ _ ?_ a ha
  refine W.seq fun K7 hK7 => ?_
  obtain ⟨k12, hk12, hF⟩ := jE1 hF
  have hJ13 : ∀ (y11 : Bool) (w8 : World) (_ : k12 y11 = some r) (_ : Below w0.heap.size w0 w8) (_ : Sep w0.heap.size w8 []), ∀ a, St 15 [(4, (.bool y11))] a → K7 a w8 := by
    intro y11 w8 hF hB9 hS10
    subst hk12
    refine fun a ha => hK7 _ _ ?_ a ha
    refine W.ret ?_
    have hr := Option.some.inj hF
    subst hr
    exact rets (vs := [(.bool y11)]) hQ rfl ⟨rv_tmp rfl, trivial⟩ ⟨rfl, hB9⟩
  refine W.region ?_
  refine wl_load_blk (i := 0) (vs := [v0_0, v0_1, (.int .i64 x0.1.2.2.1), (.int .i64 x0.1.2.2.2), (.int .i64 x0.2.1), v0_2, v0_3]) (v := (.agg #[v0_0, v0_1, (.int .i64 x0.1.2.2.1), (.int .i64 x0.1.2.2.2), (.int .i64 x0.2.1), v0_2, v0_3])) tf_58 rfl rfl hS6 rfl rfl rfl ?_
  obtain ⟨u14, hu14, hF⟩ := bindE hF
  refine wl_call rfl Try.call87 (C_impl_IsMarch w3 x0 v0_0 (h0_0.ro hB5) v0_1 (h0_1.ro hB5) v0_2 (h0_2.ro hB5) v0_3 (h0_3.ro hB5) _ hu14) rfl ?_
  rintro _ w15 ⟨rfl, hb16⟩
  refine ⟨_, rfl, ?_⟩
  have hB17 := hB5.trans (hb16.mono hB5.size)
  have hS18 := hS6.below hb16
  refine wl_move rfl rfl ?_
  rcases bE u14 with h20 | h20
  · replace hF := ifP h20 hF
    refine wl_on rfl rfl h20 ?_
    refine wl_move rfl rfl ?_
    refine wl_on rfl rfl h20 ?_
    refine wl_field (o := 6) (off' := 6) ff_58_3 rfl rfl rfl ?_
    refine wl_on rfl rfl h20 ?_
    refine wl_load_blk (i := 0) (vs := [v0_3]) (v := v0_3) tf_23 rfl rfl hS18 rfl rfl rfl ?_
    refine wl_on rfl rfl h20 ?_
    refine wl_lenr (e := ty_3) (l := x0.2.2.2) Try.underlying23 rfl rfl h0_3 ?_
    refine wl_on rfl rfl h20 ?_
    refine wl_sub rfl rfl rfl ?_
    refine wl_on rfl rfl h20 ?_
    obtain ⟨u21, hu21, hF⟩ := bindE hF
    refine wl_call rfl Try.call113 (C_impl_within w15 x1 0 (w64 ((List.length x0.2.2.2 : Int) - 1)) _ hu21) rfl ?_
    rintro _ w22 ⟨rfl, hb23⟩
    refine ⟨_, rfl, ?_⟩
    have hB24 := hB17.trans (hb23.mono hB17.size)
    have hS25 := hS18.below hb23
    refine wl_pick_t rfl rfl h20 rfl ?_
    refine wl_assign rfl rfl ?_
    refine WL.nil ?_
    exact fun a ha => hJ13 (u21) _ hF hB24 (hS25.sel [] rfl) a (ha.sub ⟨rfl, trivial⟩)
  · replace hF := ifN h20 hF
    refine wl_off rfl rfl rfl h20 ?_
    refine wl_off rfl rfl rfl h20 ?_
    refine wl_off rfl rfl rfl h20 ?_
    refine wl_off rfl rfl rfl h20 ?_
    refine wl_off rfl rfl rfl h20 ?_
    refine wl_off rfl rfl rfl h20 ?_
    refine wl_pick_f rfl rfl h20 rfl ?_
    refine wl_assign rfl rfl ?_
    refine WL.nil ?_
    exact fun a ha => hJ13 (false) _ hF hB17 (hS18.sel [] rfl) a (ha.sub ⟨rfl, trivial⟩)
theorem C_impl_sheetOf (w0 : World) (x0 : (List (List (Int × Int)))) (v0_0 : Value) (h0_0 : rdS ty_70 (· < w0.heap.size) w0 v0_0 x0) (x1 : (List Int)) (v1_0 : Value) (h1_0 : rdS ty_3 (· < w0.heap.size) w0 v1_0 x1) (x2 : Int) (r : (Int × (Int × Int) × (List (Int × (Int × Int))))) (hF : F_impl_sheetOf x0 x1 x2 = some r) :
    Calls Try.prog 101 [v0_0, v1_0, (.int .i64 x2)].toArray w0 fun e w' => ∃ (q0 : Value) (G0 : List Nat), e = .returned (.agg #[(.int .i64 r.1), (.int .i64 r.2.1.1), (.int .i64 r.2.1.2), q0]) ∧ Below w0.heap.size w0 w' ∧ Sep w0.heap.size w' [R.own ty_141 G0 q0 r.2.2] := by
  refine calls_mk' Try.func101 rfl Try.ntmps101 rfl rfl fun Q hQ hP => ?_
  have hB : Below w0.heap.size w0 w0 := Below.refl _ _
  have hS : Sep w0.heap.size w0 [] := Sep.nil _ _
  unfold F_impl_sheetOf at hF
  refine W.seq fun K1 hK1 => ?_
  refine W.region ?_
  refine wl_alloc (cs := [(.int .i64 0), (.int .i64 0), (.int .i64 0), (.slice none 0 0)]) tf_114 rfl rfl hB hS ?_
  intro b2 w3 hb4 hB5 hS6
  refine WL.nil ?_
  refine fun a ha => hK1 _ _ ?_ a ha
  refine W.seq fun K7 hK7 => ?_
  refine W.region ?_
  refine wl_move rfl rfl ?_
  refine wl_move rfl rfl ?_
  obtain ⟨u8, hu8, hF⟩ := bindE hF
  refine wl_index (e := ty_70) Try.underlying29 rfl rfl rfl h0_0 hu8 ?_
  rintro p9 _ ⟨v11, rfl, hv12⟩ hp10
  refine wl_load_p (vs := [v11]) (v := v11) tf_70 rfl rfl (hp10.ro hB5) rfl rfl ?_
  refine wl_move rfl rfl ?_
  obtain ⟨u13, hu13, hF⟩ := bindE hF
  refine wl_index (e := ty_54) Try.underlying70 rfl rfl rfl hv12 hu13 ?_
  rintro p14 _ rfl hp15
  refine wl_load_p (vs := [(.int .i64 u13.1), (.int .i64 u13.2)]) (v := (.agg #[(.int .i64 u13.1), (.int .i64 u13.2)])) tf_54 rfl rfl (hp15.ro hB5) rfl rfl ?_
  refine wl_lit (vs := []) (l := []) fl_141 Try.underlying112 rfl rfl rfl rfl rfl rfl hB5 hS6 ?_
  intro v16 F17 w18 hb19 hB20 hS21
  refine wl_build (zs := [(.int .i64 0), (.int .i64 0), (.int .i64 0), (.slice none 0 0)]) (out := [(.int .i64 x2), (.int .i64 u13.1), (.int .i64 u13.2), v16]) (vs := [(.int .i64 x2), (.agg #[(.int .i64 u13.1), (.int .i64 u13.2)]), v16]) (css := [[(.int .i64 x2)], [(.int .i64 u13.1), (.int .i64 u13.2)], [v16]]) tf_114 pl_114 rfl rfl (by simp only [List.map_cons, List.map_nil, cells_one ((hS21.own_ro (i := 0) rfl).one)]; rfl) rfl rfl ?_
  refine wl_alloc (cs := [(.int .i64 0), (.int .i64 0), (.int .i64 0), (.slice none 0 0)]) tf_114 rfl rfl hB20 hS21 ?_
  intro b22 w23 hb24 hB25 hS26
  refine wl_store_blk (i := 0) (vs := [(.int .i64 x2), (.int .i64 u13.1), (.int .i64 u13.2), v16]) (cs' := [(.int .i64 x2), (.int .i64 u13.1), (.int .i64 u13.2), v16]) tf_114 rfl rfl rfl rfl hB25 hS26 rfl rfl ⟨rfl, rfl, rfl, (hS26.own_ro (i := 1) rfl).one, trivial⟩ rfl ?_
  intro w27 hk30 hB28 hS29
  refine WL.nil ?_
  refine fun a ha => hK7 _ _ ?_ a ha
  refine W.seq fun K31 hK31 => ?_
  refine W.seq fun K32 hK32 => ?_
  refine W.region ?_
  refine wl_move rfl rfl ?_
  refine wl_lenr (e := ty_3) (l := x1) Try.underlying23 rfl rfl h1_0 ?_
  refine wl_move rfl rfl ?_
  refine WL.nil ?_
  refine fun a ha => hK32 _ _ ?_ a ha
  refine W.block ?_
  refine W.loopk (fun m a w33 => ∃ (l36 : (List (Int × (Int × Int)))) (y39 : Int) (v37 : Value) (F38 : List Nat), St 43 [(0, v0_0), (2, (.int .i64 x2)), (6, (.pointer (some ⟨b2, 0, none⟩))), (7, (.pointer (some ⟨b22, 0, none⟩))), (19, v1_0), (20, (.int .i64 (List.length x1 : Int))), (21, (.int .i64 y39))] a ∧ Below w0.heap.size w0 w33 ∧ Sep w0.heap.size w33 [R.blk b2 114 [(.int .i64 0), (.int .i64 0), (.int .i64 0), (.slice none 0 0)], R.own ty_141 F38 v37 l36, R.blk b22 114 [(.int .i64 x2), (.int .i64 u13.1), (.int .i64 u13.2), v37]] ∧ F_impl_sheetOf_L1 x1 x0 x2 u13 m l36 y39 = some r) FU ?_ ?_
  ·
    exact fun a ha => ⟨[], 0, v16, F17, ha.sub ⟨rfl, rfl, rfl, rfl, rfl, rfl, rfl, trivial⟩, hB28, (hS29.sel [2, 1, 0] rfl), hF⟩
  ·
    rintro m42 a w33 ⟨l36, y39, v37, F38, ha, hB34, hS35, hF⟩ KL41 hKL41
    refine W.at ?_ ha
    cases m42 with
    | zero => exact noneE hF
    | succ m42 =>
      obtain ⟨nx40, hnx40⟩ : ∃ k, k = F_impl_sheetOf_L1 x1 x0 x2 u13 m42 := ⟨_, rfl⟩
      rw [F_impl_sheetOf_L1, ← hnx40] at hF
      refine W.seq fun K43 hK43 => ?_
      refine W.region ?_
      refine wl_lss rfl rfl rfl ?_
      refine WL.nil ?_
      refine fun a ha => hK43 _ _ ?_ a ha
      refine W.seq fun K44 hK44 => ?_
      refine W.cond rfl (fun h45 => ?_) (fun h45 => ?_)
      · replace hF := ifP h45 hF
        refine W.skip ?_
        refine fun a ha => hK44 _ _ ?_ a ha
        refine W.seq fun K46 hK46 => ?_
        obtain ⟨k53, hk53, hF⟩ := jE1 hF
        have hJ54 : ∀ (l50 : (List (Int × (Int × Int)))) (v51 : Value) (F52 : List Nat) (w47 : World) (_ : k53 l50 = some r) (_ : Below w0.heap.size w0 w47) (_ : Sep w0.heap.size w47 [R.blk b2 114 [(.int .i64 0), (.int .i64 0), (.int .i64 0), (.slice none 0 0)], R.own ty_141 F52 v51 l50, R.blk b22 114 [(.int .i64 x2), (.int .i64 u13.1), (.int .i64 u13.2), v51]]), ∀ a, St 43 [(0, v0_0), (2, (.int .i64 x2)), (6, (.pointer (some ⟨b2, 0, none⟩))), (7, (.pointer (some ⟨b22, 0, none⟩))), (19, v1_0), (20, (.int .i64 (List.length x1 : Int))), (21, (.int .i64 y39))] a → K46 a w47 := by
          intro l50 v51 F52 w47 hF hB48 hS49
          subst hk53
          refine fun a ha => hK46 _ _ ?_ a ha
          refine W.region ?_
          refine wl_add rfl rfl rfl ?_
          refine wl_move rfl rfl ?_
          refine WL.nil ?_
          rw [hnx40] at hF
          exact fun a ha => hKL41 a _ m42 (Nat.lt_succ_self m42) ⟨l50, (w64 (y39 + 1)), v51, F52, ha.sub ⟨rfl, rfl, rfl, rfl, rfl, rfl, rfl, trivial⟩, hB48, (hS49.sel [0, 1, 2] rfl), hF⟩
        refine W.block ?_
        refine W.seq fun K55 hK55 => ?_
        refine W.region ?_
        refine wl_move rfl rfl ?_
        obtain ⟨u56, hu56, hF⟩ := bindE hF
        refine wl_index (e := ty_3) Try.underlying23 rfl rfl rfl h1_0 hu56 ?_
        rintro p57 _ rfl hp58
        refine wl_load_p (vs := [(.int .i64 u56)]) (v := (.int .i64 u56)) tf_3 rfl rfl (hp58.ro hB34) rfl rfl ?_
        refine wl_assign rfl rfl ?_
        refine wl_assign rfl rfl ?_
        refine WL.nil ?_
        refine fun a ha => hK55 _ _ ?_ a ha
        refine W.regionH mixed_ (F38 ++ [b22]) hB34 hS35 ?_
        intro w59 hb60 hB61 hS62
        have hSW63 := KeepX.refl w59 (F38 ++ [b22])
        refine WH.takex (i := 0) rfl (by kernel_rfl) (by kernel_rfl) (by kernel_rfl) hP hSW63 ?_
        refine pr_field (o := 3) (off' := 3) ff_114_2 rfl rfl rfl ?_
        refine WH.takex (i := 2) rfl (by kernel_rfl) (by kernel_rfl) (by kernel_rfl) hP hSW63 ?_
        refine pr_move rfl rfl ?_
        refine WH.takex (i := 3) rfl (by kernel_rfl) (by kernel_rfl) (by kernel_rfl) hP hSW63 ?_
        refine pr_move rfl rfl ?_
        refine WH.takex (i := 4) rfl (by kernel_rfl) (by kernel_rfl) (by kernel_rfl) hP hSW63 ?_
        refine pr_move rfl rfl ?_
        refine WH.takex (i := 5) rfl (by kernel_rfl) (by kernel_rfl) (by kernel_rfl) hP hSW63 ?_
        refine pr_add rfl rfl rfl ?_
        obtain ⟨u64, hu64, hF⟩ := bindE hF
        refine WH.takex (i := 6) rfl (by kernel_rfl) (by kernel_rfl) (by kernel_rfl) hP hSW63 ?_
        refine pr_index (e := ty_70) Try.underlying29 rfl rfl rfl h0_0 hu64 ?_
        rintro p65 _ ⟨v67, rfl, hv68⟩ hp66
        refine WH.takex (i := 7) rfl (by kernel_rfl) (by kernel_rfl) (by kernel_rfl) hP hSW63 ?_
        refine pr_load_p (vs := [v67]) (v := v67) tf_70 rfl rfl (hp66.kx hB61 (fun b hb => ((List.mem_append.1 hb).elim (fun hb => (((hS62.get (i := 1) rfl).2.1 b hb).1)) (fun hb => (((hS62.get (i := 2) rfl).2.1 b hb).1))))) rfl rfl ?_
        refine WH.takex (i := 8) rfl (by kernel_rfl) (by kernel_rfl) (by kernel_rfl) hP hSW63 ?_
        refine pr_move rfl rfl ?_
        obtain ⟨u69, hu69, hF⟩ := bindE hF
        refine WH.takex (i := 9) rfl (by kernel_rfl) (by kernel_rfl) (by kernel_rfl) hP hSW63 ?_
        refine pr_index (e := ty_54) Try.underlying70 rfl rfl rfl hv68 hu69 ?_
        rintro p70 _ rfl hp71
        refine WH.takex (i := 10) rfl (by kernel_rfl) (by kernel_rfl) (by kernel_rfl) hP hSW63 ?_
        refine pr_load_p (vs := [(.int .i64 u69.1), (.int .i64 u69.2)]) (v := (.agg #[(.int .i64 u69.1), (.int .i64 u69.2)])) tf_54 rfl rfl (hp71.kx hB61 (fun b hb => ((List.mem_append.1 hb).elim (fun hb => (((hS62.get (i := 1) rfl).2.1 b hb).1)) (fun hb => (((hS62.get (i := 2) rfl).2.1 b hb).1))))) rfl rfl ?_
        refine WH.takex (i := 11) rfl (by kernel_rfl) (by kernel_rfl) (by kernel_rfl) hP hSW63 ?_
        refine pr_build (zs := [(.int .i64 0), (.int .i64 0), (.int .i64 0)]) (out := [(.int .i64 u56), (.int .i64 u69.1), (.int .i64 u69.2)]) (vs := [(.int .i64 u56), (.agg #[(.int .i64 u69.1), (.int .i64 u69.2)])]) (css := [[(.int .i64 u56)], [(.int .i64 u69.1), (.int .i64 u69.2)]]) tf_141 pl_141 rfl rfl rfl rfl rfl ?_
        refine WH.many (is := [1, 12]) (by kernel_rfl) rfl ?_
        refine List.forall_mem_cons.2 ⟨⟨_, rfl, ?_⟩, List.forall_mem_cons.2 ⟨⟨_, rfl, ?_⟩, fun _ h => by cases h⟩⟩
        ·
          refine wl_load_blk (i := 2) (vs := [v37]) (v := v37) tf_112 rfl rfl hS62 rfl rfl rfl ?_
          refine WL.nil (WH.ret hSW63 ?_)
          refine WH.one (i := 12) (by kernel_rfl) rfl ?_
          refine wl_lit (vs := [(.agg #[(.int .i64 u56), (.int .i64 u69.1), (.int .i64 u69.2)])]) (l := [(u56, u69)]) fl_141 Try.underlying112 rfl rfl rfl rfl rfl rfl (Below.self w59) (Sep.nil _ _) ?_
          intro v72 F73 w74 hb75 hB78 hM79
          have hB76 := hB61.trans (hb75.mono hB61.size)
          have hS77 := hS62.join hb75 hM79 hB61.size
          have hn80 : ∀ b ∈ F73, w59.heap.size ≤ b := fun b hb => Nat.le_trans hSW63.size ((hM79.1 _ (List.mem_cons_self ..)).2.1 b hb).1
          have hSW81 := hSW63.ext hb75
          have hbS82 : Below w59.heap.size w59 w74 := hb75
          refine WL.nil (WH.ret hSW81 ?_)
          refine WH.one (i := 13) (by kernel_rfl) rfl ?_
          obtain ⟨u83, hu83, hF⟩ := bindE hF
          refine wl_append (i := 2) (S := (· < w74.heap.size)) fl_141 Try.underlying112 rfl rfl rfl hB76 hS77 rfl (hS77.own_ro (i := 0) rfl) hu83 ?_
          intro v84 F85 w86 hk87 hB88 hS89
          have hSW90 := hSW81.wr' hk87.1 hk87.2.1 (fun _ _ h => List.mem_append_left _ (h))
          refine WL.nil (WH.ret hSW90 ?_)
          refine WH.takex (i := 14) rfl (by kernel_rfl) (by kernel_rfl) (by kernel_rfl) hP hSW90 ?_
          refine pr_field (o := 3) (off' := 3) ff_114_2 rfl rfl rfl ?_
          refine WH.one (i := 15) (by kernel_rfl) rfl ?_
          refine wl_store_blk (i := 3) (vs := [v84]) (cs' := [(.int .i64 x2), (.int .i64 u13.1), (.int .i64 u13.2), v84]) tf_112 rfl rfl (cells_one (hS89.own_ro (i := 2) rfl).one) rfl hB88 hS89 rfl rfl ⟨(hS89.own_ro (i := 2) rfl).one, trivial⟩ rfl ?_
          intro w91 hk94 hB92 hS93
          have hSW95 := hSW90.wr' hk94.1 hk94.2.1 (fun _ _ h => List.mem_append_right _ h)
          refine WL.nil (WH.ret hSW95 ?_)
          refine WH.done (by kernel_rfl) ?_
          exact fun a ha => hJ54 (u83) (v84) (F85) _ hF hB92 (hS93.sel [1, 2, 3] rfl) a (ha.sub ⟨rfl, rfl, rfl, rfl, rfl, rfl, rfl, trivial⟩)
        ·
          refine wl_lit (vs := [(.agg #[(.int .i64 u56), (.int .i64 u69.1), (.int .i64 u69.2)])]) (l := [(u56, u69)]) fl_141 Try.underlying112 rfl rfl rfl rfl rfl rfl (Below.self w59) (Sep.nil _ _) ?_
          intro v96 F97 w98 hb99 hB102 hM103
          have hB100 := hB61.trans (hb99.mono hB61.size)
          have hS101 := hS62.join hb99 hM103 hB61.size
          have hn104 : ∀ b ∈ F97, w59.heap.size ≤ b := fun b hb => Nat.le_trans hSW63.size ((hM103.1 _ (List.mem_cons_self ..)).2.1 b hb).1
          have hSW105 := hSW63.ext hb99
          have hbS106 : Below w59.heap.size w59 w98 := hb99
          refine WL.nil (WH.ret hSW105 ?_)
          refine WH.one (i := 1) (by kernel_rfl) rfl ?_
          refine wl_load_blk (i := 3) (vs := [v37]) (v := v37) tf_112 rfl rfl hS101 rfl rfl rfl ?_
          refine WL.nil (WH.ret hSW105 ?_)
          refine WH.one (i := 13) (by kernel_rfl) rfl ?_
          obtain ⟨u107, hu107, hF⟩ := bindE hF
          refine wl_append (i := 2) (S := (· < w98.heap.size)) fl_141 Try.underlying112 rfl rfl rfl hB100 hS101 rfl (hS101.own_ro (i := 0) rfl) hu107 ?_
          intro v108 F109 w110 hk111 hB112 hS113
          have hSW114 := hSW105.wr' hk111.1 hk111.2.1 (fun _ _ h => List.mem_append_left _ (h))
          refine WL.nil (WH.ret hSW114 ?_)
          refine WH.takex (i := 14) rfl (by kernel_rfl) (by kernel_rfl) (by kernel_rfl) hP hSW114 ?_
          refine pr_field (o := 3) (off' := 3) ff_114_2 rfl rfl rfl ?_
          refine WH.one (i := 15) (by kernel_rfl) rfl ?_
          refine wl_store_blk (i := 3) (vs := [v108]) (cs' := [(.int .i64 x2), (.int .i64 u13.1), (.int .i64 u13.2), v108]) tf_112 rfl rfl (cells_one (hS113.own_ro (i := 2) rfl).one) rfl hB112 hS113 rfl rfl ⟨(hS113.own_ro (i := 2) rfl).one, trivial⟩ rfl ?_
          intro w115 hk118 hB116 hS117
          have hSW119 := hSW114.wr' hk118.1 hk118.2.1 (fun _ _ h => List.mem_append_right _ h)
          refine WL.nil (WH.ret hSW119 ?_)
          refine WH.done (by kernel_rfl) ?_
          exact fun a ha => hJ54 (u107) (v108) (F109) _ hF hB116 (hS117.sel [1, 2, 3] rfl) a (ha.sub ⟨rfl, rfl, rfl, rfl, rfl, rfl, rfl, trivial⟩)
      · replace hF := ifN h45 hF
        refine W.exit ?_
        refine fun a ha => hK31 _ _ ?_ a ha
        refine W.seq fun K120 hK120 => ?_
        refine W.region ?_
        refine wl_load_blk (i := 2) (vs := [(.int .i64 x2), (.int .i64 u13.1), (.int .i64 u13.2), v37]) (v := (.agg #[(.int .i64 x2), (.int .i64 u13.1), (.int .i64 u13.2), v37])) tf_114 rfl rfl hS35 rfl rfl rfl ?_
        refine wl_store_blk (i := 0) (vs := [(.int .i64 x2), (.int .i64 u13.1), (.int .i64 u13.2), v37]) (cs' := [(.int .i64 x2), (.int .i64 u13.1), (.int .i64 u13.2), v37]) tf_114 rfl rfl rfl rfl hB34 hS35 rfl rfl ⟨rfl, rfl, rfl, (hS35.own_ro (i := 1) rfl).one, trivial⟩ rfl ?_
        intro w121 hk124 hB122 hS123
        refine WL.nil ?_
        refine fun a ha => hK120 _ _ ?_ a ha
        refine W.ret ?_
        have hr := Option.some.inj hF
        subst hr
        exact rets (vs := [(.agg #[(.int .i64 x2), (.int .i64 u13.1), (.int .i64 u13.2), v37])]) hQ rfl ⟨rv_cell (i := 0) tf_114 rfl hS123 rfl rfl rfl, trivial⟩ ⟨v37, F38, rfl, hB122, hS123.sel [1] rfl⟩
theorem C_impl_totalCounts (w0 : World) (x0 : ((List (List (Int × Int))) × (List Int) × Int × Int)) (v0_0 : Value) (h0_0 : rdS ty_70 (· < w0.heap.size) w0 v0_0 x0.1) (v0_1 : Value) (h0_1 : rdS ty_3 (· < w0.heap.size) w0 v0_1 x0.2.1) (r : Int) (hF : F_impl_totalCounts x0 = some r) :
    Calls Try.prog 139 [(.agg #[v0_0, v0_1, (.int .i64 x0.2.2.1), (.int .i64 x0.2.2.2)])].toArray w0 fun e w' => e = .returned (.int .i64 r) ∧ Below w0.heap.size w0 w' := by
  refine calls_mk' Try.func139 rfl Try.ntmps139 rfl rfl fun Q hQ hP => ?_
  have hB : Below w0.heap.size w0 w0 := Below.refl _ _
  have hS : Sep w0.heap.size w0 [] := Sep.nil _ _
  unfold F_impl_totalCounts at hF
  refine W.seq fun K1 hK1 => ?_
  refine W.region ?_
  refine wl_box (cs := [v0_0, v0_1, (.int .i64 x0.2.2.1), (.int .i64 x0.2.2.2)]) rfl rfl rfl hB hS ?_
  intro b2 w3 hb4 hB5 hS6
  refine wl_assign rfl rfl ?_
  refine WL.nil ?_
  refine fun a ha => hK1 _ _ ?_ a ha
  refine W.seq fun K7 hK7 => ?_
  refine W.region ?_
  refine wl_assign rfl rfl ?_
  refine WL.nil ?_
  refine fun a ha => hK7 _ _ ?_ a ha
  refine W.seq fun K8 hK8 => ?_
  refine W.seq fun K9 hK9 => ?_
  refine W.region ?_
  refine wl_field (o := 1) (off' := 1) ff_31_1 rfl rfl rfl ?_
  refine wl_load_blk (i := 0) (vs := [v0_1]) (v := v0_1) tf_23 rfl rfl hS6 rfl rfl rfl ?_
  refine wl_lenr (e := ty_3) (l := x0.2.1) Try.underlying23 rfl rfl h0_1 ?_
  refine wl_move rfl rfl ?_
  refine WL.nil ?_
  refine fun a ha => hK9 _ _ ?_ a ha
  refine W.block ?_
  refine W.loopk (fun m a w10 => ∃ (y13 : Int) (y14 : Int), St 18 [(3, (.int .i64 y13)), (7, v0_1), (8, (.int .i64 (List.length x0.2.1 : Int))), (9, (.int .i64 y14))] a ∧ Below w0.heap.size w0 w10 ∧ Sep w0.heap.size w10 [] ∧ F_impl_totalCounts_L1 x0 m y13 y14 = some r) FU ?_ ?_
  ·
    exact fun a ha => ⟨0, 0, ha.sub ⟨rfl, rfl, rfl, rfl, trivial⟩, hB5, (hS6.sel [] rfl), hF⟩
  ·
    rintro m17 a w10 ⟨y13, y14, ha, hB11, hS12, hF⟩ KL16 hKL16
    refine W.at ?_ ha
    cases m17 with
    | zero => exact noneE hF
    | succ m17 =>
      obtain ⟨nx15, hnx15⟩ : ∃ k, k = F_impl_totalCounts_L1 x0 m17 := ⟨_, rfl⟩
      rw [F_impl_totalCounts_L1, ← hnx15] at hF
      refine W.seq fun K18 hK18 => ?_
      refine W.region ?_
      refine wl_lss rfl rfl rfl ?_
      refine WL.nil ?_
      refine fun a ha => hK18 _ _ ?_ a ha
      refine W.seq fun K19 hK19 => ?_
      refine W.cond rfl (fun h20 => ?_) (fun h20 => ?_)
      · replace hF := ifP h20 hF
        refine W.skip ?_
        refine fun a ha => hK19 _ _ ?_ a ha
        refine W.seq fun K21 hK21 => ?_
        refine W.block ?_
        refine W.seq fun K22 hK22 => ?_
        refine W.region ?_
        obtain ⟨u23, hu23, hF⟩ := bindE hF
        refine wl_index (e := ty_3) Try.underlying23 rfl rfl rfl h0_1 hu23 ?_
        rintro p24 _ rfl hp25
        refine wl_load_p (vs := [(.int .i64 u23)]) (v := (.int .i64 u23)) tf_3 rfl rfl (hp25.ro hB11) rfl rfl ?_
        refine wl_assign rfl rfl ?_
        refine WL.nil ?_
        refine fun a ha => hK22 _ _ ?_ a ha
        refine W.region ?_
        refine wl_move rfl rfl ?_
        refine wl_move rfl rfl ?_
        refine wl_add rfl rfl rfl ?_
        refine wl_assign rfl rfl ?_
        refine WL.nil ?_
        refine fun a ha => hK21 _ _ ?_ a ha
        refine W.region ?_
        refine wl_add rfl rfl rfl ?_
        refine wl_move rfl rfl ?_
        refine WL.nil ?_
        rw [hnx15] at hF
        exact fun a ha => hKL16 a _ m17 (Nat.lt_succ_self m17) ⟨(w64 (y13 + u23)), (w64 (y14 + 1)), ha.sub ⟨rfl, rfl, rfl, rfl, trivial⟩, hB11, (hS12.sel [] rfl), hF⟩
      · replace hF := ifN h20 hF
        refine W.exit ?_
        refine fun a ha => hK8 _ _ ?_ a ha
        refine W.seq fun K26 hK26 => ?_
        refine W.region ?_
        refine wl_move rfl rfl ?_
        refine wl_assign rfl rfl ?_
        refine WL.nil ?_
        refine fun a ha => hK26 _ _ ?_ a ha
        refine W.ret ?_
        have hr := Option.some.inj hF
        subst hr
        exact rets (vs := [(.int .i64 y13)]) hQ rfl ⟨rv_tmp rfl, trivial⟩ ⟨rfl, hB11⟩
theorem C_impl_ownCount (w0 : World) (x0 : (((List (List (Int × Int))) × (List Int) × Int × Int) × Int × (List Int) × (List Int))) (v0_0 : Value) (h0_0 : rdS ty_70 (· < w0.heap.size) w0 v0_0 x0.1.1) (v0_1 : Value) (h0_1 : rdS ty_3 (· < w0.heap.size) w0 v0_1 x0.1.2.1) (v0_2 : Value) (h0_2 : rdS ty_3 (· < w0.heap.size) w0 v0_2 x0.2.2.1) (v0_3 : Value) (h0_3 : rdS ty_3 (· < w0.heap.size) w0 v0_3 x0.2.2.2) (x1 : Int) (r : Int) (hF : F_impl_ownCount x0 x1 = some r) :
    Calls Try.prog 128 [(.agg #[v0_0, v0_1, (.int .i64 x0.1.2.2.1), (.int .i64 x0.1.2.2.2), (.int .i64 x0.2.1), v0_2, v0_3]), (.int .i64 x1)].toArray w0 fun e w' => e = .returned (.int .i64 r) ∧ Below w0.heap.size w0 w' := by
  refine calls_mk' Try.func128 rfl Try.ntmps128 rfl rfl fun Q hQ hP => ?_
  have hB : Below w0.heap.size w0 w0 := Below.refl _ _
  have hS : Sep w0.heap.size w0 [] := Sep.nil _ _
  unfold F_impl_ownCount at hF
  refine W.seq fun K1 hK1 => ?_
  refine W.region ?_
  refine wl_box (cs := [v0_0, v0_1, (.int .i64 x0.1.2.2.1), (.int .i64 x0.1.2.2.2), (.int .i64 x0.2.1), v0_2, v0_3]) rfl rfl rfl hB hS ?_
  intro b2 w3 hb4 hB5 hS6
  refine wl_assign rfl rfl ?_
  refine WL.nil ?_
  refine fun a ha => hK1 _ _ ?_ a ha
  refine W.seq fun K7 hK7 => ?_
  refine W.regionH mixed_ [] hB5 hS6 ?_
  intro w8 hb9 hB10 hS11
  have hSW12 := KeepX.refl w8 []
  refine WH.takex (i := 0) rfl (by kernel_rfl) (by kernel_rfl) (by kernel_rfl) hP hSW12 ?_
  refine pr_field (o := 4) (off' := 4) ff_58_1 rfl rfl rfl ?_
  refine WH.takex (i := 1) rfl (by kernel_rfl) (by kernel_rfl) (by kernel_rfl) hP hSW12 ?_
  refine pr_load_blk (i := 0) (vs := [(.int .i64 x0.2.1)]) (v := (.int .i64 x0.2.1)) tf_3 rfl rfl hS11 rfl rfl rfl (by simp) ?_
  refine WH.takex (i := 2) rfl (by kernel_rfl) (by kernel_rfl) (by kernel_rfl) hP hSW12 ?_
  refine pr_field (o := 6) (off' := 6) ff_58_3 rfl rfl rfl ?_
  refine WH.takex (i := 3) rfl (by kernel_rfl) (by kernel_rfl) (by kernel_rfl) hP hSW12 ?_
  refine pr_load_blk (i := 0) (vs := [v0_3]) (v := v0_3) tf_23 rfl rfl hS11 rfl rfl rfl (by simp) ?_
  refine WH.takex (i := 4) rfl (by kernel_rfl) (by kernel_rfl) (by kernel_rfl) hP hSW12 ?_
  refine pr_move rfl rfl ?_
  obtain ⟨u13, hu13, hF⟩ := bindE hF
  refine WH.takex (i := 5) rfl (by kernel_rfl) (by kernel_rfl) (by kernel_rfl) hP hSW12 ?_
  refine pr_index (e := ty_3) Try.underlying23 rfl rfl rfl h0_3 hu13 ?_
  rintro p14 _ rfl hp15
  refine WH.takex (i := 6) rfl (by kernel_rfl) (by kernel_rfl) (by kernel_rfl) hP hSW12 ?_
  refine pr_load_p (vs := [(.int .i64 u13)]) (v := (.int .i64 u13)) tf_3 rfl rfl (hp15.kx hB10 (by simp)) rfl rfl ?_
  refine WH.takex (i := 7) rfl (by kernel_rfl) (by kernel_rfl) (by kernel_rfl) hP hSW12 ?_
  refine pr_sub rfl rfl rfl ?_
  refine WH.takex (i := 8) rfl (by kernel_rfl) (by kernel_rfl) (by kernel_rfl) hP hSW12 ?_
  refine pr_field (o := 0) (off' := 0) ff_58_0 rfl rfl rfl ?_
  refine WH.takex (i := 9) rfl (by kernel_rfl) (by kernel_rfl) (by kernel_rfl) hP hSW12 ?_
  refine pr_load_blk (i := 0) (vs := [v0_0, v0_1, (.int .i64 x0.1.2.2.1), (.int .i64 x0.1.2.2.2)]) (v := (.agg #[v0_0, v0_1, (.int .i64 x0.1.2.2.1), (.int .i64 x0.1.2.2.2)])) tf_31 rfl rfl hS11 rfl rfl rfl (by simp) ?_
  refine WH.one (i := 10) (by kernel_rfl) rfl ?_
  obtain ⟨u16, hu16, hF⟩ := bindE hF
  refine wl_call rfl Try.call139 (C_impl_totalCounts w8 x0.1 v0_0 (h0_0.ro hB10) v0_1 (h0_1.ro hB10) _ hu16) rfl ?_
  rintro _ w17 ⟨rfl, hb18⟩
  refine ⟨_, rfl, ?_⟩
  have hB19 := hB10.trans (hb18.mono hB10.size)
  have hS20 := hS11.below hb18
  have hSW22 := hSW12.ext hb18
  refine WL.nil (WH.ret hSW22 ?_)
  refine WH.takex (i := 11) rfl (by kernel_rfl) (by kernel_rfl) (by kernel_rfl) hP hSW22 ?_
  refine pr_min rfl rfl rfl ?_
  refine WH.takex (i := 12) rfl (by kernel_rfl) (by kernel_rfl) (by kernel_rfl) hP hSW22 ?_
  refine pr_assign rfl rfl ?_
  refine WH.done (by kernel_rfl) ?_
  refine fun a ha => hK7 _ _ ?_ a ha
  refine W.ret ?_
  have hr := Option.some.inj hF
  subst hr
  exact rets (vs := [(.int .i64 (minI (w64 (x0.2.1 - u13)) u16))]) hQ rfl ⟨rv_tmp rfl, trivial⟩ ⟨rfl, hB19⟩
theorem C_impl_IsSheet (w0 : World) (x0 : (Int × (Int × Int) × (List (Int × (Int × Int))))) (v0_0 : Value) (h0_0 : rdS ty_141 (· < w0.heap.size) w0 v0_0 x0.2.2) (r : Bool) (hF : F_impl_IsSheet x0 = some r) :
    Calls Try.prog 157 [(.agg #[(.int .i64 x0.1), (.int .i64 x0.2.1.1), (.int .i64 x0.2.1.2), v0_0])].toArray w0 fun e w' => e = .returned (.bool r) ∧ Below w0.heap.size w0 w' := by
  refine calls_mk' Try.func157 rfl Try.ntmps157 rfl rfl fun Q hQ hP => ?_
  have hB : Below w0.heap.size w0 w0 := Below.refl _ _
  have hS : Sep w0.heap.size w0 [] := Sep.nil _ _
  unfold F_impl_IsSheet at hF
  refine W.seq fun K1 hK1 => ?_
  refine W.region ?_
  refine wl_box (cs := [(.int .i64 x0.1), (.int .i64 x0.2.1.1), (.int .i64 x0.2.1.2), v0_0]) rfl rfl rfl hB hS ?_
  intro b2 w3 hb4 hB5 hS6
  refine wl_assign rfl rfl ?_
  refine WL.nil ?_
  refine fun a ha => hK1 _ _ ?_ a ha
  refine W.seq fun K7 hK7 => ?_
  refine W.seq fun K8 hK8 => ?_
  obtain ⟨k13, hk13, hF⟩ := jE1 hF
  have hJ14 : ∀ (y12 : Bool) (w9 : World) (_ : k13 y12 = some r) (_ : Below w0.heap.size w0 w9) (_ : Sep w0.heap.size w9 [R.blk b2 114 [(.int .i64 x0.1), (.int .i64 x0.2.1.1), (.int .i64 x0.2.1.2), v0_0]]), ∀ a, St 39 [(1, (.pointer (some ⟨b2, 0, none⟩))), (20, (.bool y12))] a → K8 a w9 := by
    intro y12 w9 hF hB10 hS11
    subst hk13
    refine fun a ha => hK8 _ _ ?_ a ha
    refine W.cond rfl (fun h15 => ?_) (fun h15 => ?_)
    · replace hF := ifP h15 hF
      refine W.seq fun K16 hK16 => ?_
      refine W.region ?_
      refine wl_assign rfl rfl ?_
      refine WL.nil ?_
      refine fun a ha => hK16 _ _ ?_ a ha
      refine W.ret ?_
      have hr := Option.some.inj hF
      subst hr
      exact rets (vs := [(.bool false)]) hQ rfl ⟨rv_tmp rfl, trivial⟩ ⟨rfl, hB10⟩
    · replace hF := ifN h15 hF
      refine W.skip ?_
      refine fun a ha => hK7 _ _ ?_ a ha
      refine W.seq fun K17 hK17 => ?_
      refine W.seq fun K18 hK18 => ?_
      refine W.region ?_
      refine wl_field (o := 3) (off' := 3) ff_114_2 rfl rfl rfl ?_
      refine wl_load_blk (i := 0) (vs := [v0_0]) (v := v0_0) tf_112 rfl rfl hS11 rfl rfl rfl ?_
      refine wl_lenr (e := ty_141) (l := x0.2.2) Try.underlying112 rfl rfl h0_0 ?_
      refine wl_move rfl rfl ?_
      refine WL.nil ?_
      refine fun a ha => hK18 _ _ ?_ a ha
      refine W.block ?_
      refine W.loopk (fun m a w19 => ∃ (y22 : Int), St 39 [(22, v0_0), (23, (.int .i64 (List.length x0.2.2 : Int))), (24, (.int .i64 y22))] a ∧ Below w0.heap.size w0 w19 ∧ Sep w0.heap.size w19 [] ∧ F_impl_IsSheet_L1 x0 m y22 = some r) FU ?_ ?_
      ·
        exact fun a ha => ⟨0, ha.sub ⟨rfl, rfl, rfl, trivial⟩, hB10, (hS11.sel [] rfl), hF⟩
      ·
        rintro m25 a w19 ⟨y22, ha, hB20, hS21, hF⟩ KL24 hKL24
        refine W.at ?_ ha
        cases m25 with
        | zero => exact noneE hF
        | succ m25 =>
          obtain ⟨nx23, hnx23⟩ : ∃ k, k = F_impl_IsSheet_L1 x0 m25 := ⟨_, rfl⟩
          rw [F_impl_IsSheet_L1, ← hnx23] at hF
          refine W.seq fun K26 hK26 => ?_
          refine W.region ?_
          refine wl_lss rfl rfl rfl ?_
          refine WL.nil ?_
          refine fun a ha => hK26 _ _ ?_ a ha
          refine W.seq fun K27 hK27 => ?_
          refine W.cond rfl (fun h28 => ?_) (fun h28 => ?_)
          · replace hF := ifP h28 hF
            refine W.skip ?_
            refine fun a ha => hK27 _ _ ?_ a ha
            refine W.seq fun K29 hK29 => ?_
            refine W.block ?_
            refine W.seq fun K30 hK30 => ?_
            refine W.region ?_
            obtain ⟨u31, hu31, hF⟩ := bindE hF
            refine wl_index (e := ty_141) Try.underlying112 rfl rfl rfl h0_0 hu31 ?_
            rintro p32 _ rfl hp33
            refine wl_load_p (vs := [(.int .i64 u31.1), (.int .i64 u31.2.1), (.int .i64 u31.2.2)]) (v := (.agg #[(.int .i64 u31.1), (.int .i64 u31.2.1), (.int .i64 u31.2.2)])) tf_141 rfl rfl (hp33.ro hB20) rfl rfl ?_
            refine wl_alloc (cs := [(.int .i64 0), (.int .i64 0), (.int .i64 0)]) tf_141 rfl rfl hB20 hS21 ?_
            intro b34 w35 hb36 hB37 hS38
            refine wl_store_blk (i := 0) (vs := [(.int .i64 u31.1), (.int .i64 u31.2.1), (.int .i64 u31.2.2)]) (cs' := [(.int .i64 u31.1), (.int .i64 u31.2.1), (.int .i64 u31.2.2)]) tf_141 rfl rfl rfl rfl hB37 hS38 rfl rfl ⟨rfl, rfl, rfl, trivial⟩ rfl ?_
            intro w39 hk42 hB40 hS41
            refine WL.nil ?_
            refine fun a ha => hK30 _ _ ?_ a ha
            refine W.seq fun K43 hK43 => ?_
            obtain ⟨k48, hk48, hF⟩ := jE1 hF
            have hJ49 : ∀ (y47 : Bool) (w44 : World) (_ : k48 y47 = some r) (_ : Below w0.heap.size w0 w44) (_ : Sep w0.heap.size w44 []), ∀ a, St 39 [(22, v0_0), (23, (.int .i64 (List.length x0.2.2 : Int))), (24, (.int .i64 y22)), (37, (.bool y47))] a → K43 a w44 := by
              intro y47 w44 hF hB45 hS46
              subst hk48
              refine fun a ha => hK43 _ _ ?_ a ha
              refine W.cond rfl (fun h50 => ?_) (fun h50 => ?_)
              · replace hF := ifP h50 hF
                refine W.seq fun K51 hK51 => ?_
                refine W.region ?_
                refine wl_assign rfl rfl ?_
                refine WL.nil ?_
                refine fun a ha => hK51 _ _ ?_ a ha
                refine W.ret ?_
                have hr := Option.some.inj hF
                subst hr
                exact rets (vs := [(.bool false)]) hQ rfl ⟨rv_tmp rfl, trivial⟩ ⟨rfl, hB45⟩
              · replace hF := ifN h50 hF
                refine W.skip ?_
                refine fun a ha => hK29 _ _ ?_ a ha
                refine W.region ?_
                refine wl_add rfl rfl rfl ?_
                refine wl_move rfl rfl ?_
                refine WL.nil ?_
                rw [hnx23] at hF
                exact fun a ha => hKL24 a _ m25 (Nat.lt_succ_self m25) ⟨(w64 (y22 + 1)), ha.sub ⟨rfl, rfl, rfl, trivial⟩, hB45, (hS46.sel [] rfl), hF⟩
            refine W.region ?_
            refine wl_field (o := 0) (off' := 0) ff_141_0 rfl rfl rfl ?_
            refine wl_load_blk (i := 0) (vs := [(.int .i64 u31.1)]) (v := (.int .i64 u31.1)) tf_3 rfl rfl hS41 rfl rfl rfl ?_
            obtain ⟨u52, hu52, hF⟩ := bindE hF
            refine wl_call rfl Try.call113 (C_impl_within w39 u31.1 1 64 _ hu52) rfl ?_
            rintro _ w53 ⟨rfl, hb54⟩
            refine ⟨_, rfl, ?_⟩
            have hB55 := hB40.trans (hb54.mono hB40.size)
            have hS56 := hS41.below hb54
            refine wl_not rfl rfl ?_
            refine wl_move rfl rfl ?_
            rcases bE (!u52) with h58 | h58
            · replace hF := ifP h58 hF
              refine wl_off rfl rfl rfl h58 ?_
              refine wl_off rfl rfl rfl h58 ?_
              refine wl_off rfl rfl rfl h58 ?_
              refine wl_off rfl rfl rfl h58 ?_
              refine wl_pick_t rfl rfl h58 rfl ?_
              refine WL.nil ?_
              exact fun a ha => hJ49 (true) _ hF hB55 (hS56.sel [] rfl) a (ha.sub ⟨rfl, rfl, rfl, rfl, trivial⟩)
            · replace hF := ifN h58 hF
              refine wl_on rfl rfl h58 ?_
              refine wl_field (o := 1) (off' := 1) ff_141_1 rfl rfl rfl ?_
              refine wl_on rfl rfl h58 ?_
              refine wl_load_blk (i := 0) (vs := [(.int .i64 u31.2.1), (.int .i64 u31.2.2)]) (v := (.agg #[(.int .i64 u31.2.1), (.int .i64 u31.2.2)])) tf_54 rfl rfl hS56 rfl rfl rfl ?_
              refine wl_on rfl rfl h58 ?_
              obtain ⟨u59, hu59, hF⟩ := bindE hF
              refine wl_call rfl Try.call165 (C_impl_IsSpot w53 u31.2 _ hu59) rfl ?_
              rintro _ w60 ⟨rfl, hb61⟩
              refine ⟨_, rfl, ?_⟩
              have hB62 := hB55.trans (hb61.mono hB55.size)
              have hS63 := hS56.below hb61
              refine wl_on rfl rfl h58 ?_
              refine wl_not rfl rfl ?_
              refine wl_pick_f rfl rfl h58 rfl ?_
              refine WL.nil ?_
              exact fun a ha => hJ49 ((!u59)) _ hF hB62 (hS63.sel [] rfl) a (ha.sub ⟨rfl, rfl, rfl, rfl, trivial⟩)
          · replace hF := ifN h28 hF
            refine W.exit ?_
            refine fun a ha => hK17 _ _ ?_ a ha
            refine W.seq fun K65 hK65 => ?_
            refine W.region ?_
            refine wl_assign rfl rfl ?_
            refine WL.nil ?_
            refine fun a ha => hK65 _ _ ?_ a ha
            refine W.ret ?_
            have hr := Option.some.inj hF
            subst hr
            exact rets (vs := [(.bool true)]) hQ rfl ⟨rv_tmp rfl, trivial⟩ ⟨rfl, hB20⟩
  refine W.region ?_
  refine wl_field (o := 0) (off' := 0) ff_114_0 rfl rfl rfl ?_
  refine wl_load_blk (i := 0) (vs := [(.int .i64 x0.1)]) (v := (.int .i64 x0.1)) tf_3 rfl rfl hS6 rfl rfl rfl ?_
  obtain ⟨u66, hu66, hF⟩ := bindE hF
  refine wl_call rfl Try.call113 (C_impl_within w3 x0.1 0 11 _ hu66) rfl ?_
  rintro _ w67 ⟨rfl, hb68⟩
  refine ⟨_, rfl, ?_⟩
  have hB69 := hB5.trans (hb68.mono hB5.size)
  have hS70 := hS6.below hb68
  refine wl_not rfl rfl ?_
  refine wl_move rfl rfl ?_
  rcases bE (!u66) with h72 | h72
  · replace hF := ifP h72 hF
    refine wl_off rfl rfl rfl h72 ?_
    refine wl_off rfl rfl rfl h72 ?_
    refine wl_off rfl rfl rfl h72 ?_
    refine wl_off rfl rfl rfl h72 ?_
    refine wl_pick_t rfl rfl h72 rfl ?_
    refine wl_move rfl rfl ?_
    refine wl_off rfl rfl rfl rfl ?_
    refine wl_off rfl rfl rfl rfl ?_
    refine wl_off rfl rfl rfl rfl ?_
    refine wl_off rfl rfl rfl rfl ?_
    refine wl_pick_t rfl rfl rfl rfl ?_
    refine WL.nil ?_
    exact fun a ha => hJ14 (true) _ hF hB69 (hS70.sel [0] rfl) a (ha.sub ⟨rfl, rfl, trivial⟩)
  · replace hF := ifN h72 hF
    refine wl_on rfl rfl h72 ?_
    refine wl_field (o := 1) (off' := 1) ff_114_1 rfl rfl rfl ?_
    refine wl_on rfl rfl h72 ?_
    refine wl_load_blk (i := 0) (vs := [(.int .i64 x0.2.1.1), (.int .i64 x0.2.1.2)]) (v := (.agg #[(.int .i64 x0.2.1.1), (.int .i64 x0.2.1.2)])) tf_54 rfl rfl hS70 rfl rfl rfl ?_
    refine wl_on rfl rfl h72 ?_
    obtain ⟨u73, hu73, hF⟩ := bindE hF
    refine wl_call rfl Try.call165 (C_impl_IsSpot w67 x0.2.1 _ hu73) rfl ?_
    rintro _ w74 ⟨rfl, hb75⟩
    refine ⟨_, rfl, ?_⟩
    have hB76 := hB69.trans (hb75.mono hB69.size)
    have hS77 := hS70.below hb75
    refine wl_on rfl rfl h72 ?_
    refine wl_not rfl rfl ?_
    refine wl_pick_f rfl rfl h72 rfl ?_
    refine wl_move rfl rfl ?_
    rcases bE (!u73) with h79 | h79
    · replace hF := ifP h79 hF
      refine wl_off rfl rfl rfl h79 ?_
      refine wl_off rfl rfl rfl h79 ?_
      refine wl_off rfl rfl rfl h79 ?_
      refine wl_off rfl rfl rfl h79 ?_
      refine wl_pick_t rfl rfl h79 rfl ?_
      refine WL.nil ?_
      exact fun a ha => hJ14 (true) _ hF hB76 (hS77.sel [0] rfl) a (ha.sub ⟨rfl, rfl, trivial⟩)
    · replace hF := ifN h79 hF
      refine wl_on rfl rfl h79 ?_
      refine wl_field (o := 3) (off' := 3) ff_114_2 rfl rfl rfl ?_
      refine wl_on rfl rfl h79 ?_
      refine wl_load_blk (i := 0) (vs := [v0_0]) (v := v0_0) tf_112 rfl rfl hS77 rfl rfl rfl ?_
      refine wl_on rfl rfl h79 ?_
      refine wl_lenr (e := ty_141) (l := x0.2.2) Try.underlying112 rfl rfl h0_0 ?_
      refine wl_on rfl rfl h79 ?_
      refine wl_gtr rfl rfl rfl ?_
      refine wl_pick_f rfl rfl h79 rfl ?_
      refine WL.nil ?_
      exact fun a ha => hJ14 ((decide (8 < (List.length x0.2.2 : Int)))) _ hF hB76 (hS77.sel [0] rfl) a (ha.sub ⟨rfl, rfl, trivial⟩)
theorem C_impl_sheetMoves (w0 : World) (x0 : (Int × (Int × Int) × (List (Int × (Int × Int))))) (v0_0 : Value) (h0_0 : rdS ty_141 (· < w0.heap.size) w0 v0_0 x0.2.2) (r : (List ((Int × Int) × (Int × Int) × Int))) (hF : F_impl_sheetMoves x0 = some r) :
    Calls Try.prog 158 [(.agg #[(.int .i64 x0.1), (.int .i64 x0.2.1.1), (.int .i64 x0.2.1.2), v0_0])].toArray w0 fun e w' => ∃ (q0 : Value) (G0 : List Nat), e = .returned q0 ∧ Below w0.heap.size w0 w' ∧ Sep w0.heap.size w' [R.own ty_96 G0 q0 r] := by
  refine calls_mk' Try.func158 rfl Try.ntmps158 rfl rfl fun Q hQ hP => ?_
  have hB : Below w0.heap.size w0 w0 := Below.refl _ _
  have hS : Sep w0.heap.size w0 [] := Sep.nil _ _
  unfold F_impl_sheetMoves at hF
  refine W.seq fun K1 hK1 => ?_
  refine W.region ?_
  refine wl_box (cs := [(.int .i64 x0.1), (.int .i64 x0.2.1.1), (.int .i64 x0.2.1.2), v0_0]) rfl rfl rfl hB hS ?_
  intro b2 w3 hb4 hB5 hS6
  refine wl_assign rfl rfl ?_
  refine WL.nil ?_
  refine fun a ha => hK1 _ _ ?_ a ha
  refine W.seq fun K7 hK7 => ?_
  obtain ⟨k17, hk17, hF⟩ := jE3 hF
  have hJ18 : ∀ (l11 : (List ((Int × Int) × (Int × Int) × Int))) (y15 : Int) (y16 : Int) (v12 : Value) (F13 : List Nat) (b14 : Nat) (w8 : World) (_ : k17 l11 y15 y16 = some r) (_ : Below w0.heap.size w0 w8) (_ : Sep w0.heap.size w8 [R.blk b2 114 [(.int .i64 x0.1), (.int .i64 x0.2.1.1), (.int .i64 x0.2.1.2), v0_0], R.own ty_96 F13 v12 l11, R.blk b14 54 [(.int .i64 y15), (.int .i64 y16)]]), ∀ a, St 30 [(1, (.pointer (some ⟨b2, 0, none⟩))), (3, v12), (4, (.pointer (some ⟨b14, 0, none⟩)))] a → K7 a w8 := by
    intro l11 y15 y16 v12 F13 b14 w8 hF hB9 hS10
    subst hk17
    refine fun a ha => hK7 _ _ ?_ a ha
    refine W.seq fun K19 hK19 => ?_
    refine W.seq fun K20 hK20 => ?_
    refine W.region ?_
    refine wl_field (o := 3) (off' := 3) ff_114_2 rfl rfl rfl ?_
    refine wl_load_blk (i := 0) (vs := [v0_0]) (v := v0_0) tf_112 rfl rfl hS10 rfl rfl rfl ?_
    refine wl_lenr (e := ty_141) (l := x0.2.2) Try.underlying112 rfl rfl h0_0 ?_
    refine wl_move rfl rfl ?_
    refine WL.nil ?_
    refine fun a ha => hK20 _ _ ?_ a ha
    refine W.block ?_
    refine W.loopk (fun m a w21 => ∃ (l24 : (List ((Int × Int) × (Int × Int) × Int))) (y27 : Int) (y28 : Int) (y29 : Int) (v25 : Value) (F26 : List Nat), St 30 [(3, v25), (4, (.pointer (some ⟨b14, 0, none⟩))), (11, v0_0), (12, (.int .i64 (List.length x0.2.2 : Int))), (13, (.int .i64 y29))] a ∧ Below w0.heap.size w0 w21 ∧ Sep w0.heap.size w21 [R.own ty_96 F26 v25 l24, R.blk b14 54 [(.int .i64 y27), (.int .i64 y28)]] ∧ F_impl_sheetMoves_L1 x0 m l24 y27 y28 y29 = some r) FU ?_ ?_
    ·
      exact fun a ha => ⟨l11, y15, y16, 0, v12, F13, ha.sub ⟨rfl, rfl, rfl, rfl, rfl, trivial⟩, hB9, (hS10.sel [1, 2] rfl), hF⟩
    ·
      rintro m32 a w21 ⟨l24, y27, y28, y29, v25, F26, ha, hB22, hS23, hF⟩ KL31 hKL31
      refine W.at ?_ ha
      cases m32 with
      | zero => exact noneE hF
      | succ m32 =>
        obtain ⟨nx30, hnx30⟩ : ∃ k, k = F_impl_sheetMoves_L1 x0 m32 := ⟨_, rfl⟩
        rw [F_impl_sheetMoves_L1, ← hnx30] at hF
        refine W.seq fun K33 hK33 => ?_
        refine W.region ?_
        refine wl_lss rfl rfl rfl ?_
        refine WL.nil ?_
        refine fun a ha => hK33 _ _ ?_ a ha
        refine W.seq fun K34 hK34 => ?_
        refine W.cond rfl (fun h35 => ?_) (fun h35 => ?_)
        · replace hF := ifP h35 hF
          refine W.skip ?_
          refine fun a ha => hK34 _ _ ?_ a ha
          refine W.seq fun K36 hK36 => ?_
          refine W.block ?_
          refine W.seq fun K37 hK37 => ?_
          refine W.region ?_
          obtain ⟨u38, hu38, hF⟩ := bindE hF
          refine wl_index (e := ty_141) Try.underlying112 rfl rfl rfl h0_0 hu38 ?_
          rintro p39 _ rfl hp40
          refine wl_load_p (vs := [(.int .i64 u38.1), (.int .i64 u38.2.1), (.int .i64 u38.2.2)]) (v := (.agg #[(.int .i64 u38.1), (.int .i64 u38.2.1), (.int .i64 u38.2.2)])) tf_141 rfl rfl (hp40.ro hB22) rfl rfl ?_
          refine wl_alloc (cs := [(.int .i64 0), (.int .i64 0), (.int .i64 0)]) tf_141 rfl rfl hB22 hS23 ?_
          intro b41 w42 hb43 hB44 hS45
          refine wl_store_blk (i := 0) (vs := [(.int .i64 u38.1), (.int .i64 u38.2.1), (.int .i64 u38.2.2)]) (cs' := [(.int .i64 u38.1), (.int .i64 u38.2.1), (.int .i64 u38.2.2)]) tf_141 rfl rfl rfl rfl hB44 hS45 rfl rfl ⟨rfl, rfl, rfl, trivial⟩ rfl ?_
          intro w46 hk49 hB47 hS48
          refine WL.nil ?_
          refine fun a ha => hK37 _ _ ?_ a ha
          refine W.seq fun K50 hK50 => ?_
          refine W.region ?_
          refine wl_move rfl rfl ?_
          refine wl_load_blk (i := 2) (vs := [(.int .i64 y27), (.int .i64 y28)]) (v := (.agg #[(.int .i64 y27), (.int .i64 y28)])) tf_54 rfl rfl hS48 rfl rfl rfl ?_
          refine wl_field (o := 1) (off' := 1) ff_141_1 rfl rfl rfl ?_
          refine wl_load_blk (i := 0) (vs := [(.int .i64 u38.2.1), (.int .i64 u38.2.2)]) (v := (.agg #[(.int .i64 u38.2.1), (.int .i64 u38.2.2)])) tf_54 rfl rfl hS48 rfl rfl rfl ?_
          refine wl_field (o := 0) (off' := 0) ff_141_0 rfl rfl rfl ?_
          refine wl_load_blk (i := 0) (vs := [(.int .i64 u38.1)]) (v := (.int .i64 u38.1)) tf_3 rfl rfl hS48 rfl rfl rfl ?_
          refine wl_build (zs := [(.int .i64 0), (.int .i64 0), (.int .i64 0), (.int .i64 0), (.int .i64 0)]) (out := [(.int .i64 y27), (.int .i64 y28), (.int .i64 u38.2.1), (.int .i64 u38.2.2), (.int .i64 u38.1)]) (vs := [(.agg #[(.int .i64 y27), (.int .i64 y28)]), (.agg #[(.int .i64 u38.2.1), (.int .i64 u38.2.2)]), (.int .i64 u38.1)]) (css := [[(.int .i64 y27), (.int .i64 y28)], [(.int .i64 u38.2.1), (.int .i64 u38.2.2)], [(.int .i64 u38.1)]]) tf_96 pl_96 rfl rfl rfl rfl rfl ?_
          refine wl_lit (vs := [(.agg #[(.int .i64 y27), (.int .i64 y28), (.int .i64 u38.2.1), (.int .i64 u38.2.2), (.int .i64 u38.1)])]) (l := [((y27, y28), u38.2, u38.1)]) fl_96 Try.underlying87 rfl rfl rfl rfl rfl rfl hB47 hS48 ?_
          intro v51 F52 w53 hb54 hB55 hS56
          obtain ⟨u57, hu57, hF⟩ := bindE hF
          refine wl_append (i := 2) (S := (· < w53.heap.size)) fl_96 Try.underlying87 rfl rfl rfl hB55 hS56 rfl (hS56.own_ro (i := 0) rfl) hu57 ?_
          intro v58 F59 w60 hk61 hB62 hS63
          refine wl_assign rfl rfl ?_
          refine WL.nil ?_
          refine fun a ha => hK50 _ _ ?_ a ha
          refine W.region ?_
          refine wl_field (o := 1) (off' := 1) ff_141_1 rfl rfl rfl ?_
          refine wl_load_blk (i := 1) (vs := [(.int .i64 u38.2.1), (.int .i64 u38.2.2)]) (v := (.agg #[(.int .i64 u38.2.1), (.int .i64 u38.2.2)])) tf_54 rfl rfl hS63 rfl rfl rfl ?_
          refine wl_store_blk (i := 3) (vs := [(.int .i64 u38.2.1), (.int .i64 u38.2.2)]) (cs' := [(.int .i64 u38.2.1), (.int .i64 u38.2.2)]) tf_54 rfl rfl rfl rfl hB62 hS63 rfl rfl ⟨rfl, rfl, trivial⟩ rfl ?_
          intro w65 hk68 hB66 hS67
          refine WL.nil ?_
          refine fun a ha => hK36 _ _ ?_ a ha
          refine W.region ?_
          refine wl_add rfl rfl rfl ?_
          refine wl_move rfl rfl ?_
          refine WL.nil ?_
          rw [hnx30] at hF
          exact fun a ha => hKL31 a _ m32 (Nat.lt_succ_self m32) ⟨u57, u38.2.1, u38.2.2, (w64 (y29 + 1)), v58, F59, ha.sub ⟨rfl, rfl, rfl, rfl, rfl, trivial⟩, hB66, (hS67.sel [2, 3] rfl), hF⟩
        · replace hF := ifN h35 hF
          refine W.exit ?_
          refine fun a ha => hK19 _ _ ?_ a ha
          refine W.seq fun K69 hK69 => ?_
          refine W.region ?_
          refine wl_move rfl rfl ?_
          refine wl_assign rfl rfl ?_
          refine WL.nil ?_
          refine fun a ha => hK69 _ _ ?_ a ha
          refine W.ret ?_
          have hr := Option.some.inj hF
          subst hr
          exact rets (vs := [v25]) hQ rfl ⟨rv_tmp rfl, trivial⟩ ⟨v25, F26, rfl, hB22, hS23.sel [0] rfl⟩
  refine W.regionH mixed_ [] hB5 hS6 ?_
  intro w70 hb71 hB72 hS73
  have hSW74 := KeepX.refl w70 []
  refine WH.takex (i := 1) rfl (by kernel_rfl) (by kernel_rfl) (by kernel_rfl) hP hSW74 ?_
  refine pr_field (o := 1) (off' := 1) ff_114_1 rfl rfl rfl ?_
  refine WH.takex (i := 2) rfl (by kernel_rfl) (by kernel_rfl) (by kernel_rfl) hP hSW74 ?_
  refine pr_load_blk (i := 0) (vs := [(.int .i64 x0.2.1.1), (.int .i64 x0.2.1.2)]) (v := (.agg #[(.int .i64 x0.2.1.1), (.int .i64 x0.2.1.2)])) tf_54 rfl rfl hS73 rfl rfl rfl (by simp) ?_
  refine WH.many (is := [0, 3]) (by kernel_rfl) rfl ?_
  refine List.forall_mem_cons.2 ⟨⟨_, rfl, ?_⟩, List.forall_mem_cons.2 ⟨⟨_, rfl, ?_⟩, fun _ h => by cases h⟩⟩
  ·
    refine wl_lit (vs := []) (l := []) fl_96 Try.underlying87 rfl rfl rfl rfl rfl rfl (Below.self w70) (Sep.nil _ _) ?_
    intro v75 F76 w77 hb78 hB81 hM82
    have hB79 := hB72.trans (hb78.mono hB72.size)
    have hS80 := hS73.join hb78 hM82 hB72.size
    have hn83 : ∀ b ∈ F76, w70.heap.size ≤ b := fun b hb => Nat.le_trans hSW74.size ((hM82.1 _ (List.mem_cons_self ..)).2.1 b hb).1
    have hSW84 := hSW74.ext hb78
    refine WL.nil (WH.ret hSW84 ?_)
    refine WH.one (i := 3) (by kernel_rfl) rfl ?_
    refine wl_alloc (cs := [(.int .i64 0), (.int .i64 0)]) tf_54 rfl rfl (Below.self w77) (Sep.nil _ _) ?_
    intro b85 w86 hb87 hB90 hM91
    have hB88 := hB79.trans (hb87.mono hB79.size)
    have hS89 := hS80.join hb87 hM91 hB79.size
    have hn92 : ∀ b ∈ [b85], w70.heap.size ≤ b := fun b hb => Nat.le_trans hSW84.size ((hM91.1 _ (List.mem_cons_self ..)).2.1 b hb).1
    have hSW93 := hSW84.ext hb87
    refine WL.nil (WH.ret hSW93 ?_)
    refine WH.takex (i := 4) rfl (by kernel_rfl) (by kernel_rfl) (by kernel_rfl) hP hSW93 ?_
    refine pr_assign rfl rfl ?_
    refine WH.one (i := 5) (by kernel_rfl) rfl ?_
    refine wl_store_blk (i := 0) (vs := [(.int .i64 x0.2.1.1), (.int .i64 x0.2.1.2)]) (cs' := [(.int .i64 x0.2.1.1), (.int .i64 x0.2.1.2)]) tf_54 rfl rfl rfl rfl hB88 hS89 rfl rfl ⟨rfl, rfl, trivial⟩ rfl ?_
    intro w94 hk97 hB95 hS96
    have hSW98 := hSW93.wr' hk97.1 hk97.2.1 (fun b hlt hb => absurd hlt (Nat.not_lt.2 (hn92 b hb)))
    have hn99 : ∀ b ∈ [b85], w70.heap.size ≤ b := fun b hb => (hk97.2.2 b hb).elim (hn92 b) fun h => Nat.le_trans hSW93.size h
    refine WL.nil (WH.ret hSW98 ?_)
    refine WH.done (by kernel_rfl) ?_
    exact fun a ha => hJ18 ([]) (x0.2.1.1) (x0.2.1.2) (v75) (F76) (b85) _ hF hB95 (hS96.sel [2, 1, 0] rfl) a (ha.sub ⟨rfl, rfl, rfl, trivial⟩)
  ·
    refine wl_alloc (cs := [(.int .i64 0), (.int .i64 0)]) tf_54 rfl rfl (Below.self w70) (Sep.nil _ _) ?_
    intro b100 w101 hb102 hB105 hM106
    have hB103 := hB72.trans (hb102.mono hB72.size)
    have hS104 := hS73.join hb102 hM106 hB72.size
    have hn107 : ∀ b ∈ [b100], w70.heap.size ≤ b := fun b hb => Nat.le_trans hSW74.size ((hM106.1 _ (List.mem_cons_self ..)).2.1 b hb).1
    have hSW108 := hSW74.ext hb102
    refine WL.nil (WH.ret hSW108 ?_)
    refine WH.one (i := 0) (by kernel_rfl) rfl ?_
    refine wl_lit (vs := []) (l := []) fl_96 Try.underlying87 rfl rfl rfl rfl rfl rfl (Below.self w101) (Sep.nil _ _) ?_
    intro v109 F110 w111 hb112 hB115 hM116
    have hB113 := hB103.trans (hb112.mono hB103.size)
    have hS114 := hS104.join hb112 hM116 hB103.size
    have hn117 : ∀ b ∈ F110, w70.heap.size ≤ b := fun b hb => Nat.le_trans hSW108.size ((hM116.1 _ (List.mem_cons_self ..)).2.1 b hb).1
    have hSW118 := hSW108.ext hb112
    refine WL.nil (WH.ret hSW118 ?_)
    refine WH.takex (i := 4) rfl (by kernel_rfl) (by kernel_rfl) (by kernel_rfl) hP hSW118 ?_
    refine pr_assign rfl rfl ?_
    refine WH.one (i := 5) (by kernel_rfl) rfl ?_
    refine wl_store_blk (i := 1) (vs := [(.int .i64 x0.2.1.1), (.int .i64 x0.2.1.2)]) (cs' := [(.int .i64 x0.2.1.1), (.int .i64 x0.2.1.2)]) tf_54 rfl rfl rfl rfl hB113 hS114 rfl rfl ⟨rfl, rfl, trivial⟩ rfl ?_
    intro w119 hk122 hB120 hS121
    have hSW123 := hSW118.wr' hk122.1 hk122.2.1 (fun b hlt hb => absurd hlt (Nat.not_lt.2 (hn107 b hb)))
    have hn124 : ∀ b ∈ [b100], w70.heap.size ≤ b := fun b hb => (hk122.2.2 b hb).elim (hn107 b) fun h => Nat.le_trans hSW118.size h
    refine WL.nil (WH.ret hSW123 ?_)
    refine WH.done (by kernel_rfl) ?_
    exact fun a ha => hJ18 ([]) (x0.2.1.1) (x0.2.1.2) (v109) (F110) (b100) _ hF hB120 (hS121.sel [2, 0, 1] rfl) a (ha.sub ⟨rfl, rfl, rfl, trivial⟩)
theorem C_impl_placeAt (w0 : World) (x0 : ((Int × Int) × (Int × Int) × Int)) (x1 : Int) (r : (Int × Int)) (hF : F_impl_placeAt x0 x1 = some r) :
    Calls Try.prog 170 [(.agg #[(.int .i64 x0.1.1), (.int .i64 x0.1.2), (.int .i64 x0.2.1.1), (.int .i64 x0.2.1.2), (.int .i64 x0.2.2)]), (.int .i64 x1)].toArray w0 fun e w' => e = .returned (.tuple #[(.int .i64 r.1), (.int .i64 r.2)]) ∧ Below w0.heap.size w0 w' := by
  refine calls_mk' Try.func170 rfl Try.ntmps170 rfl rfl fun Q hQ hP => ?_
  have hB : Below w0.heap.size w0 w0 := Below.refl _ _
  have hS : Sep w0.heap.size w0 [] := Sep.nil _ _
  unfold F_impl_placeAt at hF
  refine W.seq fun K1 hK1 => ?_
  refine W.region ?_
  refine wl_box (cs := [(.int .i64 x0.1.1), (.int .i64 x0.1.2), (.int .i64 x0.2.1.1), (.int .i64 x0.2.1.2), (.int .i64 x0.2.2)]) rfl rfl rfl hB hS ?_
  intro b2 w3 hb4 hB5 hS6
  refine wl_assign rfl rfl ?_
  refine wl_assign rfl rfl ?_
  refine WL.nil ?_
  refine fun a ha => hK1 _ _ ?_ a ha
  refine W.seq fun K7 hK7 => ?_
  refine W.regionH mixed_ [] hB5 hS6 ?_
  intro w8 hb9 hB10 hS11
  have hSW12 := KeepX.refl w8 []
  refine WH.takex (i := 0) rfl (by kernel_rfl) (by kernel_rfl) (by kernel_rfl) hP hSW12 ?_
  refine pr_field (o := 0) (off' := 0) ff_96_0 rfl rfl rfl ?_
  refine WH.takex (i := 1) rfl (by kernel_rfl) (by kernel_rfl) (by kernel_rfl) hP hSW12 ?_
  refine pr_field (o := 0) (off' := 0) ff_54_0 rfl rfl rfl ?_
  refine WH.takex (i := 2) rfl (by kernel_rfl) (by kernel_rfl) (by kernel_rfl) hP hSW12 ?_
  refine pr_load_blk (i := 0) (vs := [(.int .i64 x0.1.1)]) (v := (.int .i64 x0.1.1)) tf_3 rfl rfl hS11 rfl rfl rfl (by simp) ?_
  refine WH.takex (i := 3) rfl (by kernel_rfl) (by kernel_rfl) (by kernel_rfl) hP hSW12 ?_
  refine pr_field (o := 4) (off' := 4) ff_96_2 rfl rfl rfl ?_
  refine WH.takex (i := 4) rfl (by kernel_rfl) (by kernel_rfl) (by kernel_rfl) hP hSW12 ?_
  refine pr_load_blk (i := 0) (vs := [(.int .i64 x0.2.2)]) (v := (.int .i64 x0.2.2)) tf_3 rfl rfl hS11 rfl rfl rfl (by simp) ?_
  refine WH.takex (i := 5) rfl (by kernel_rfl) (by kernel_rfl) (by kernel_rfl) hP hSW12 ?_
  refine pr_mul rfl rfl rfl ?_
  refine WH.takex (i := 6) rfl (by kernel_rfl) (by kernel_rfl) (by kernel_rfl) hP hSW12 ?_
  refine pr_move rfl rfl ?_
  refine WH.takex (i := 7) rfl (by kernel_rfl) (by kernel_rfl) (by kernel_rfl) hP hSW12 ?_
  refine pr_field (o := 2) (off' := 2) ff_96_1 rfl rfl rfl ?_
  refine WH.takex (i := 8) rfl (by kernel_rfl) (by kernel_rfl) (by kernel_rfl) hP hSW12 ?_
  refine pr_field (o := 0) (off' := 2) ff_54_0 rfl rfl rfl ?_
  refine WH.takex (i := 9) rfl (by kernel_rfl) (by kernel_rfl) (by kernel_rfl) hP hSW12 ?_
  refine pr_load_blk (i := 0) (vs := [(.int .i64 x0.2.1.1)]) (v := (.int .i64 x0.2.1.1)) tf_3 rfl rfl hS11 rfl rfl rfl (by simp) ?_
  refine WH.takex (i := 10) rfl (by kernel_rfl) (by kernel_rfl) (by kernel_rfl) hP hSW12 ?_
  refine pr_field (o := 0) (off' := 0) ff_96_0 rfl rfl rfl ?_
  refine WH.takex (i := 11) rfl (by kernel_rfl) (by kernel_rfl) (by kernel_rfl) hP hSW12 ?_
  refine pr_field (o := 0) (off' := 0) ff_54_0 rfl rfl rfl ?_
  refine WH.takex (i := 12) rfl (by kernel_rfl) (by kernel_rfl) (by kernel_rfl) hP hSW12 ?_
  refine pr_load_blk (i := 0) (vs := [(.int .i64 x0.1.1)]) (v := (.int .i64 x0.1.1)) tf_3 rfl rfl hS11 rfl rfl rfl (by simp) ?_
  refine WH.takex (i := 13) rfl (by kernel_rfl) (by kernel_rfl) (by kernel_rfl) hP hSW12 ?_
  refine pr_sub rfl rfl rfl ?_
  refine WH.takex (i := 14) rfl (by kernel_rfl) (by kernel_rfl) (by kernel_rfl) hP hSW12 ?_
  refine pr_mul rfl rfl rfl ?_
  refine WH.takex (i := 15) rfl (by kernel_rfl) (by kernel_rfl) (by kernel_rfl) hP hSW12 ?_
  refine pr_add rfl rfl rfl ?_
  refine WH.takex (i := 16) rfl (by kernel_rfl) (by kernel_rfl) (by kernel_rfl) hP hSW12 ?_
  refine pr_field (o := 0) (off' := 0) ff_96_0 rfl rfl rfl ?_
  refine WH.takex (i := 17) rfl (by kernel_rfl) (by kernel_rfl) (by kernel_rfl) hP hSW12 ?_
  refine pr_field (o := 1) (off' := 1) ff_54_1 rfl rfl rfl ?_
  refine WH.takex (i := 18) rfl (by kernel_rfl) (by kernel_rfl) (by kernel_rfl) hP hSW12 ?_
  refine pr_load_blk (i := 0) (vs := [(.int .i64 x0.1.2)]) (v := (.int .i64 x0.1.2)) tf_3 rfl rfl hS11 rfl rfl rfl (by simp) ?_
  refine WH.takex (i := 19) rfl (by kernel_rfl) (by kernel_rfl) (by kernel_rfl) hP hSW12 ?_
  refine pr_field (o := 4) (off' := 4) ff_96_2 rfl rfl rfl ?_
  refine WH.takex (i := 20) rfl (by kernel_rfl) (by kernel_rfl) (by kernel_rfl) hP hSW12 ?_
  refine pr_load_blk (i := 0) (vs := [(.int .i64 x0.2.2)]) (v := (.int .i64 x0.2.2)) tf_3 rfl rfl hS11 rfl rfl rfl (by simp) ?_
  refine WH.takex (i := 21) rfl (by kernel_rfl) (by kernel_rfl) (by kernel_rfl) hP hSW12 ?_
  refine pr_mul rfl rfl rfl ?_
  refine WH.takex (i := 22) rfl (by kernel_rfl) (by kernel_rfl) (by kernel_rfl) hP hSW12 ?_
  refine pr_move rfl rfl ?_
  refine WH.takex (i := 23) rfl (by kernel_rfl) (by kernel_rfl) (by kernel_rfl) hP hSW12 ?_
  refine pr_field (o := 2) (off' := 2) ff_96_1 rfl rfl rfl ?_
  refine WH.takex (i := 24) rfl (by kernel_rfl) (by kernel_rfl) (by kernel_rfl) hP hSW12 ?_
  refine pr_field (o := 1) (off' := 3) ff_54_1 rfl rfl rfl ?_
  refine WH.takex (i := 25) rfl (by kernel_rfl) (by kernel_rfl) (by kernel_rfl) hP hSW12 ?_
  refine pr_load_blk (i := 0) (vs := [(.int .i64 x0.2.1.2)]) (v := (.int .i64 x0.2.1.2)) tf_3 rfl rfl hS11 rfl rfl rfl (by simp) ?_
  refine WH.takex (i := 26) rfl (by kernel_rfl) (by kernel_rfl) (by kernel_rfl) hP hSW12 ?_
  refine pr_field (o := 0) (off' := 0) ff_96_0 rfl rfl rfl ?_
  refine WH.takex (i := 27) rfl (by kernel_rfl) (by kernel_rfl) (by kernel_rfl) hP hSW12 ?_
  refine pr_field (o := 1) (off' := 1) ff_54_1 rfl rfl rfl ?_
  refine WH.takex (i := 28) rfl (by kernel_rfl) (by kernel_rfl) (by kernel_rfl) hP hSW12 ?_
  refine pr_load_blk (i := 0) (vs := [(.int .i64 x0.1.2)]) (v := (.int .i64 x0.1.2)) tf_3 rfl rfl hS11 rfl rfl rfl (by simp) ?_
  refine WH.takex (i := 29) rfl (by kernel_rfl) (by kernel_rfl) (by kernel_rfl) hP hSW12 ?_
  refine pr_sub rfl rfl rfl ?_
  refine WH.takex (i := 30) rfl (by kernel_rfl) (by kernel_rfl) (by kernel_rfl) hP hSW12 ?_
  refine pr_mul rfl rfl rfl ?_
  refine WH.takex (i := 31) rfl (by kernel_rfl) (by kernel_rfl) (by kernel_rfl) hP hSW12 ?_
  refine pr_add rfl rfl rfl ?_
  refine WH.takex (i := 32) rfl (by kernel_rfl) (by kernel_rfl) (by kernel_rfl) hP hSW12 ?_
  refine pr_assign rfl rfl ?_
  refine WH.takex (i := 33) rfl (by kernel_rfl) (by kernel_rfl) (by kernel_rfl) hP hSW12 ?_
  refine pr_assign rfl rfl ?_
  refine WH.done (by kernel_rfl) ?_
  refine fun a ha => hK7 _ _ ?_ a ha
  refine W.ret ?_
  have hr := Option.some.inj hF
  subst hr
  exact rets (vs := [(.int .i64 (w64 ((w64 (x0.1.1 * x0.2.2)) + (w64 (x1 * (w64 (x0.2.1.1 - x0.1.1))))))), (.int .i64 (w64 ((w64 (x0.1.2 * x0.2.2)) + (w64 (x1 * (w64 (x0.2.1.2 - x0.1.2)))))))]) hQ rfl ⟨rv_tmp rfl, rv_tmp rfl, trivial⟩ ⟨rfl, hB10⟩
theorem C_impl_floorDiv (w0 : World) (x0 : Int) (x1 : Int) (r : Int) (hF : F_impl_floorDiv x0 x1 = some r) :
    Calls Try.prog 176 [(.int .i64 x0), (.int .i64 x1)].toArray w0 fun e w' => e = .returned (.int .i64 r) ∧ Below w0.heap.size w0 w' := by
  refine calls_mk' Try.func176 rfl Try.ntmps176 rfl rfl fun Q hQ hP => ?_
  have hB : Below w0.heap.size w0 w0 := Below.refl _ _
  have hS : Sep w0.heap.size w0 [] := Sep.nil _ _
  unfold F_impl_floorDiv at hF
  refine W.seq fun K1 hK1 => ?_
  refine W.region ?_
  refine wl_assign rfl rfl ?_
  refine WL.nil ?_
  refine fun a ha => hK1 _ _ ?_ a ha
  refine W.seq fun K2 hK2 => ?_
  refine W.region ?_
  refine wl_move rfl rfl ?_
  refine wl_move rfl rfl ?_
  have h3 : x1 ≠ 0 := fun h3 => noneE (ifP h3 hF)
  replace hF := ifNP h3 hF
  refine wl_quo rfl rfl rfl h3 ?_
  refine wl_assign rfl rfl ?_
  refine WL.nil ?_
  refine fun a ha => hK2 _ _ ?_ a ha
  refine W.seq fun K4 hK4 => ?_
  obtain ⟨k9, hk9, hF⟩ := jE1 hF
  have hJ10 : ∀ (y8 : Int) (w5 : World) (_ : k9 y8 = some r) (_ : Below w0.heap.size w0 w5) (_ : Sep w0.heap.size w5 []), ∀ a, St 16 [(5, (.int .i64 y8))] a → K4 a w5 := by
    intro y8 w5 hF hB6 hS7
    subst hk9
    refine fun a ha => hK4 _ _ ?_ a ha
    refine W.seq fun K11 hK11 => ?_
    refine W.region ?_
    refine wl_move rfl rfl ?_
    refine wl_assign rfl rfl ?_
    refine WL.nil ?_
    refine fun a ha => hK11 _ _ ?_ a ha
    refine W.ret ?_
    have hr := Option.some.inj hF
    subst hr
    exact rets (vs := [(.int .i64 y8)]) hQ rfl ⟨rv_tmp rfl, trivial⟩ ⟨rfl, hB6⟩
  refine W.seq fun K12 hK12 => ?_
  refine W.region ?_
  refine wl_move rfl rfl ?_
  refine wl_move rfl rfl ?_
  have h13 : x1 ≠ 0 := fun h13 => noneE (ifP h13 hF)
  replace hF := ifNP h13 hF
  refine wl_rem rfl rfl rfl h13 ?_
  refine wl_lss rfl rfl rfl ?_
  refine WL.nil ?_
  refine fun a ha => hK12 _ _ ?_ a ha
  refine W.cond rfl (fun h14 => ?_) (fun h14 => ?_)
  · replace hF := ifP h14 hF
    refine W.region ?_
    refine wl_move rfl rfl ?_
    refine wl_sub rfl rfl rfl ?_
    refine wl_assign rfl rfl ?_
    refine WL.nil ?_
    exact fun a ha => hJ10 ((w64 ((w64 (Int.tdiv x0 x1)) - 1))) _ hF hB (hS.sel [] rfl) a (ha.sub ⟨rfl, trivial⟩)
  · replace hF := ifN h14 hF
    refine W.skip ?_
    exact fun a ha => hJ10 ((w64 (Int.tdiv x0 x1))) _ hF hB (hS.sel [] rfl) a (ha.sub ⟨rfl, trivial⟩)
theorem C_impl_roundDiv (w0 : World) (x0 : Int) (x1 : Int) (r : Int) (hF : F_impl_roundDiv x0 x1 = some r) :
    Calls Try.prog 171 [(.int .i64 x0), (.int .i64 x1)].toArray w0 fun e w' => e = .returned (.int .i64 r) ∧ Below w0.heap.size w0 w' := by
  refine calls_mk' Try.func171 rfl Try.ntmps171 rfl rfl fun Q hQ hP => ?_
  have hB : Below w0.heap.size w0 w0 := Below.refl _ _
  have hS : Sep w0.heap.size w0 [] := Sep.nil _ _
  unfold F_impl_roundDiv at hF
  refine W.seq fun K1 hK1 => ?_
  refine W.region ?_
  refine wl_assign rfl rfl ?_
  refine WL.nil ?_
  refine fun a ha => hK1 _ _ ?_ a ha
  refine W.seq fun K2 hK2 => ?_
  refine W.region ?_
  refine wl_move rfl rfl ?_
  refine wl_mul rfl rfl rfl ?_
  refine wl_move rfl rfl ?_
  refine wl_add rfl rfl rfl ?_
  refine wl_move rfl rfl ?_
  refine wl_mul rfl rfl rfl ?_
  obtain ⟨u3, hu3, hF⟩ := bindE hF
  refine wl_call rfl Try.call176 (C_impl_floorDiv w0 (w64 ((w64 (2 * x0)) + x1)) (w64 (2 * x1)) _ hu3) rfl ?_
  rintro _ w4 ⟨rfl, hb5⟩
  refine ⟨_, rfl, ?_⟩
  have hB6 := hB.trans (hb5.mono hB.size)
  have hS7 := hS.below hb5
  refine wl_assign rfl rfl ?_
  refine WL.nil ?_
  refine fun a ha => hK2 _ _ ?_ a ha
  refine W.ret ?_
  have hr := Option.some.inj hF
  subst hr
  exact rets (vs := [(.int .i64 u3)]) hQ rfl ⟨rv_tmp rfl, trivial⟩ ⟨rfl, hB6⟩
theorem C_impl_roundedAt (w0 : World) (x0 : ((Int × Int) × (Int × Int) × Int)) (x1 : Int) (r : (Int × Int)) (hF : F_impl_roundedAt x0 x1 = some r) :
    Calls Try.prog 159 [(.agg #[(.int .i64 x0.1.1), (.int .i64 x0.1.2), (.int .i64 x0.2.1.1), (.int .i64 x0.2.1.2), (.int .i64 x0.2.2)]), (.int .i64 x1)].toArray w0 fun e w' => e = .returned (.agg #[(.int .i64 r.1), (.int .i64 r.2)]) ∧ Below w0.heap.size w0 w' := by
  refine calls_mk' Try.func159 rfl Try.ntmps159 rfl rfl fun Q hQ hP => ?_
  have hB : Below w0.heap.size w0 w0 := Below.refl _ _
  have hS : Sep w0.heap.size w0 [] := Sep.nil _ _
  unfold F_impl_roundedAt at hF
  refine W.seq fun K1 hK1 => ?_
  refine W.region ?_
  refine wl_box (cs := [(.int .i64 x0.1.1), (.int .i64 x0.1.2), (.int .i64 x0.2.1.1), (.int .i64 x0.2.1.2), (.int .i64 x0.2.2)]) rfl rfl rfl hB hS ?_
  intro b2 w3 hb4 hB5 hS6
  refine wl_alloc (cs := [(.int .i64 0), (.int .i64 0)]) tf_54 rfl rfl hB5 hS6 ?_
  intro b7 w8 hb9 hB10 hS11
  refine WL.nil ?_
  refine fun a ha => hK1 _ _ ?_ a ha
  refine W.seq fun K12 hK12 => ?_
  refine W.region ?_
  refine wl_load_blk (i := 1) (vs := [(.int .i64 x0.1.1), (.int .i64 x0.1.2), (.int .i64 x0.2.1.1), (.int .i64 x0.2.1.2), (.int .i64 x0.2.2)]) (v := (.agg #[(.int .i64 x0.1.1), (.int .i64 x0.1.2), (.int .i64 x0.2.1.1), (.int .i64 x0.2.1.2), (.int .i64 x0.2.2)])) tf_96 rfl rfl hS11 rfl rfl rfl ?_
  refine wl_move rfl rfl ?_
  obtain ⟨u13, hu13, hF⟩ := bindE hF
  refine wl_call rfl Try.call170 (C_impl_placeAt w8 x0 x1 _ hu13) rfl ?_
  rintro _ w14 ⟨rfl, hb15⟩
  refine ⟨_, rfl, ?_⟩
  have hB16 := hB10.trans (hb15.mono hB10.size)
  have hS17 := hS11.below hb15
  refine wl_move rfl rfl ?_
  refine wl_extract rfl rfl rfl ?_
  refine wl_extract rfl rfl rfl ?_
  refine wl_assign rfl rfl ?_
  refine wl_assign rfl rfl ?_
  refine WL.nil ?_
  refine fun a ha => hK12 _ _ ?_ a ha
  refine W.seq fun K19 hK19 => ?_
  refine W.regionH mixed_ [b7] hB16 hS17 ?_
  intro w20 hb21 hB22 hS23
  have hSW24 := KeepX.refl w20 [b7]
  refine WH.takex (i := 0) rfl (by kernel_rfl) (by kernel_rfl) (by kernel_rfl) hP hSW24 ?_
  refine pr_move rfl rfl ?_
  refine WH.takex (i := 1) rfl (by kernel_rfl) (by kernel_rfl) (by kernel_rfl) hP hSW24 ?_
  refine pr_field (o := 4) (off' := 4) ff_96_2 rfl rfl rfl ?_
  refine WH.takex (i := 2) rfl (by kernel_rfl) (by kernel_rfl) (by kernel_rfl) hP hSW24 ?_
  refine pr_load_blk (i := 1) (vs := [(.int .i64 x0.2.2)]) (v := (.int .i64 x0.2.2)) tf_3 rfl rfl hS23 rfl rfl rfl (hS23.disj (i := 1) (j := 0) rfl rfl rfl b2 (by simp [R.blk])) ?_
  refine WH.takex (i := 4) rfl (by kernel_rfl) (by kernel_rfl) (by kernel_rfl) hP hSW24 ?_
  refine pr_move rfl rfl ?_
  refine WH.takex (i := 5) rfl (by kernel_rfl) (by kernel_rfl) (by kernel_rfl) hP hSW24 ?_
  refine pr_field (o := 4) (off' := 4) ff_96_2 rfl rfl rfl ?_
  refine WH.takex (i := 6) rfl (by kernel_rfl) (by kernel_rfl) (by kernel_rfl) hP hSW24 ?_
  refine pr_load_blk (i := 1) (vs := [(.int .i64 x0.2.2)]) (v := (.int .i64 x0.2.2)) tf_3 rfl rfl hS23 rfl rfl rfl (hS23.disj (i := 1) (j := 0) rfl rfl rfl b2 (by simp [R.blk])) ?_
  refine WH.one (i := 3) (by kernel_rfl) rfl ?_
  obtain ⟨u25, hu25, hF⟩ := bindE hF
  refine wl_call rfl Try.call171 (C_impl_roundDiv w20 u13.1 x0.2.2 _ hu25) rfl ?_
  rintro _ w26 ⟨rfl, hb27⟩
  refine ⟨_, rfl, ?_⟩
  have hB28 := hB22.trans (hb27.mono hB22.size)
  have hS29 := hS23.below hb27
  have hSW31 := hSW24.ext hb27
  have hbS32 : Below w20.heap.size w20 w26 := hb27
  refine WL.nil (WH.ret hSW31 ?_)
  refine WH.one (i := 7) (by kernel_rfl) rfl ?_
  obtain ⟨u33, hu33, hF⟩ := bindE hF
  refine wl_call rfl Try.call171 (C_impl_roundDiv w26 u13.2 x0.2.2 _ hu33) rfl ?_
  rintro _ w34 ⟨rfl, hb35⟩
  refine ⟨_, rfl, ?_⟩
  have hB36 := hB28.trans (hb35.mono hB28.size)
  have hS37 := hS29.below hb35
  have hSW39 := hSW31.ext hb35
  have hbS40 : Below w20.heap.size w20 w34 := hbS32.trans (hb35.mono hbS32.size)
  refine WL.nil (WH.ret hSW39 ?_)
  refine WH.takex (i := 8) rfl (by kernel_rfl) (by kernel_rfl) (by kernel_rfl) hP hSW39 ?_
  refine pr_build (zs := [(.int .i64 0), (.int .i64 0)]) (out := [(.int .i64 u25), (.int .i64 u33)]) (vs := [(.int .i64 u25), (.int .i64 u33)]) (css := [[(.int .i64 u25)], [(.int .i64 u33)]]) tf_54 pl_54 rfl rfl rfl rfl rfl ?_
  refine WH.one (i := 9) (by kernel_rfl) rfl ?_
  refine wl_store_blk (i := 0) (vs := [(.int .i64 u25), (.int .i64 u33)]) (cs' := [(.int .i64 u25), (.int .i64 u33)]) tf_54 rfl rfl rfl rfl hB36 hS37 rfl rfl ⟨rfl, rfl, trivial⟩ rfl ?_
  intro w41 hk44 hB42 hS43
  have hSW45 := hSW39.wr' hk44.1 hk44.2.1 (fun _ _ h => h)
  refine WL.nil (WH.ret hSW45 ?_)
  refine WH.done (by kernel_rfl) ?_
  refine fun a ha => hK19 _ _ ?_ a ha
  refine W.ret ?_
  have hr := Option.some.inj hF
  subst hr
  exact rets (vs := [(.agg #[(.int .i64 u25), (.int .i64 u33)])]) hQ rfl ⟨rv_cell (i := 0) tf_54 rfl hS43 rfl rfl rfl, trivial⟩ ⟨rfl, hB42⟩
theorem C_impl_SpotAfter (w0 : World) (x0 : (Int × (Int × Int) × (List (Int × (Int × Int))))) (v0_0 : Value) (h0_0 : rdS ty_141 (· < w0.heap.size) w0 v0_0 x0.2.2) (x1 : Int) (r : ((Int × Int) × Bool)) (hF : F_impl_SpotAfter x0 x1 = some r) :
    Calls Try.prog 127 [(.agg #[(.int .i64 x0.1), (.int .i64 x0.2.1.1), (.int .i64 x0.2.1.2), v0_0]), (.int .i64 x1)].toArray w0 fun e w' => e = .returned (.tuple #[(.agg #[(.int .i64 r.1.1), (.int .i64 r.1.2)]), (.bool r.2)]) ∧ Below w0.heap.size w0 w' := by
  refine calls_mk' Try.func127 rfl Try.ntmps127 rfl rfl fun Q hQ hP => ?_
  have hB : Below w0.heap.size w0 w0 := Below.refl _ _
  have hS : Sep w0.heap.size w0 [] := Sep.nil _ _
  unfold F_impl_SpotAfter at hF
  refine W.seq fun K1 hK1 => ?_
  refine W.region ?_
  refine wl_box (cs := [(.int .i64 x0.1), (.int .i64 x0.2.1.1), (.int .i64 x0.2.1.2), v0_0]) rfl rfl rfl hB hS ?_
  intro b2 w3 hb4 hB5 hS6
  refine wl_alloc (cs := [(.int .i64 0), (.int .i64 0)]) tf_54 rfl rfl hB5 hS6 ?_
  intro b7 w8 hb9 hB10 hS11
  refine wl_assign rfl rfl ?_
  refine WL.nil ?_
  refine fun a ha => hK1 _ _ ?_ a ha
  refine W.seq fun K12 hK12 => ?_
  refine W.seq fun K13 hK13 => ?_
  obtain ⟨k18, hk18, hF⟩ := jE1 hF
  have hJ19 : ∀ (y17 : Bool) (w14 : World) (_ : k18 y17 = some r) (_ : Below w0.heap.size w0 w14) (_ : Sep w0.heap.size w14 [R.blk b2 114 [(.int .i64 x0.1), (.int .i64 x0.2.1.1), (.int .i64 x0.2.1.2), v0_0], R.blk b7 54 [(.int .i64 0), (.int .i64 0)]]), ∀ a, St 40 [(1, (.int .i64 x1)), (2, (.pointer (some ⟨b2, 0, none⟩))), (4, (.pointer (some ⟨b7, 0, none⟩))), (14, (.bool y17))] a → K13 a w14 := by
    intro y17 w14 hF hB15 hS16
    subst hk18
    refine fun a ha => hK13 _ _ ?_ a ha
    refine W.cond rfl (fun h20 => ?_) (fun h20 => ?_)
    · replace hF := ifP h20 hF
      refine W.seq fun K21 hK21 => ?_
      refine W.region ?_
      refine wl_build (zs := [(.int .i64 0), (.int .i64 0)]) (out := [(.int .i64 0), (.int .i64 0)]) (vs := []) (css := []) tf_54 pl_54 rfl rfl rfl rfl rfl ?_
      refine wl_store_blk (i := 1) (vs := [(.int .i64 0), (.int .i64 0)]) (cs' := [(.int .i64 0), (.int .i64 0)]) tf_54 rfl rfl rfl rfl hB15 hS16 rfl rfl ⟨rfl, rfl, trivial⟩ rfl ?_
      intro w22 hk25 hB23 hS24
      refine wl_assign rfl rfl ?_
      refine WL.nil ?_
      refine fun a ha => hK21 _ _ ?_ a ha
      refine W.ret ?_
      have hr := Option.some.inj hF
      subst hr
      exact rets (vs := [(.agg #[(.int .i64 0), (.int .i64 0)]), (.bool false)]) hQ rfl ⟨rv_cell (i := 1) tf_54 rfl hS24 rfl rfl rfl, rv_tmp rfl, trivial⟩ ⟨rfl, hB23⟩
    · replace hF := ifN h20 hF
      refine W.skip ?_
      refine fun a ha => hK12 _ _ ?_ a ha
      refine W.seq fun K26 hK26 => ?_
      refine W.seq fun K27 hK27 => ?_
      refine W.region ?_
      refine wl_load_blk (i := 0) (vs := [(.int .i64 x0.1), (.int .i64 x0.2.1.1), (.int .i64 x0.2.1.2), v0_0]) (v := (.agg #[(.int .i64 x0.1), (.int .i64 x0.2.1.1), (.int .i64 x0.2.1.2), v0_0])) tf_114 rfl rfl hS16 rfl rfl rfl ?_
      obtain ⟨u28, hu28, hF⟩ := bindE hF
      refine wl_call rfl Try.call158 (C_impl_sheetMoves w14 x0 v0_0 (h0_0.ro hB15) _ hu28) rfl ?_
      rintro _ w31 ⟨v29, F30, rfl, hb32, hM35⟩
      refine ⟨_, rfl, ?_⟩
      have hB33 := hB15.trans (hb32.mono hB15.size)
      have hS34 := hS16.join hb32 hM35 hB15.size
      refine wl_lenr (e := ty_96) (l := u28) Try.underlying87 rfl rfl (hS34.own_ro (i := 0) rfl) ?_
      refine wl_move rfl rfl ?_
      refine WL.nil ?_
      refine fun a ha => hK27 _ _ ?_ a ha
      refine W.block ?_
      refine W.loopk (fun m a w36 => ∃ (y39 : Int) (y40 : Int), St 40 [(1, (.int .i64 y39)), (2, (.pointer (some ⟨b2, 0, none⟩))), (4, (.pointer (some ⟨b7, 0, none⟩))), (17, v29), (18, (.int .i64 (List.length u28 : Int))), (19, (.int .i64 y40))] a ∧ Below w0.heap.size w0 w36 ∧ Sep w0.heap.size w36 [R.blk b2 114 [(.int .i64 x0.1), (.int .i64 x0.2.1.1), (.int .i64 x0.2.1.2), v0_0], R.blk b7 54 [(.int .i64 0), (.int .i64 0)], R.own ty_96 F30 v29 u28] ∧ F_impl_SpotAfter_L1 u28 x0 m y39 y40 = some r) FU ?_ ?_
      ·
        exact fun a ha => ⟨x1, 0, ha.sub ⟨rfl, rfl, rfl, rfl, rfl, rfl, trivial⟩, hB33, (hS34.sel [1, 2, 0] rfl), hF⟩
      ·
        rintro m43 a w36 ⟨y39, y40, ha, hB37, hS38, hF⟩ KL42 hKL42
        refine W.at ?_ ha
        cases m43 with
        | zero => exact noneE hF
        | succ m43 =>
          obtain ⟨nx41, hnx41⟩ : ∃ k, k = F_impl_SpotAfter_L1 u28 x0 m43 := ⟨_, rfl⟩
          rw [F_impl_SpotAfter_L1, ← hnx41] at hF
          refine W.seq fun K44 hK44 => ?_
          refine W.region ?_
          refine wl_lss rfl rfl rfl ?_
          refine WL.nil ?_
          refine fun a ha => hK44 _ _ ?_ a ha
          refine W.seq fun K45 hK45 => ?_
          refine W.cond rfl (fun h46 => ?_) (fun h46 => ?_)
          · replace hF := ifP h46 hF
            refine W.skip ?_
            refine fun a ha => hK45 _ _ ?_ a ha
            refine W.seq fun K47 hK47 => ?_
            refine W.block ?_
            refine W.seq fun K48 hK48 => ?_
            refine W.region ?_
            obtain ⟨u49, hu49, hF⟩ := bindE hF
            refine wl_indexo (e := ty_96) (i := 2) Try.underlying87 rfl rfl rfl hS38 rfl hu49 ?_
            rintro p50 _ rfl hp51 ho52
            refine wl_load_p (vs := [(.int .i64 u49.1.1), (.int .i64 u49.1.2), (.int .i64 u49.2.1.1), (.int .i64 u49.2.1.2), (.int .i64 u49.2.2)]) (v := (.agg #[(.int .i64 u49.1.1), (.int .i64 u49.1.2), (.int .i64 u49.2.1.1), (.int .i64 u49.2.1.2), (.int .i64 u49.2.2)])) tf_96 rfl rfl hp51 rfl rfl ?_
            refine wl_alloc (cs := [(.int .i64 0), (.int .i64 0), (.int .i64 0), (.int .i64 0), (.int .i64 0)]) tf_96 rfl rfl hB37 hS38 ?_
            intro b53 w54 hb55 hB56 hS57
            refine wl_store_blk (i := 0) (vs := [(.int .i64 u49.1.1), (.int .i64 u49.1.2), (.int .i64 u49.2.1.1), (.int .i64 u49.2.1.2), (.int .i64 u49.2.2)]) (cs' := [(.int .i64 u49.1.1), (.int .i64 u49.1.2), (.int .i64 u49.2.1.1), (.int .i64 u49.2.1.2), (.int .i64 u49.2.2)]) tf_96 rfl rfl rfl rfl hB56 hS57 rfl rfl ⟨rfl, rfl, rfl, rfl, rfl, trivial⟩ rfl ?_
            intro w58 hk61 hB59 hS60
            refine WL.nil ?_
            refine fun a ha => hK48 _ _ ?_ a ha
            refine W.seq fun K62 hK62 => ?_
            refine W.seq fun K63 hK63 => ?_
            refine W.region ?_
            refine wl_move rfl rfl ?_
            refine wl_field (o := 4) (off' := 4) ff_96_2 rfl rfl rfl ?_
            refine wl_load_blk (i := 0) (vs := [(.int .i64 u49.2.2)]) (v := (.int .i64 u49.2.2)) tf_3 rfl rfl hS60 rfl rfl rfl ?_
            refine wl_leq rfl rfl rfl ?_
            refine WL.nil ?_
            refine fun a ha => hK63 _ _ ?_ a ha
            refine W.cond rfl (fun h64 => ?_) (fun h64 => ?_)
            · replace hF := ifP h64 hF
              refine W.seq fun K65 hK65 => ?_
              refine W.region ?_
              refine wl_load_blk (i := 0) (vs := [(.int .i64 u49.1.1), (.int .i64 u49.1.2), (.int .i64 u49.2.1.1), (.int .i64 u49.2.1.2), (.int .i64 u49.2.2)]) (v := (.agg #[(.int .i64 u49.1.1), (.int .i64 u49.1.2), (.int .i64 u49.2.1.1), (.int .i64 u49.2.1.2), (.int .i64 u49.2.2)])) tf_96 rfl rfl hS60 rfl rfl rfl ?_
              refine wl_move rfl rfl ?_
              obtain ⟨u66, hu66, hF⟩ := bindE hF
              refine wl_call rfl Try.call159 (C_impl_roundedAt w58 u49 y39 _ hu66) rfl ?_
              rintro _ w67 ⟨rfl, hb68⟩
              refine ⟨_, rfl, ?_⟩
              have hB69 := hB59.trans (hb68.mono hB59.size)
              have hS70 := hS60.below hb68
              refine wl_store_blk (i := 2) (vs := [(.int .i64 u66.1), (.int .i64 u66.2)]) (cs' := [(.int .i64 u66.1), (.int .i64 u66.2)]) tf_54 rfl rfl rfl rfl hB69 hS70 rfl rfl ⟨rfl, rfl, trivial⟩ rfl ?_
              intro w72 hk75 hB73 hS74
              refine wl_assign rfl rfl ?_
              refine WL.nil ?_
              refine fun a ha => hK65 _ _ ?_ a ha
              refine W.ret ?_
              have hr := Option.some.inj hF
              subst hr
              exact rets (vs := [(.agg #[(.int .i64 u66.1), (.int .i64 u66.2)]), (.bool true)]) hQ rfl ⟨rv_cell (i := 2) tf_54 rfl hS74 rfl rfl rfl, rv_tmp rfl, trivial⟩ ⟨rfl, hB73⟩
            · replace hF := ifN h64 hF
              refine W.skip ?_
              refine fun a ha => hK62 _ _ ?_ a ha
              refine W.region ?_
              refine wl_move rfl rfl ?_
              refine wl_field (o := 4) (off' := 4) ff_96_2 rfl rfl rfl ?_
              refine wl_load_blk (i := 0) (vs := [(.int .i64 u49.2.2)]) (v := (.int .i64 u49.2.2)) tf_3 rfl rfl hS60 rfl rfl rfl ?_
              refine wl_sub rfl rfl rfl ?_
              refine wl_assign rfl rfl ?_
              refine WL.nil ?_
              refine fun a ha => hK47 _ _ ?_ a ha
              refine W.region ?_
              refine wl_add rfl rfl rfl ?_
              refine wl_move rfl rfl ?_
              refine WL.nil ?_
              rw [hnx41] at hF
              exact fun a ha => hKL42 a _ m43 (Nat.lt_succ_self m43) ⟨(w64 (y39 - u49.2.2)), (w64 (y40 + 1)), ha.sub ⟨rfl, rfl, rfl, rfl, rfl, rfl, trivial⟩, hB59, (hS60.sel [1, 2, 3] rfl), hF⟩
          · replace hF := ifN h46 hF
            refine W.exit ?_
            refine fun a ha => hK26 _ _ ?_ a ha
            refine W.seq fun K76 hK76 => ?_
            refine W.seq fun K77 hK77 => ?_
            refine W.region ?_
            refine wl_move rfl rfl ?_
            refine wl_gtr rfl rfl rfl ?_
            refine WL.nil ?_
            refine fun a ha => hK77 _ _ ?_ a ha
            refine W.cond rfl (fun h78 => ?_) (fun h78 => ?_)
            · replace hF := ifP h78 hF
              refine W.seq fun K79 hK79 => ?_
              refine W.region ?_
              refine wl_build (zs := [(.int .i64 0), (.int .i64 0)]) (out := [(.int .i64 0), (.int .i64 0)]) (vs := []) (css := []) tf_54 pl_54 rfl rfl rfl rfl rfl ?_
              refine wl_store_blk (i := 1) (vs := [(.int .i64 0), (.int .i64 0)]) (cs' := [(.int .i64 0), (.int .i64 0)]) tf_54 rfl rfl rfl rfl hB37 hS38 rfl rfl ⟨rfl, rfl, trivial⟩ rfl ?_
              intro w80 hk83 hB81 hS82
              refine wl_assign rfl rfl ?_
              refine WL.nil ?_
              refine fun a ha => hK79 _ _ ?_ a ha
              refine W.ret ?_
              have hr := Option.some.inj hF
              subst hr
              exact rets (vs := [(.agg #[(.int .i64 0), (.int .i64 0)]), (.bool false)]) hQ rfl ⟨rv_cell (i := 1) tf_54 rfl hS82 rfl rfl rfl, rv_tmp rfl, trivial⟩ ⟨rfl, hB81⟩
            · replace hF := ifN h78 hF
              refine W.skip ?_
              refine fun a ha => hK76 _ _ ?_ a ha
              refine W.seq fun K84 hK84 => ?_
              refine W.region ?_
              refine wl_field (o := 1) (off' := 1) ff_114_1 rfl rfl rfl ?_
              refine wl_load_blk (i := 0) (vs := [(.int .i64 x0.2.1.1), (.int .i64 x0.2.1.2)]) (v := (.agg #[(.int .i64 x0.2.1.1), (.int .i64 x0.2.1.2)])) tf_54 rfl rfl hS38 rfl rfl rfl ?_
              refine wl_store_blk (i := 1) (vs := [(.int .i64 x0.2.1.1), (.int .i64 x0.2.1.2)]) (cs' := [(.int .i64 x0.2.1.1), (.int .i64 x0.2.1.2)]) tf_54 rfl rfl rfl rfl hB37 hS38 rfl rfl ⟨rfl, rfl, trivial⟩ rfl ?_
              intro w85 hk88 hB86 hS87
              refine wl_assign rfl rfl ?_
              refine WL.nil ?_
              refine fun a ha => hK84 _ _ ?_ a ha
              refine W.ret ?_
              have hr := Option.some.inj hF
              subst hr
              exact rets (vs := [(.agg #[(.int .i64 x0.2.1.1), (.int .i64 x0.2.1.2)]), (.bool true)]) hQ rfl ⟨rv_cell (i := 1) tf_54 rfl hS87 rfl rfl rfl, rv_tmp rfl, trivial⟩ ⟨rfl, hB86⟩
  refine W.region ?_
  refine wl_load_blk (i := 1) (vs := [(.int .i64 x0.1), (.int .i64 x0.2.1.1), (.int .i64 x0.2.1.2), v0_0]) (v := (.agg #[(.int .i64 x0.1), (.int .i64 x0.2.1.1), (.int .i64 x0.2.1.2), v0_0])) tf_114 rfl rfl hS11 rfl rfl rfl ?_
  obtain ⟨u89, hu89, hF⟩ := bindE hF
  refine wl_call rfl Try.call157 (C_impl_IsSheet w8 x0 v0_0 (h0_0.ro hB10) _ hu89) rfl ?_
  rintro _ w90 ⟨rfl, hb91⟩
  refine ⟨_, rfl, ?_⟩
  have hB92 := hB10.trans (hb91.mono hB10.size)
  have hS93 := hS11.below hb91
  refine wl_not rfl rfl ?_
  refine wl_move rfl rfl ?_
  rcases bE (!u89) with h95 | h95
  · replace hF := ifP h95 hF
    refine wl_off rfl rfl rfl h95 ?_
    refine wl_off rfl rfl rfl h95 ?_
    refine wl_pick_t rfl rfl h95 rfl ?_
    refine WL.nil ?_
    exact fun a ha => hJ19 (true) _ hF hB92 (hS93.sel [1, 0] rfl) a (ha.sub ⟨rfl, rfl, rfl, rfl, trivial⟩)
  · replace hF := ifN h95 hF
    refine wl_on rfl rfl h95 ?_
    refine wl_move rfl rfl ?_
    refine wl_on rfl rfl h95 ?_
    refine wl_lss rfl rfl rfl ?_
    refine wl_pick_f rfl rfl h95 rfl ?_
    refine WL.nil ?_
    exact fun a ha => hJ19 ((decide (x1 < 0))) _ hF hB92 (hS93.sel [1, 0] rfl) a (ha.sub ⟨rfl, rfl, rfl, rfl, trivial⟩)
theorem C_impl_whereNow (w0 : World) (x0 : (((List (List (Int × Int))) × (List Int) × Int × Int) × Int × (List Int) × (List Int))) (v0_0 : Value) (h0_0 : rdS ty_70 (· < w0.heap.size) w0 v0_0 x0.1.1) (v0_1 : Value) (h0_1 : rdS ty_3 (· < w0.heap.size) w0 v0_1 x0.1.2.1) (v0_2 : Value) (h0_2 : rdS ty_3 (· < w0.heap.size) w0 v0_2 x0.2.2.1) (v0_3 : Value) (h0_3 : rdS ty_3 (· < w0.heap.size) w0 v0_3 x0.2.2.2) (x1 : Int) (r : (Int × Int)) (hF : F_impl_whereNow x0 x1 = some r) :
    Calls Try.prog 85 [(.agg #[v0_0, v0_1, (.int .i64 x0.1.2.2.1), (.int .i64 x0.1.2.2.2), (.int .i64 x0.2.1), v0_2, v0_3]), (.int .i64 x1)].toArray w0 fun e w' => e = .returned (.agg #[(.int .i64 r.1), (.int .i64 r.2)]) ∧ Below w0.heap.size w0 w' := by
  refine calls_mk' Try.func85 rfl Try.ntmps85 rfl rfl fun Q hQ hP => ?_
  have hB : Below w0.heap.size w0 w0 := Below.refl _ _
  have hS : Sep w0.heap.size w0 [] := Sep.nil _ _
  unfold F_impl_whereNow at hF
  refine W.seq fun K1 hK1 => ?_
  refine W.region ?_
  refine wl_box (cs := [v0_0, v0_1, (.int .i64 x0.1.2.2.1), (.int .i64 x0.1.2.2.2), (.int .i64 x0.2.1), v0_2, v0_3]) rfl rfl rfl hB hS ?_
  intro b2 w3 hb4 hB5 hS6
  refine wl_alloc (cs := [(.int .i64 0), (.int .i64 0)]) tf_54 rfl rfl hB5 hS6 ?_
  intro b7 w8 hb9 hB10 hS11
  refine WL.nil ?_
  refine fun a ha => hK1 _ _ ?_ a ha
  refine W.seq fun K12 hK12 => ?_
  obtain ⟨k19, hk19, hF⟩ := jE2 hF
  have hJ20 : ∀ (y17 : Int) (y18 : Int) (b16 : Nat) (w13 : World) (_ : k19 y17 y18 = some r) (_ : Below w0.heap.size w0 w13) (_ : Sep w0.heap.size w13 [R.blk b7 54 [(.int .i64 0), (.int .i64 0)], R.blk b16 54 [(.int .i64 y17), (.int .i64 y18)]]), ∀ a, St 23 [(4, (.pointer (some ⟨b7, 0, none⟩))), (5, (.pointer (some ⟨b16, 0, none⟩)))] a → K12 a w13 := by
    intro y17 y18 b16 w13 hF hB14 hS15
    subst hk19
    refine fun a ha => hK12 _ _ ?_ a ha
    refine W.seq fun K21 hK21 => ?_
    refine W.region ?_
    refine wl_load_blk (i := 1) (vs := [(.int .i64 y17), (.int .i64 y18)]) (v := (.agg #[(.int .i64 y17), (.int .i64 y18)])) tf_54 rfl rfl hS15 rfl rfl rfl ?_
    refine wl_store_blk (i := 0) (vs := [(.int .i64 y17), (.int .i64 y18)]) (cs' := [(.int .i64 y17), (.int .i64 y18)]) tf_54 rfl rfl rfl rfl hB14 hS15 rfl rfl ⟨rfl, rfl, trivial⟩ rfl ?_
    intro w22 hk25 hB23 hS24
    refine WL.nil ?_
    refine fun a ha => hK21 _ _ ?_ a ha
    refine W.ret ?_
    have hr := Option.some.inj hF
    subst hr
    exact rets (vs := [(.agg #[(.int .i64 y17), (.int .i64 y18)])]) hQ rfl ⟨rv_cell (i := 0) tf_54 rfl hS24 rfl rfl rfl, trivial⟩ ⟨rfl, hB23⟩
  refine W.regionH mixed_ [] hB10 hS11 ?_
  intro w26 hb27 hB28 hS29
  have hSW30 := KeepX.refl w26 []
  refine WH.takex (i := 0) rfl (by kernel_rfl) (by kernel_rfl) (by kernel_rfl) hP hSW30 ?_
  refine pr_field (o := 0) (off' := 0) ff_58_0 rfl rfl rfl ?_
  refine WH.takex (i := 1) rfl (by kernel_rfl) (by kernel_rfl) (by kernel_rfl) hP hSW30 ?_
  refine pr_field (o := 0) (off' := 0) ff_31_0 rfl rfl rfl ?_
  refine WH.takex (i := 2) rfl (by kernel_rfl) (by kernel_rfl) (by kernel_rfl) hP hSW30 ?_
  refine pr_load_blk (i := 1) (vs := [v0_0]) (v := v0_0) tf_29 rfl rfl hS29 rfl rfl rfl (by simp) ?_
  refine WH.takex (i := 3) rfl (by kernel_rfl) (by kernel_rfl) (by kernel_rfl) hP hSW30 ?_
  refine pr_field (o := 0) (off' := 0) ff_58_0 rfl rfl rfl ?_
  refine WH.takex (i := 4) rfl (by kernel_rfl) (by kernel_rfl) (by kernel_rfl) hP hSW30 ?_
  refine pr_field (o := 1) (off' := 1) ff_31_1 rfl rfl rfl ?_
  refine WH.takex (i := 5) rfl (by kernel_rfl) (by kernel_rfl) (by kernel_rfl) hP hSW30 ?_
  refine pr_load_blk (i := 1) (vs := [v0_1]) (v := v0_1) tf_23 rfl rfl hS29 rfl rfl rfl (by simp) ?_
  refine WH.takex (i := 6) rfl (by kernel_rfl) (by kernel_rfl) (by kernel_rfl) hP hSW30 ?_
  refine pr_move rfl rfl ?_
  refine WH.takex (i := 8) rfl (by kernel_rfl) (by kernel_rfl) (by kernel_rfl) hP hSW30 ?_
  refine pr_load_blk (i := 1) (vs := [v0_0, v0_1, (.int .i64 x0.1.2.2.1), (.int .i64 x0.1.2.2.2), (.int .i64 x0.2.1), v0_2, v0_3]) (v := (.agg #[v0_0, v0_1, (.int .i64 x0.1.2.2.1), (.int .i64 x0.1.2.2.2), (.int .i64 x0.2.1), v0_2, v0_3])) tf_58 rfl rfl hS29 rfl rfl rfl (by simp) ?_
  refine WH.takex (i := 9) rfl (by kernel_rfl) (by kernel_rfl) (by kernel_rfl) hP hSW30 ?_
  refine pr_move rfl rfl ?_
  refine WH.many (is := [7, 15]) (by kernel_rfl) rfl ?_
  refine List.forall_mem_cons.2 ⟨⟨_, rfl, ?_⟩, List.forall_mem_cons.2 ⟨⟨_, rfl, ?_⟩, fun _ h => by cases h⟩⟩
  ·
    obtain ⟨u31, hu31, hF⟩ := bindE hF
    refine wl_call rfl Try.call101 (C_impl_sheetOf w26 x0.1.1 v0_0 (h0_0.ro hB28) x0.1.2.1 v0_1 (h0_1.ro hB28) x1 _ hu31) rfl ?_
    rintro _ w34 ⟨v32, F33, rfl, hb35, hM38⟩
    refine ⟨_, rfl, ?_⟩
    have hB36 := hB28.trans (hb35.mono hB28.size)
    have hS37 := hS29.join hb35 hM38 hB28.size
    have hSW39 := hSW30.ext hb35
    refine WL.nil (WH.ret hSW39 ?_)
    refine WH.many (is := [10, 15]) (by kernel_rfl) rfl ?_
    refine List.forall_mem_cons.2 ⟨⟨_, rfl, ?_⟩, List.forall_mem_cons.2 ⟨⟨_, rfl, ?_⟩, fun _ h => by cases h⟩⟩
    ·
      obtain ⟨u40, hu40, hF⟩ := bindE hF
      refine wl_call rfl Try.call128 (C_impl_ownCount w34 x0 v0_0 (h0_0.ro hB36) v0_1 (h0_1.ro hB36) v0_2 (h0_2.ro hB36) v0_3 (h0_3.ro hB36) x1 _ hu40) rfl ?_
      rintro _ w41 ⟨rfl, hb42⟩
      refine ⟨_, rfl, ?_⟩
      have hB43 := hB36.trans (hb42.mono hB36.size)
      have hS44 := hS37.below hb42
      have hSW46 := hSW39.ext hb42
      refine WL.nil (WH.ret hSW46 ?_)
      refine WH.many (is := [11, 15]) (by kernel_rfl) rfl ?_
      refine List.forall_mem_cons.2 ⟨⟨_, rfl, ?_⟩, List.forall_mem_cons.2 ⟨⟨_, rfl, ?_⟩, fun _ h => by cases h⟩⟩
      ·
        obtain ⟨u47, hu47, hF⟩ := bindE hF
        refine wl_call rfl Try.call127 (C_impl_SpotAfter w41 u31 v32 (hS44.own_ro (i := 0) rfl) u40 _ hu47) rfl ?_
        rintro _ w48 ⟨rfl, hb49⟩
        refine ⟨_, rfl, ?_⟩
        have hB50 := hB43.trans (hb49.mono hB43.size)
        have hS51 := hS44.below hb49
        have hSW53 := hSW46.ext hb49
        refine WL.nil (WH.ret hSW53 ?_)
        refine WH.takex (i := 12) rfl (by kernel_rfl) (by kernel_rfl) (by kernel_rfl) hP hSW53 ?_
        refine pr_move rfl rfl ?_
        refine WH.takex (i := 13) rfl (by kernel_rfl) (by kernel_rfl) (by kernel_rfl) hP hSW53 ?_
        refine pr_extract rfl rfl rfl ?_
        refine WH.takex (i := 14) rfl (by kernel_rfl) (by kernel_rfl) (by kernel_rfl) hP hSW53 ?_
        refine pr_extract rfl rfl rfl ?_
        refine WH.one (i := 15) (by kernel_rfl) rfl ?_
        refine wl_alloc (cs := [(.int .i64 0), (.int .i64 0)]) tf_54 rfl rfl (Below.self w48) (Sep.nil _ _) ?_
        intro b54 w55 hb56 hB59 hM60
        have hB57 := hB50.trans (hb56.mono hB50.size)
        have hS58 := hS51.join hb56 hM60 hB50.size
        have hn61 : ∀ b ∈ [b54], w26.heap.size ≤ b := fun b hb => Nat.le_trans hSW53.size ((hM60.1 _ (List.mem_cons_self ..)).2.1 b hb).1
        have hSW62 := hSW53.ext hb56
        refine WL.nil (WH.ret hSW62 ?_)
        refine WH.one (i := 16) (by kernel_rfl) rfl ?_
        refine wl_store_blk (i := 0) (vs := [(.int .i64 u47.1.1), (.int .i64 u47.1.2)]) (cs' := [(.int .i64 u47.1.1), (.int .i64 u47.1.2)]) tf_54 rfl rfl rfl rfl hB57 hS58 rfl rfl ⟨rfl, rfl, trivial⟩ rfl ?_
        intro w63 hk66 hB64 hS65
        have hSW67 := hSW62.wr' hk66.1 hk66.2.1 (fun b hlt hb => absurd hlt (Nat.not_lt.2 (hn61 b hb)))
        have hn68 : ∀ b ∈ [b54], w26.heap.size ≤ b := fun b hb => (hk66.2.2 b hb).elim (hn61 b) fun h => Nat.le_trans hSW62.size h
        refine WL.nil (WH.ret hSW67 ?_)
        refine WH.takex (i := 17) rfl (by kernel_rfl) (by kernel_rfl) (by kernel_rfl) hP hSW67 ?_
        refine pr_assign rfl rfl ?_
        refine WH.done (by kernel_rfl) ?_
        exact fun a ha => hJ20 (u47.1.1) (u47.1.2) (b54) _ hF hB64 (hS65.sel [2, 0] rfl) a (ha.sub ⟨rfl, rfl, trivial⟩)
      ·
        refine wl_alloc (cs := [(.int .i64 0), (.int .i64 0)]) tf_54 rfl rfl (Below.self w41) (Sep.nil _ _) ?_
        intro b69 w70 hb71 hB74 hM75
        have hB72 := hB43.trans (hb71.mono hB43.size)
        have hS73 := hS44.join hb71 hM75 hB43.size
        have hn76 : ∀ b ∈ [b69], w26.heap.size ≤ b := fun b hb => Nat.le_trans hSW46.size ((hM75.1 _ (List.mem_cons_self ..)).2.1 b hb).1
        have hSW77 := hSW46.ext hb71
        refine WL.nil (WH.ret hSW77 ?_)
        refine WH.one (i := 11) (by kernel_rfl) rfl ?_
        obtain ⟨u78, hu78, hF⟩ := bindE hF
        refine wl_call rfl Try.call127 (C_impl_SpotAfter w70 u31 v32 (hS73.own_ro (i := 1) rfl) u40 _ hu78) rfl ?_
        rintro _ w79 ⟨rfl, hb80⟩
        refine ⟨_, rfl, ?_⟩
        have hB81 := hB72.trans (hb80.mono hB72.size)
        have hS82 := hS73.below hb80
        have hSW84 := hSW77.ext hb80
        refine WL.nil (WH.ret hSW84 ?_)
        refine WH.takex (i := 12) rfl (by kernel_rfl) (by kernel_rfl) (by kernel_rfl) hP hSW84 ?_
        refine pr_move rfl rfl ?_
        refine WH.takex (i := 13) rfl (by kernel_rfl) (by kernel_rfl) (by kernel_rfl) hP hSW84 ?_
        refine pr_extract rfl rfl rfl ?_
        refine WH.takex (i := 14) rfl (by kernel_rfl) (by kernel_rfl) (by kernel_rfl) hP hSW84 ?_
        refine pr_extract rfl rfl rfl ?_
        refine WH.one (i := 16) (by kernel_rfl) rfl ?_
        refine wl_store_blk (i := 0) (vs := [(.int .i64 u78.1.1), (.int .i64 u78.1.2)]) (cs' := [(.int .i64 u78.1.1), (.int .i64 u78.1.2)]) tf_54 rfl rfl rfl rfl hB81 hS82 rfl rfl ⟨rfl, rfl, trivial⟩ rfl ?_
        intro w85 hk88 hB86 hS87
        have hSW89 := hSW84.wr' hk88.1 hk88.2.1 (fun b hlt hb => absurd hlt (Nat.not_lt.2 (hn76 b hb)))
        have hn90 : ∀ b ∈ [b69], w26.heap.size ≤ b := fun b hb => (hk88.2.2 b hb).elim (hn76 b) fun h => Nat.le_trans hSW84.size h
        refine WL.nil (WH.ret hSW89 ?_)
        refine WH.takex (i := 17) rfl (by kernel_rfl) (by kernel_rfl) (by kernel_rfl) hP hSW89 ?_
        refine pr_assign rfl rfl ?_
        refine WH.done (by kernel_rfl) ?_
        exact fun a ha => hJ20 (u78.1.1) (u78.1.2) (b69) _ hF hB86 (hS87.sel [2, 0] rfl) a (ha.sub ⟨rfl, rfl, trivial⟩)
    ·
      refine wl_alloc (cs := [(.int .i64 0), (.int .i64 0)]) tf_54 rfl rfl (Below.self w34) (Sep.nil _ _) ?_
      intro b91 w92 hb93 hB96 hM97
      have hB94 := hB36.trans (hb93.mono hB36.size)
      have hS95 := hS37.join hb93 hM97 hB36.size
      have hn98 : ∀ b ∈ [b91], w26.heap.size ≤ b := fun b hb => Nat.le_trans hSW39.size ((hM97.1 _ (List.mem_cons_self ..)).2.1 b hb).1
      have hSW99 := hSW39.ext hb93
      refine WL.nil (WH.ret hSW99 ?_)
      refine WH.one (i := 10) (by kernel_rfl) rfl ?_
      obtain ⟨u100, hu100, hF⟩ := bindE hF
      refine wl_call rfl Try.call128 (C_impl_ownCount w92 x0 v0_0 (h0_0.ro hB94) v0_1 (h0_1.ro hB94) v0_2 (h0_2.ro hB94) v0_3 (h0_3.ro hB94) x1 _ hu100) rfl ?_
      rintro _ w101 ⟨rfl, hb102⟩
      refine ⟨_, rfl, ?_⟩
      have hB103 := hB94.trans (hb102.mono hB94.size)
      have hS104 := hS95.below hb102
      have hSW106 := hSW99.ext hb102
      refine WL.nil (WH.ret hSW106 ?_)
      refine WH.one (i := 11) (by kernel_rfl) rfl ?_
      obtain ⟨u107, hu107, hF⟩ := bindE hF
      refine wl_call rfl Try.call127 (C_impl_SpotAfter w101 u31 v32 (hS104.own_ro (i := 1) rfl) u100 _ hu107) rfl ?_
      rintro _ w108 ⟨rfl, hb109⟩
      refine ⟨_, rfl, ?_⟩
      have hB110 := hB103.trans (hb109.mono hB103.size)
      have hS111 := hS104.below hb109
      have hSW113 := hSW106.ext hb109
      refine WL.nil (WH.ret hSW113 ?_)
      refine WH.takex (i := 12) rfl (by kernel_rfl) (by kernel_rfl) (by kernel_rfl) hP hSW113 ?_
      refine pr_move rfl rfl ?_
      refine WH.takex (i := 13) rfl (by kernel_rfl) (by kernel_rfl) (by kernel_rfl) hP hSW113 ?_
      refine pr_extract rfl rfl rfl ?_
      refine WH.takex (i := 14) rfl (by kernel_rfl) (by kernel_rfl) (by kernel_rfl) hP hSW113 ?_
      refine pr_extract rfl rfl rfl ?_
      refine WH.one (i := 16) (by kernel_rfl) rfl ?_
      refine wl_store_blk (i := 0) (vs := [(.int .i64 u107.1.1), (.int .i64 u107.1.2)]) (cs' := [(.int .i64 u107.1.1), (.int .i64 u107.1.2)]) tf_54 rfl rfl rfl rfl hB110 hS111 rfl rfl ⟨rfl, rfl, trivial⟩ rfl ?_
      intro w114 hk117 hB115 hS116
      have hSW118 := hSW113.wr' hk117.1 hk117.2.1 (fun b hlt hb => absurd hlt (Nat.not_lt.2 (hn98 b hb)))
      have hn119 : ∀ b ∈ [b91], w26.heap.size ≤ b := fun b hb => (hk117.2.2 b hb).elim (hn98 b) fun h => Nat.le_trans hSW113.size h
      refine WL.nil (WH.ret hSW118 ?_)
      refine WH.takex (i := 17) rfl (by kernel_rfl) (by kernel_rfl) (by kernel_rfl) hP hSW118 ?_
      refine pr_assign rfl rfl ?_
      refine WH.done (by kernel_rfl) ?_
      exact fun a ha => hJ20 (u107.1.1) (u107.1.2) (b91) _ hF hB115 (hS116.sel [2, 0] rfl) a (ha.sub ⟨rfl, rfl, trivial⟩)
  ·
    refine wl_alloc (cs := [(.int .i64 0), (.int .i64 0)]) tf_54 rfl rfl (Below.self w26) (Sep.nil _ _) ?_
    intro b120 w121 hb122 hB125 hM126
    have hB123 := hB28.trans (hb122.mono hB28.size)
    have hS124 := hS29.join hb122 hM126 hB28.size
    have hn127 : ∀ b ∈ [b120], w26.heap.size ≤ b := fun b hb => Nat.le_trans hSW30.size ((hM126.1 _ (List.mem_cons_self ..)).2.1 b hb).1
    have hSW128 := hSW30.ext hb122
    refine WL.nil (WH.ret hSW128 ?_)
    refine WH.one (i := 7) (by kernel_rfl) rfl ?_
    obtain ⟨u129, hu129, hF⟩ := bindE hF
    refine wl_call rfl Try.call101 (C_impl_sheetOf w121 x0.1.1 v0_0 (h0_0.ro hB123) x0.1.2.1 v0_1 (h0_1.ro hB123) x1 _ hu129) rfl ?_
    rintro _ w132 ⟨v130, F131, rfl, hb133, hM136⟩
    refine ⟨_, rfl, ?_⟩
    have hB134 := hB123.trans (hb133.mono hB123.size)
    have hS135 := hS124.join hb133 hM136 hB123.size
    have hSW137 := hSW128.ext hb133
    refine WL.nil (WH.ret hSW137 ?_)
    refine WH.one (i := 10) (by kernel_rfl) rfl ?_
    obtain ⟨u138, hu138, hF⟩ := bindE hF
    refine wl_call rfl Try.call128 (C_impl_ownCount w132 x0 v0_0 (h0_0.ro hB134) v0_1 (h0_1.ro hB134) v0_2 (h0_2.ro hB134) v0_3 (h0_3.ro hB134) x1 _ hu138) rfl ?_
    rintro _ w139 ⟨rfl, hb140⟩
    refine ⟨_, rfl, ?_⟩
    have hB141 := hB134.trans (hb140.mono hB134.size)
    have hS142 := hS135.below hb140
    have hSW144 := hSW137.ext hb140
    refine WL.nil (WH.ret hSW144 ?_)
    refine WH.one (i := 11) (by kernel_rfl) rfl ?_
    obtain ⟨u145, hu145, hF⟩ := bindE hF
    refine wl_call rfl Try.call127 (C_impl_SpotAfter w139 u129 v130 (hS142.own_ro (i := 0) rfl) u138 _ hu145) rfl ?_
    rintro _ w146 ⟨rfl, hb147⟩
    refine ⟨_, rfl, ?_⟩
    have hB148 := hB141.trans (hb147.mono hB141.size)
    have hS149 := hS142.below hb147
    have hSW151 := hSW144.ext hb147
    refine WL.nil (WH.ret hSW151 ?_)
    refine WH.takex (i := 12) rfl (by kernel_rfl) (by kernel_rfl) (by kernel_rfl) hP hSW151 ?_
    refine pr_move rfl rfl ?_
    refine WH.takex (i := 13) rfl (by kernel_rfl) (by kernel_rfl) (by kernel_rfl) hP hSW151 ?_
    refine pr_extract rfl rfl rfl ?_
    refine WH.takex (i := 14) rfl (by kernel_rfl) (by kernel_rfl) (by kernel_rfl) hP hSW151 ?_
    refine pr_extract rfl rfl rfl ?_
    refine WH.one (i := 16) (by kernel_rfl) rfl ?_
    refine wl_store_blk (i := 1) (vs := [(.int .i64 u145.1.1), (.int .i64 u145.1.2)]) (cs' := [(.int .i64 u145.1.1), (.int .i64 u145.1.2)]) tf_54 rfl rfl rfl rfl hB148 hS149 rfl rfl ⟨rfl, rfl, trivial⟩ rfl ?_
    intro w152 hk155 hB153 hS154
    have hSW156 := hSW151.wr' hk155.1 hk155.2.1 (fun b hlt hb => absurd hlt (Nat.not_lt.2 (hn127 b hb)))
    have hn157 : ∀ b ∈ [b120], w26.heap.size ≤ b := fun b hb => (hk155.2.2 b hb).elim (hn127 b) fun h => Nat.le_trans hSW151.size h
    refine WL.nil (WH.ret hSW156 ?_)
    refine WH.takex (i := 17) rfl (by kernel_rfl) (by kernel_rfl) (by kernel_rfl) hP hSW156 ?_
    refine pr_assign rfl rfl ?_
    refine WH.done (by kernel_rfl) ?_
    exact fun a ha => hJ20 (u145.1.1) (u145.1.2) (b120) _ hF hB153 (hS154.sel [2, 1] rfl) a (ha.sub ⟨rfl, rfl, trivial⟩)
theorem C_impl_WhereNow (w0 : World) (x0 : (((List (List (Int × Int))) × (List Int) × Int × Int) × Int × (List Int) × (List Int))) (v0_0 : Value) (h0_0 : rdS ty_70 (· < w0.heap.size) w0 v0_0 x0.1.1) (v0_1 : Value) (h0_1 : rdS ty_3 (· < w0.heap.size) w0 v0_1 x0.1.2.1) (v0_2 : Value) (h0_2 : rdS ty_3 (· < w0.heap.size) w0 v0_2 x0.2.2.1) (v0_3 : Value) (h0_3 : rdS ty_3 (· < w0.heap.size) w0 v0_3 x0.2.2.2) (x1 : Int) (r : ((Int × Int) × Bool)) (hF : F_impl_WhereNow x0 x1 = some r) :
    Calls Try.prog 38 [(.agg #[v0_0, v0_1, (.int .i64 x0.1.2.2.1), (.int .i64 x0.1.2.2.2), (.int .i64 x0.2.1), v0_2, v0_3]), (.int .i64 x1)].toArray w0 fun e w' => e = .returned (.tuple #[(.agg #[(.int .i64 r.1.1), (.int .i64 r.1.2)]), (.bool r.2)]) ∧ Below w0.heap.size w0 w' := by
  refine calls_mk' Try.func38 rfl Try.ntmps38 rfl rfl fun Q hQ hP => ?_
  have hB : Below w0.heap.size w0 w0 := Below.refl _ _
  have hS : Sep w0.heap.size w0 [] := Sep.nil _ _
  unfold F_impl_WhereNow at hF
  refine W.seq fun K1 hK1 => ?_
  refine W.region ?_
  refine wl_box (cs := [v0_0, v0_1, (.int .i64 x0.1.2.2.1), (.int .i64 x0.1.2.2.2), (.int .i64 x0.2.1), v0_2, v0_3]) rfl rfl rfl hB hS ?_
  intro b2 w3 hb4 hB5 hS6
  refine wl_alloc (cs := [(.int .i64 0), (.int .i64 0)]) tf_54 rfl rfl hB5 hS6 ?_
  intro b7 w8 hb9 hB10 hS11
  refine wl_assign rfl rfl ?_
  refine WL.nil ?_
  refine fun a ha => hK1 _ _ ?_ a ha
  refine W.seq fun K12 hK12 => ?_
  refine W.seq fun K13 hK13 => ?_
  refine W.region ?_
  refine wl_load_blk (i := 1) (vs := [v0_0, v0_1, (.int .i64 x0.1.2.2.1), (.int .i64 x0.1.2.2.2), (.int .i64 x0.2.1), v0_2, v0_3]) (v := (.agg #[v0_0, v0_1, (.int .i64 x0.1.2.2.1), (.int .i64 x0.1.2.2.2), (.int .i64 x0.2.1), v0_2, v0_3])) tf_58 rfl rfl hS11 rfl rfl rfl ?_
  refine wl_move rfl rfl ?_
  obtain ⟨u14, hu14, hF⟩ := bindE hF
  refine wl_call rfl Try.call84 (C_impl_hasPerformer w8 x0 v0_0 (h0_0.ro hB10) v0_1 (h0_1.ro hB10) v0_2 (h0_2.ro hB10) v0_3 (h0_3.ro hB10) x1 _ hu14) rfl ?_
  rintro _ w15 ⟨rfl, hb16⟩
  refine ⟨_, rfl, ?_⟩
  have hB17 := hB10.trans (hb16.mono hB10.size)
  have hS18 := hS11.below hb16
  refine wl_not rfl rfl ?_
  refine WL.nil ?_
  refine fun a ha => hK13 _ _ ?_ a ha
  refine W.cond rfl (fun h20 => ?_) (fun h20 => ?_)
  · replace hF := ifP h20 hF
    refine W.seq fun K21 hK21 => ?_
    refine W.region ?_
    refine wl_build (zs := [(.int .i64 0), (.int .i64 0)]) (out := [(.int .i64 0), (.int .i64 0)]) (vs := []) (css := []) tf_54 pl_54 rfl rfl rfl rfl rfl ?_
    refine wl_store_blk (i := 0) (vs := [(.int .i64 0), (.int .i64 0)]) (cs' := [(.int .i64 0), (.int .i64 0)]) tf_54 rfl rfl rfl rfl hB17 hS18 rfl rfl ⟨rfl, rfl, trivial⟩ rfl ?_
    intro w22 hk25 hB23 hS24
    refine wl_assign rfl rfl ?_
    refine WL.nil ?_
    refine fun a ha => hK21 _ _ ?_ a ha
    refine W.ret ?_
    have hr := Option.some.inj hF
    subst hr
    exact rets (vs := [(.agg #[(.int .i64 0), (.int .i64 0)]), (.bool false)]) hQ rfl ⟨rv_cell (i := 0) tf_54 rfl hS24 rfl rfl rfl, rv_tmp rfl, trivial⟩ ⟨rfl, hB23⟩
  · replace hF := ifN h20 hF
    refine W.skip ?_
    refine fun a ha => hK12 _ _ ?_ a ha
    refine W.seq fun K26 hK26 => ?_
    refine W.region ?_
    refine wl_load_blk (i := 1) (vs := [v0_0, v0_1, (.int .i64 x0.1.2.2.1), (.int .i64 x0.1.2.2.2), (.int .i64 x0.2.1), v0_2, v0_3]) (v := (.agg #[v0_0, v0_1, (.int .i64 x0.1.2.2.1), (.int .i64 x0.1.2.2.2), (.int .i64 x0.2.1), v0_2, v0_3])) tf_58 rfl rfl hS18 rfl rfl rfl ?_
    refine wl_move rfl rfl ?_
    obtain ⟨u27, hu27, hF⟩ := bindE hF
    refine wl_call rfl Try.call85 (C_impl_whereNow w15 x0 v0_0 (h0_0.ro hB17) v0_1 (h0_1.ro hB17) v0_2 (h0_2.ro hB17) v0_3 (h0_3.ro hB17) x1 _ hu27) rfl ?_
    rintro _ w28 ⟨rfl, hb29⟩
    refine ⟨_, rfl, ?_⟩
    have hB30 := hB17.trans (hb29.mono hB17.size)
    have hS31 := hS18.below hb29
    refine wl_store_blk (i := 0) (vs := [(.int .i64 u27.1), (.int .i64 u27.2)]) (cs' := [(.int .i64 u27.1), (.int .i64 u27.2)]) tf_54 rfl rfl rfl rfl hB30 hS31 rfl rfl ⟨rfl, rfl, trivial⟩ rfl ?_
    intro w33 hk36 hB34 hS35
    refine wl_assign rfl rfl ?_
    refine WL.nil ?_
    refine fun a ha => hK26 _ _ ?_ a ha
    refine W.ret ?_
    have hr := Option.some.inj hF
    subst hr
    exact rets (vs := [(.agg #[(.int .i64 u27.1), (.int .i64 u27.2)]), (.bool true)]) hQ rfl ⟨rv_cell (i := 0) tf_54 rfl hS35 rfl rfl rfl, rv_tmp rfl, trivial⟩ ⟨rfl, hB34⟩
theorem C_laws_FnExactWhereNow (w0 : World) (x0 : (((List (List (Int × Int))) × (List Int) × Int × Int) × Int × (List Int) × (List Int))) (v0_0 : Value) (h0_0 : rdS ty_119 (· < w0.heap.size) w0 v0_0 x0.1.1) (v0_1 : Value) (h0_1 : rdS ty_3 (· < w0.heap.size) w0 v0_1 x0.1.2.1) (v0_2 : Value) (h0_2 : rdS ty_3 (· < w0.heap.size) w0 v0_2 x0.2.2.1) (v0_3 : Value) (h0_3 : rdS ty_3 (· < w0.heap.size) w0 v0_3 x0.2.2.2) (x1 : Int) (r : Bool) (hF : F_laws_FnExactWhereNow x0 x1 = some r) :
    Calls Try.prog 8 [(.agg #[v0_0, v0_1, (.int .i64 x0.1.2.2.1), (.int .i64 x0.1.2.2.2), (.int .i64 x0.2.1), v0_2, v0_3]), (.int .i64 x1)].toArray w0 fun e w' => e = .returned (.bool r) ∧ Below w0.heap.size w0 w' := by
  refine calls_mk' Try.func8 rfl Try.ntmps8 rfl rfl fun Q hQ hP => ?_
  have hB : Below w0.heap.size w0 w0 := Below.refl _ _
  have hS : Sep w0.heap.size w0 [] := Sep.nil _ _
  unfold F_laws_FnExactWhereNow at hF
  refine W.seq fun K1 hK1 => ?_
  refine W.region ?_
  refine wl_box (cs := [v0_0, v0_1, (.int .i64 x0.1.2.2.1), (.int .i64 x0.1.2.2.2), (.int .i64 x0.2.1), v0_2, v0_3]) rfl rfl rfl hB hS ?_
  intro b2 w3 hb4 hB5 hS6
  refine wl_assign rfl rfl ?_
  refine WL.nil ?_
  refine fun a ha => hK1 _ _ ?_ a ha
  refine W.seq fun K7 hK7 => ?_
  refine W.region ?_
  refine wl_assign rfl rfl ?_
  refine WL.nil ?_
  refine fun a ha => hK7 _ _ ?_ a ha
  refine W.seq fun K8 hK8 => ?_
  refine W.region ?_
  refine wl_load_blk (i := 0) (vs := [v0_0, v0_1, (.int .i64 x0.1.2.2.1), (.int .i64 x0.1.2.2.2), (.int .i64 x0.2.1), v0_2, v0_3]) (v := (.agg #[v0_0, v0_1, (.int .i64 x0.1.2.2.1), (.int .i64 x0.1.2.2.2), (.int .i64 x0.2.1), v0_2, v0_3])) tf_51 rfl rfl hS6 rfl rfl rfl ?_
  refine wl_move rfl rfl ?_
  obtain ⟨u9, hu9, hF⟩ := bindE hF
  refine wl_call rfl Try.call35 (C_laws_szMarch w3 x0 v0_0 (h0_0.ro hB5) v0_1 (h0_1.ro hB5) v0_2 (h0_2.ro hB5) v0_3 (h0_3.ro hB5) 1048576 _ hu9) rfl ?_
  rintro _ w10 ⟨rfl, hb11⟩
  refine ⟨_, rfl, ?_⟩
  have hB12 := hB5.trans (hb11.mono hB5.size)
  have hS13 := hS6.below hb11
  refine wl_assign rfl rfl ?_
  refine WL.nil ?_
  refine fun a ha => hK8 _ _ ?_ a ha
  refine W.seq fun K15 hK15 => ?_
  refine W.seq fun K16 hK16 => ?_
  refine W.region ?_
  refine wl_move rfl rfl ?_
  refine wl_lss rfl rfl rfl ?_
  refine WL.nil ?_
  refine fun a ha => hK16 _ _ ?_ a ha
  refine W.cond rfl (fun h17 => ?_) (fun h17 => ?_)
  · replace hF := ifP h17 hF
    refine W.seq fun K18 hK18 => ?_
    refine W.region ?_
    refine wl_assign rfl rfl ?_
    refine WL.nil ?_
    refine fun a ha => hK18 _ _ ?_ a ha
    refine W.ret ?_
    have hr := Option.some.inj hF
    subst hr
    exact rets (vs := [(.bool true)]) hQ rfl ⟨rv_tmp rfl, trivial⟩ ⟨rfl, hB12⟩
  · replace hF := ifN h17 hF
    refine W.skip ?_
    refine fun a ha => hK15 _ _ ?_ a ha
    refine W.seq fun K19 hK19 => ?_
    refine W.region ?_
    refine wl_load_blk (i := 0) (vs := [v0_0, v0_1, (.int .i64 x0.1.2.2.1), (.int .i64 x0.1.2.2.2), (.int .i64 x0.2.1), v0_2, v0_3]) (v := (.agg #[v0_0, v0_1, (.int .i64 x0.1.2.2.1), (.int .i64 x0.1.2.2.2), (.int .i64 x0.2.1), v0_2, v0_3])) tf_51 rfl rfl hS13 rfl rfl rfl ?_
    obtain ⟨u20, hu20, hF⟩ := bindE hF
    refine wl_call rfl Try.call37 (C_laws_toMarch w10 x0 v0_0 (h0_0.ro hB12) v0_1 (h0_1.ro hB12) v0_2 (h0_2.ro hB12) v0_3 (h0_3.ro hB12) _ hu20) rfl ?_
    rintro _ w29 ⟨v21, F22, v23, F24, v25, F26, v27, F28, rfl, hb30, hM33⟩
    refine ⟨_, rfl, ?_⟩
    have hB31 := hB12.trans (hb30.mono hB12.size)
    have hS32 := hS13.join hb30 hM33 hB12.size
    refine wl_move rfl rfl ?_
    obtain ⟨u34, hu34, hF⟩ := bindE hF
    refine wl_call rfl Try.call36 (C_spec_WhereNow w29 u20 v21 (hS32.own_ro (i := 0) rfl) v23 (hS32.own_ro (i := 1) rfl) v25 (hS32.own_ro (i := 2) rfl) v27 (hS32.own_ro (i := 3) rfl) x1 _ hu34) rfl ?_
    rintro _ w35 ⟨rfl, hb36⟩
    refine ⟨_, rfl, ?_⟩
    have hB37 := hB31.trans (hb36.mono hB31.size)
    have hS38 := hS32.below hb36
    refine wl_move rfl rfl ?_
    refine wl_extract rfl rfl rfl ?_
    refine wl_extract rfl rfl rfl ?_
    refine wl_alloc (cs := [(.int .i64 0), (.int .i64 0)]) tf_54 rfl rfl hB37 hS38 ?_
    intro b40 w41 hb42 hB43 hS44
    refine wl_store_blk (i := 0) (vs := [(.int .i64 u34.1.1), (.int .i64 u34.1.2)]) (cs' := [(.int .i64 u34.1.1), (.int .i64 u34.1.2)]) tf_54 rfl rfl rfl rfl hB43 hS44 rfl rfl ⟨rfl, rfl, trivial⟩ rfl ?_
    intro w45 hk48 hB46 hS47
    refine wl_assign rfl rfl ?_
    refine WL.nil ?_
    refine fun a ha => hK19 _ _ ?_ a ha
    refine W.seq fun K49 hK49 => ?_
    refine W.region ?_
    refine wl_load_blk (i := 5) (vs := [v0_0, v0_1, (.int .i64 x0.1.2.2.1), (.int .i64 x0.1.2.2.2), (.int .i64 x0.2.1), v0_2, v0_3]) (v := (.agg #[v0_0, v0_1, (.int .i64 x0.1.2.2.1), (.int .i64 x0.1.2.2.2), (.int .i64 x0.2.1), v0_2, v0_3])) tf_51 rfl rfl hS47 rfl rfl rfl ?_
    obtain ⟨u50, hu50, hF⟩ := bindE hF
    refine wl_call rfl Try.call37 (C_laws_toMarch w45 x0 v0_0 (h0_0.ro hB46) v0_1 (h0_1.ro hB46) v0_2 (h0_2.ro hB46) v0_3 (h0_3.ro hB46) _ hu50) rfl ?_
    rintro _ w59 ⟨v51, F52, v53, F54, v55, F56, v57, F58, rfl, hb60, hM63⟩
    refine ⟨_, rfl, ?_⟩
    have hB61 := hB46.trans (hb60.mono hB46.size)
    have hS62 := hS47.join hb60 hM63 hB46.size
    refine wl_alloc (cs := [(.slice none 0 0), (.slice none 0 0), (.int .i64 0), (.int .i64 0), (.int .i64 0), (.slice none 0 0), (.slice none 0 0)]) tf_58 rfl rfl hB61 hS62 ?_
    intro b64 w65 hb66 hB67 hS68
    refine wl_store_blk (i := 0) (vs := [v51, v53, (.int .i64 u50.1.2.2.1), (.int .i64 u50.1.2.2.2), (.int .i64 u50.2.1), v55, v57]) (cs' := [v51, v53, (.int .i64 u50.1.2.2.1), (.int .i64 u50.1.2.2.2), (.int .i64 u50.2.1), v55, v57]) tf_58 rfl rfl rfl rfl hB67 hS68 rfl rfl ⟨(hS68.own_ro (i := 1) rfl).one, (hS68.own_ro (i := 2) rfl).one, rfl, rfl, rfl, (hS68.own_ro (i := 3) rfl).one, (hS68.own_ro (i := 4) rfl).one, trivial⟩ rfl ?_
    intro w69 hk72 hB70 hS71
    refine WL.nil ?_
    refine fun a ha => hK49 _ _ ?_ a ha
    refine W.seq fun K73 hK73 => ?_
    refine W.region ?_
    refine wl_load_blk (i := 0) (vs := [v51, v53, (.int .i64 u50.1.2.2.1), (.int .i64 u50.1.2.2.2), (.int .i64 u50.2.1), v55, v57]) (v := (.agg #[v51, v53, (.int .i64 u50.1.2.2.1), (.int .i64 u50.1.2.2.2), (.int .i64 u50.2.1), v55, v57])) tf_58 rfl rfl hS71 rfl rfl rfl ?_
    refine wl_move rfl rfl ?_
    obtain ⟨u74, hu74, hF⟩ := bindE hF
    refine wl_call rfl Try.call38 (C_impl_WhereNow w69 u50 v51 (hS71.own_ro (i := 1) rfl) v53 (hS71.own_ro (i := 2) rfl) v55 (hS71.own_ro (i := 3) rfl) v57 (hS71.own_ro (i := 4) rfl) x1 _ hu74) rfl ?_
    rintro _ w75 ⟨rfl, hb76⟩
    refine ⟨_, rfl, ?_⟩
    have hB77 := hB70.trans (hb76.mono hB70.size)
    have hS78 := hS71.below hb76
    refine wl_move rfl rfl ?_
    refine wl_extract rfl rfl rfl ?_
    refine wl_extract rfl rfl rfl ?_
    refine wl_alloc (cs := [(.int .i64 0), (.int .i64 0)]) tf_54 rfl rfl hB77 hS78 ?_
    intro b80 w81 hb82 hB83 hS84
    refine wl_store_blk (i := 0) (vs := [(.int .i64 u74.1.1), (.int .i64 u74.1.2)]) (cs' := [(.int .i64 u74.1.1), (.int .i64 u74.1.2)]) tf_54 rfl rfl rfl rfl hB83 hS84 rfl rfl ⟨rfl, rfl, trivial⟩ rfl ?_
    intro w85 hk88 hB86 hS87
    refine wl_assign rfl rfl ?_
    refine WL.nil ?_
    refine fun a ha => hK73 _ _ ?_ a ha
    refine W.seq fun K89 hK89 => ?_
    refine W.seq fun K90 hK90 => ?_
    obtain ⟨k95, hk95, hF⟩ := jE1 hF
    have hJ96 : ∀ (y94 : Bool) (w91 : World) (_ : k95 y94 = some r) (_ : Below w0.heap.size w0 w91) (_ : Sep w0.heap.size w91 [R.blk b2 51 [v0_0, v0_1, (.int .i64 x0.1.2.2.1), (.int .i64 x0.1.2.2.2), (.int .i64 x0.2.1), v0_2, v0_3], R.own ty_70 F52 v51 u50.1.1, R.own ty_3 F54 v53 u50.1.2.1, R.own ty_3 F56 v55 u50.2.2.1, R.own ty_3 F58 v57 u50.2.2.2, R.blk b64 58 [v51, v53, (.int .i64 u50.1.2.2.1), (.int .i64 u50.1.2.2.2), (.int .i64 u50.2.1), v55, v57]]), ∀ a, St 45 [(2, (.pointer (some ⟨b2, 0, none⟩))), (8, (.pointer (some ⟨b64, 0, none⟩))), (39, (.bool y94))] a → K90 a w91 := by
      intro y94 w91 hF hB92 hS93
      subst hk95
      refine fun a ha => hK90 _ _ ?_ a ha
      refine W.cond rfl (fun h97 => ?_) (fun h97 => ?_)
      · replace hF := ifP h97 hF
        refine W.seq fun K98 hK98 => ?_
        refine W.region ?_
        refine wl_assign rfl rfl ?_
        refine WL.nil ?_
        refine fun a ha => hK98 _ _ ?_ a ha
        refine W.ret ?_
        have hr := Option.some.inj hF
        subst hr
        exact rets (vs := [(.bool false)]) hQ rfl ⟨rv_tmp rfl, trivial⟩ ⟨rfl, hB92⟩
      · replace hF := ifN h97 hF
        refine W.skip ?_
        refine fun a ha => hK89 _ _ ?_ a ha
        refine W.seq fun K99 hK99 => ?_
        refine W.seq fun K100 hK100 => ?_
        refine W.regionH mixed_ [] hB92 hS93 ?_
        intro w101 hb102 hB103 hS104
        have hSW105 := KeepX.refl w101 []
        refine WH.takex (i := 0) rfl (by kernel_rfl) (by kernel_rfl) (by kernel_rfl) hP hSW105 ?_
        refine pr_load_blk (i := 5) (vs := [v51, v53, (.int .i64 u50.1.2.2.1), (.int .i64 u50.1.2.2.2), (.int .i64 u50.2.1), v55, v57]) (v := (.agg #[v51, v53, (.int .i64 u50.1.2.2.1), (.int .i64 u50.1.2.2.2), (.int .i64 u50.2.1), v55, v57])) tf_58 rfl rfl hS104 rfl rfl rfl (by simp) ?_
        refine WH.takex (i := 1) rfl (by kernel_rfl) (by kernel_rfl) (by kernel_rfl) hP hSW105 ?_
        refine pr_load_blk (i := 0) (vs := [v0_0, v0_1, (.int .i64 x0.1.2.2.1), (.int .i64 x0.1.2.2.2), (.int .i64 x0.2.1), v0_2, v0_3]) (v := (.agg #[v0_0, v0_1, (.int .i64 x0.1.2.2.1), (.int .i64 x0.1.2.2.2), (.int .i64 x0.2.1), v0_2, v0_3])) tf_51 rfl rfl hS104 rfl rfl rfl (by simp) ?_
        refine WH.one (i := 2) (by kernel_rfl) rfl ?_
        obtain ⟨u106, hu106, hF⟩ := bindE hF
        refine wl_call rfl Try.call37 (C_laws_toMarch w101 x0 v0_0 (h0_0.ro hB103) v0_1 (h0_1.ro hB103) v0_2 (h0_2.ro hB103) v0_3 (h0_3.ro hB103) _ hu106) rfl ?_
        rintro _ w115 ⟨v107, F108, v109, F110, v111, F112, v113, F114, rfl, hb116, hM119⟩
        refine ⟨_, rfl, ?_⟩
        have hB117 := hB103.trans (hb116.mono hB103.size)
        have hS118 := hS104.join hb116 hM119 hB103.size
        have hSW120 := hSW105.ext hb116
        refine WL.nil (WH.ret hSW120 ?_)
        refine WH.one (i := 3) (by kernel_rfl) rfl ?_
        obtain ⟨u121, hu121, hF⟩ := bindE hF
        refine wl_call rfl Try.call40 (C_laws_eqMarch w115 u50 v51 (hS118.own_ro (i := 5) rfl) v53 (hS118.own_ro (i := 6) rfl) v55 (hS118.own_ro (i := 7) rfl) v57 (hS118.own_ro (i := 8) rfl) u106 v107 (hS118.own_ro (i := 0) rfl) v109 (hS118.own_ro (i := 1) rfl) v111 (hS118.own_ro (i := 2) rfl) v113 (hS118.own_ro (i := 3) rfl) _ hu121) rfl ?_
        rintro _ w122 ⟨rfl, hb123⟩
        refine ⟨_, rfl, ?_⟩
        have hB124 := hB117.trans (hb123.mono hB117.size)
        have hS125 := hS118.below hb123
        have hSW127 := hSW120.ext hb123
        refine WL.nil (WH.ret hSW127 ?_)
        refine WH.takex (i := 4) rfl (by kernel_rfl) (by kernel_rfl) (by kernel_rfl) hP hSW127 ?_
        refine pr_not rfl rfl ?_
        refine WH.done (by kernel_rfl) ?_
        refine fun a ha => hK100 _ _ ?_ a ha
        refine W.cond rfl (fun h128 => ?_) (fun h128 => ?_)
        · replace hF := ifP h128 hF
          refine W.seq fun K129 hK129 => ?_
          refine W.region ?_
          refine wl_assign rfl rfl ?_
          refine WL.nil ?_
          refine fun a ha => hK129 _ _ ?_ a ha
          refine W.ret ?_
          have hr := Option.some.inj hF
          subst hr
          exact rets (vs := [(.bool false)]) hQ rfl ⟨rv_tmp rfl, trivial⟩ ⟨rfl, hB124⟩
        · replace hF := ifN h128 hF
          refine W.skip ?_
          refine fun a ha => hK99 _ _ ?_ a ha
          refine W.seq fun K130 hK130 => ?_
          refine W.region ?_
          refine wl_assign rfl rfl ?_
          refine WL.nil ?_
          refine fun a ha => hK130 _ _ ?_ a ha
          refine W.ret ?_
          have hr := Option.some.inj hF
          subst hr
          exact rets (vs := [(.bool true)]) hQ rfl ⟨rv_tmp rfl, trivial⟩ ⟨rfl, hB124⟩
    refine W.region ?_
    refine wl_load_blk (i := 0) (vs := [(.int .i64 u74.1.1), (.int .i64 u74.1.2)]) (v := (.agg #[(.int .i64 u74.1.1), (.int .i64 u74.1.2)])) tf_54 rfl rfl hS87 rfl rfl rfl ?_
    refine wl_load_blk (i := 6) (vs := [(.int .i64 u34.1.1), (.int .i64 u34.1.2)]) (v := (.agg #[(.int .i64 u34.1.1), (.int .i64 u34.1.2)])) tf_54 rfl rfl hS87 rfl rfl rfl ?_
    obtain ⟨u131, hu131, hF⟩ := bindE hF
    refine wl_call rfl Try.call39 (C_laws_eqSpot w85 u74.1 u34.1 _ hu131) rfl ?_
    rintro _ w132 ⟨rfl, hb133⟩
    refine ⟨_, rfl, ?_⟩
    have hB134 := hB86.trans (hb133.mono hB86.size)
    have hS135 := hS87.below hb133
    refine wl_not rfl rfl ?_
    refine wl_move rfl rfl ?_
    rcases bE (!u131) with h137 | h137
    · replace hF := ifP h137 hF
      refine wl_off rfl rfl rfl h137 ?_
      refine wl_off rfl rfl rfl h137 ?_
      refine wl_off rfl rfl rfl h137 ?_
      refine wl_pick_t rfl rfl h137 rfl ?_
      refine WL.nil ?_
      exact fun a ha => hJ96 (true) _ hF hB134 (hS135.sel [11, 2, 3, 4, 5, 1] rfl) a (ha.sub ⟨rfl, rfl, rfl, trivial⟩)
    · replace hF := ifN h137 hF
      refine wl_on rfl rfl h137 ?_
      refine wl_move rfl rfl ?_
      refine wl_on rfl rfl h137 ?_
      refine wl_move rfl rfl ?_
      refine wl_on rfl rfl h137 ?_
      refine wl_neqb Try.underlying4 rfl rfl rfl ?_
      refine wl_pick_f rfl rfl h137 rfl ?_
      refine WL.nil ?_
      exact fun a ha => hJ96 ((u74.2 != u34.2)) _ hF hB134 (hS135.sel [11, 2, 3, 4, 5, 1] rfl) a (ha.sub ⟨rfl, rfl, rfl, trivial⟩)
end Go.Proofs.Ythlfhcefeaehmaa
