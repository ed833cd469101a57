/-
  THE WALKS of functions of this seat, by program (gen.py).
-/
import Derived.Test.YtadklddedeoniaaH
import Derived.Test.YtadklddedeoniaaWFnExactCuesBetween
import Derived.Test.YtadklddedeoniaaWFnExactMostBehind
set_option linter.unusedSimpArgs false
set_option linter.unusedVariables false
set_option maxRecDepth 100000
namespace Go.Proofs.Ytadklddedeoniaa
open Go Go.RowKit
theorem C_spec_chOwn (w0 : World) (x0 : (List (Int × Int))) (v0_0 : Value) (h0_0 : rdS ty_116 (· < w0.heap.size) w0 v0_0 x0) (r : (List (Int × Int))) (hF : F_spec_chOwn x0 = some r) :
    Calls Try.prog 95 [v0_0].toArray w0 fun e w' => ∃ (q0 : Value) (G0 : List Nat), e = .returned q0 ∧ Below w0.heap.size w0 w' ∧ Sep w0.heap.size w' [R.own ty_116 G0 q0 r] := by
  refine calls_mk' Try.func95 rfl Try.ntmps95 rfl rfl fun Q hQ hP => ?_
  have hB : Below w0.heap.size w0 w0 := Below.refl _ _
  have hS : Sep w0.heap.size w0 [] := Sep.nil _ _
  unfold F_spec_chOwn at hF
  refine W.seq fun K1 hK1 => ?_
  refine W.region ?_
  refine wl_assign rfl rfl ?_
  refine WL.nil ?_
  refine fun a ha => hK1 _ _ ?_ a ha
  refine W.seq fun K2 hK2 => ?_
  refine W.region ?_
  refine wl_lit (vs := []) (l := []) fl_116 Try.underlying69 rfl rfl rfl rfl rfl rfl hB hS ?_
  intro v3 F4 w5 hb6 hB7 hS8
  refine wl_move rfl rfl ?_
  obtain ⟨u9, hu9, hF⟩ := bindE hF
  refine wl_append (i := 0) (S := (· < w5.heap.size)) fl_116 Try.underlying69 rfl rfl rfl hB7 hS8 rfl (h0_0.ro hB7) hu9 ?_
  intro v10 F11 w12 hk13 hB14 hS15
  refine wl_assign rfl rfl ?_
  refine WL.nil ?_
  refine fun a ha => hK2 _ _ ?_ a ha
  refine W.ret ?_
  have hr := Option.some.inj hF
  subst hr
  exact rets (vs := [v10]) hQ rfl ⟨rv_tmp rfl, trivial⟩ ⟨v10, F11, rfl, hB14, hS15.sel [0] rfl⟩
theorem C_spec_ReverseShow (w0 : World) (x0 : ((List (List (Int × Int))) × (List Int) × Int × Int)) (v0_0 : Value) (h0_0 : rdS ty_69 (· < w0.heap.size) w0 v0_0 x0.1) (v0_1 : Value) (h0_1 : rdS ty_3 (· < w0.heap.size) w0 v0_1 x0.2.1) (r : (((List (List (Int × Int))) × (List Int) × Int × Int) × Bool)) (hF : F_spec_ReverseShow x0 = some r) :
    Calls Try.prog 41 [(.agg #[v0_0, v0_1, (.int .i64 x0.2.2.1), (.int .i64 x0.2.2.2)])].toArray w0 fun e w' => ∃ (q0 : Value) (G0 : List Nat) (q1 : Value) (G1 : List Nat), e = .returned (.tuple #[(.agg #[q0, q1, (.int .i64 r.1.2.2.1), (.int .i64 r.1.2.2.2)]), (.bool r.2)]) ∧ Below w0.heap.size w0 w' ∧ Sep w0.heap.size w' [R.own ty_69 G0 q0 r.1.1, R.own ty_3 G1 q1 r.1.2.1] := by
  refine calls_mk' Try.func41 rfl Try.ntmps41 rfl rfl fun Q hQ hP => ?_
  have hB : Below w0.heap.size w0 w0 := Below.refl _ _
  have hS : Sep w0.heap.size w0 [] := Sep.nil _ _
  unfold F_spec_ReverseShow at hF
  refine W.seq fun K1 hK1 => ?_
  refine W.region ?_
  refine wl_box (cs := [v0_0, v0_1, (.int .i64 x0.2.2.1), (.int .i64 x0.2.2.2)]) rfl rfl rfl hB hS ?_
  intro b2 w3 hb4 hB5 hS6
  refine wl_alloc (cs := [(.slice none 0 0), (.slice none 0 0), (.int .i64 0), (.int .i64 0)]) tf_31 rfl rfl hB5 hS6 ?_
  intro b7 w8 hb9 hB10 hS11
  refine wl_assign rfl rfl ?_
  refine WL.nil ?_
  refine fun a ha => hK1 _ _ ?_ a ha
  refine W.seq fun K12 hK12 => ?_
  refine W.seq fun K13 hK13 => ?_
  refine W.region ?_
  refine wl_load_blk (i := 1) (vs := [v0_0, v0_1, (.int .i64 x0.2.2.1), (.int .i64 x0.2.2.2)]) (v := (.agg #[v0_0, v0_1, (.int .i64 x0.2.2.1), (.int .i64 x0.2.2.2)])) tf_31 rfl rfl hS11 rfl rfl rfl ?_
  obtain ⟨u14, hu14, hF⟩ := bindE hF
  refine wl_call rfl Try.call69 (C_spec_swGood w8 x0 v0_0 (h0_0.ro hB10) v0_1 (h0_1.ro hB10) _ hu14) rfl ?_
  rintro _ w15 ⟨rfl, hb16⟩
  refine ⟨_, rfl, ?_⟩
  have hB17 := hB10.trans (hb16.mono hB10.size)
  have hS18 := hS11.below hb16
  refine wl_not rfl rfl ?_
  refine WL.nil ?_
  refine fun a ha => hK13 _ _ ?_ a ha
  refine W.cond rfl (fun h20 => ?_) (fun h20 => ?_)
  · replace hF := ifP h20 hF
    refine W.seq fun K21 hK21 => ?_
    refine W.region ?_
    refine wl_build (zs := [(.slice none 0 0), (.slice none 0 0), (.int .i64 0), (.int .i64 0)]) (out := [(.slice none 0 0), (.slice none 0 0), (.int .i64 0), (.int .i64 0)]) (vs := []) (css := []) tf_31 pl_31 rfl rfl rfl rfl rfl ?_
    refine wl_store_blk (i := 0) (vs := [(.slice none 0 0), (.slice none 0 0), (.int .i64 0), (.int .i64 0)]) (cs' := [(.slice none 0 0), (.slice none 0 0), (.int .i64 0), (.int .i64 0)]) tf_31 rfl rfl rfl rfl hB17 hS18 rfl rfl ⟨rfl, rfl, rfl, rfl, trivial⟩ rfl ?_
    intro w22 hk25 hB23 hS24
    refine wl_assign rfl rfl ?_
    refine WL.nil ?_
    refine fun a ha => hK21 _ _ ?_ a ha
    refine W.ret ?_
    have hS26 := hS24.push0 (r := R.own ty_69 [] (.slice none 0 0) []) rfl fun _ => .inl ⟨rfl, rfl, rfl⟩
    have hS27 := hS26.push0 (r := R.own ty_3 [] (.slice none 0 0) []) rfl fun _ => .inl ⟨rfl, rfl, rfl⟩
    have hr := Option.some.inj hF
    subst hr
    exact rets (vs := [(.agg #[(.slice none 0 0), (.slice none 0 0), (.int .i64 0), (.int .i64 0)]), (.bool false)]) hQ rfl ⟨rv_cell (i := 0) tf_31 rfl hS24 rfl rfl rfl, rv_tmp rfl, trivial⟩ ⟨(.slice none 0 0), [], (.slice none 0 0), [], rfl, hB23, hS27.sel [1, 0] rfl⟩
  · replace hF := ifN h20 hF
    refine W.skip ?_
    refine fun a ha => hK12 _ _ ?_ a ha
    refine W.seq fun K28 hK28 => ?_
    refine W.region ?_
    refine wl_field (o := 2) (off' := 2) ff_31_2 rfl rfl rfl ?_
    refine wl_load_blk (i := 1) (vs := [(.int .i64 x0.2.2.1)]) (v := (.int .i64 x0.2.2.1)) tf_3 rfl rfl hS18 rfl rfl rfl ?_
    refine wl_field (o := 3) (off' := 3) ff_31_3 rfl rfl rfl ?_
    refine wl_load_blk (i := 1) (vs := [(.int .i64 x0.2.2.2)]) (v := (.int .i64 x0.2.2.2)) tf_3 rfl rfl hS18 rfl rfl rfl ?_
    refine wl_build (zs := [(.slice none 0 0), (.slice none 0 0), (.int .i64 0), (.int .i64 0)]) (out := [(.slice none 0 0), (.slice none 0 0), (.int .i64 x0.2.2.1), (.int .i64 x0.2.2.2)]) (vs := [(.int .i64 x0.2.2.1), (.int .i64 x0.2.2.2)]) (css := [[(.int .i64 x0.2.2.1)], [(.int .i64 x0.2.2.2)]]) tf_31 pl_31 rfl rfl rfl rfl rfl ?_
    refine wl_alloc (cs := [(.slice none 0 0), (.slice none 0 0), (.int .i64 0), (.int .i64 0)]) tf_31 rfl rfl hB17 hS18 ?_
    intro b29 w30 hb31 hB32 hS33
    refine wl_store_blk (i := 0) (vs := [(.slice none 0 0), (.slice none 0 0), (.int .i64 x0.2.2.1), (.int .i64 x0.2.2.2)]) (cs' := [(.slice none 0 0), (.slice none 0 0), (.int .i64 x0.2.2.1), (.int .i64 x0.2.2.2)]) tf_31 rfl rfl rfl rfl hB32 hS33 rfl rfl ⟨rfl, rfl, rfl, rfl, trivial⟩ rfl ?_
    intro w34 hk37 hB35 hS36
    refine WL.nil ?_
    refine fun a ha => hK28 _ _ ?_ a ha
    refine W.seq fun K38 hK38 => ?_
    refine W.seq fun K39 hK39 => ?_
    refine W.region ?_
    refine wl_field (o := 0) (off' := 0) ff_31_0 rfl rfl rfl ?_
    refine wl_load_blk (i := 2) (vs := [v0_0]) (v := v0_0) tf_29 rfl rfl hS36 rfl rfl rfl ?_
    refine wl_lenr (e := ty_69) (l := x0.1) Try.underlying29 rfl rfl h0_0 ?_
    refine wl_sub rfl rfl rfl ?_
    refine wl_assign rfl rfl ?_
    refine WL.nil ?_
    refine fun a ha => hK39 _ _ ?_ a ha
    refine W.block ?_
    refine W.loopk (fun m a w40 => ∃ (l43 : (List (List (Int × Int)))) (y46 : Int) (v44 : Value) (F45 : List Nat), St 54 [(1, (.pointer (some ⟨b2, 0, none⟩))), (2, (.pointer (some ⟨b7, 0, none⟩))), (4, (.pointer (some ⟨b29, 0, none⟩))), (5, (.int .i64 y46))] a ∧ Below w0.heap.size w0 w40 ∧ Sep w0.heap.size w40 [R.blk b2 31 [v0_0, v0_1, (.int .i64 x0.2.2.1), (.int .i64 x0.2.2.2)], R.blk b7 31 [(.slice none 0 0), (.slice none 0 0), (.int .i64 0), (.int .i64 0)], R.own ty_69 F45 v44 l43, R.blk b29 31 [v44, (.slice none 0 0), (.int .i64 x0.2.2.1), (.int .i64 x0.2.2.2)]] ∧ F_spec_ReverseShow_L1 x0 m l43 y46 = some r) FU ?_ ?_
    ·
      have hS48 := hS36.push0 (r := R.own ty_69 [] (.slice none 0 0) []) rfl fun _ => .inl ⟨rfl, rfl, rfl⟩
      exact fun a ha => ⟨[], (w64 ((List.length x0.1 : Int) - 1)), (.slice none 0 0), [], ha.sub ⟨rfl, rfl, rfl, rfl, trivial⟩, hB35, (hS48.sel [3, 2, 0, 1] rfl), hF⟩
    ·
      rintro m50 a w40 ⟨l43, y46, v44, F45, ha, hB41, hS42, hF⟩ KL49 hKL49
      refine W.at ?_ ha
      cases m50 with
      | zero => exact noneE hF
      | succ m50 =>
        obtain ⟨nx47, hnx47⟩ : ∃ k, k = F_spec_ReverseShow_L1 x0 m50 := ⟨_, rfl⟩
        rw [F_spec_ReverseShow_L1, ← hnx47] at hF
        refine W.seq fun K51 hK51 => ?_
        refine W.seq fun K52 hK52 => ?_
        refine W.region ?_
        refine wl_move rfl rfl ?_
        refine wl_geq rfl rfl rfl ?_
        refine WL.nil ?_
        refine fun a ha => hK52 _ _ ?_ a ha
        refine W.cond rfl (fun h53 => ?_) (fun h53 => ?_)
        · replace hF := ifP h53 hF
          refine W.skip ?_
          refine fun a ha => hK51 _ _ ?_ a ha
          refine W.seq fun K54 hK54 => ?_
          obtain ⟨k61, hk61, hF⟩ := jE1 hF
          have hJ62 : ∀ (l58 : (List (List (Int × Int)))) (v59 : Value) (F60 : List Nat) (w55 : World) (_ : k61 l58 = some r) (_ : Below w0.heap.size w0 w55) (_ : Sep w0.heap.size w55 [R.blk b2 31 [v0_0, v0_1, (.int .i64 x0.2.2.1), (.int .i64 x0.2.2.2)], R.blk b7 31 [(.slice none 0 0), (.slice none 0 0), (.int .i64 0), (.int .i64 0)], R.own ty_69 F60 v59 l58, R.blk b29 31 [v59, (.slice none 0 0), (.int .i64 x0.2.2.1), (.int .i64 x0.2.2.2)]]), ∀ a, St 54 [(1, (.pointer (some ⟨b2, 0, none⟩))), (2, (.pointer (some ⟨b7, 0, none⟩))), (4, (.pointer (some ⟨b29, 0, none⟩))), (5, (.int .i64 y46))] a → K54 a w55 := by
            intro l58 v59 F60 w55 hF hB56 hS57
            subst hk61
            refine fun a ha => hK54 _ _ ?_ a ha
            refine W.region ?_
            refine wl_move rfl rfl ?_
            refine wl_sub rfl rfl rfl ?_
            refine wl_assign rfl rfl ?_
            refine WL.nil ?_
            rw [hnx47] at hF
            exact fun a ha => hKL49 a _ m50 (Nat.lt_succ_self m50) ⟨l58, (w64 (y46 - 1)), v59, F60, ha.sub ⟨rfl, rfl, rfl, rfl, trivial⟩, hB56, (hS57.sel [0, 1, 2, 3] rfl), hF⟩
          refine W.block ?_
          refine W.regionH mixed_ (F45 ++ [b29]) hB41 hS42 ?_
          intro w63 hb64 hB65 hS66
          have hSW67 := KeepX.refl w63 (F45 ++ [b29])
          refine WH.takex (i := 0) rfl (by kernel_rfl) (by kernel_rfl) (by kernel_rfl) hP hSW67 ?_
          refine pr_field (o := 0) (off' := 0) ff_31_0 rfl rfl rfl ?_
          refine WH.takex (i := 2) rfl (by kernel_rfl) (by kernel_rfl) (by kernel_rfl) hP hSW67 ?_
          refine pr_field (o := 0) (off' := 0) ff_31_0 rfl rfl rfl ?_
          refine WH.takex (i := 3) rfl (by kernel_rfl) (by kernel_rfl) (by kernel_rfl) hP hSW67 ?_
          refine pr_load_blk (i := 0) (vs := [v0_0]) (v := v0_0) tf_29 rfl rfl hS66 rfl rfl rfl (fun hb => (List.mem_append.1 hb).elim (hS66.disj (i := 0) (j := 2) rfl rfl rfl b2 (by simp [R.blk])) (hS66.disj (i := 0) (j := 3) rfl rfl rfl b2 (by simp [R.blk]))) ?_
          refine WH.takex (i := 4) rfl (by kernel_rfl) (by kernel_rfl) (by kernel_rfl) hP hSW67 ?_
          refine pr_move rfl rfl ?_
          obtain ⟨u68, hu68, hF⟩ := bindE hF
          refine WH.takex (i := 5) rfl (by kernel_rfl) (by kernel_rfl) (by kernel_rfl) hP hSW67 ?_
          refine pr_index (e := ty_69) Try.underlying29 rfl rfl rfl h0_0 hu68 ?_
          rintro p69 _ ⟨v71, rfl, hv72⟩ hp70
          refine WH.takex (i := 6) rfl (by kernel_rfl) (by kernel_rfl) (by kernel_rfl) hP hSW67 ?_
          refine pr_load_p (vs := [v71]) (v := v71) tf_69 rfl rfl (hp70.kx hB65 (fun b hb => ((List.mem_append.1 hb).elim (fun hb => (((hS66.get (i := 2) rfl).2.1 b hb).1)) (fun hb => (((hS66.get (i := 3) rfl).2.1 b hb).1))))) rfl rfl ?_
          refine WH.many (is := [1, 7]) (by kernel_rfl) rfl ?_
          refine List.forall_mem_cons.2 ⟨⟨_, rfl, ?_⟩, List.forall_mem_cons.2 ⟨⟨_, rfl, ?_⟩, fun _ h => by cases h⟩⟩
          ·
            refine wl_load_blk (i := 3) (vs := [v44]) (v := v44) tf_29 rfl rfl hS66 rfl rfl rfl ?_
            refine WL.nil (WH.ret hSW67 ?_)
            refine WH.one (i := 7) (by kernel_rfl) rfl ?_
            obtain ⟨u73, hu73, hF⟩ := bindE hF
            refine wl_call rfl Try.call95 (C_spec_chOwn w63 u68 v71 (hv72.ro hB65) _ hu73) rfl ?_
            rintro _ w76 ⟨v74, F75, rfl, hb77, hM80⟩
            refine ⟨_, rfl, ?_⟩
            have hB78 := hB65.trans (hb77.mono hB65.size)
            have hS79 := hS66.join hb77 hM80 hB65.size
            have hSW81 := hSW67.ext hb77
            have hbS82 : Below w63.heap.size w63 w76 := hb77
            refine WL.nil (WH.ret hSW81 ?_)
            refine WH.one (i := 8) (by kernel_rfl) rfl ?_
            have hq83 := hS79.sel [0, 1, 2, 3, 4] rfl
            have hq84 := hq83.head (r' := R.cel ty_69 F75 [v74] u73) (rfl) fun _ h0 => ⟨_, rfl, h0⟩
            refine wl_lit1 (e := ty_69) (vs := [v74]) Try.underlying29 rfl rfl (cells_one (hS79.own_ro (i := 0) rfl).one) rfl hB78 hq84 ?_
            intro v85 F86 w87 hb88 hf89 hB90 hS91
            have hSW93 := hSW81.ext hb88
            have hbS94 : Below w63.heap.size w63 w87 := hbS82.trans (hb88.mono hbS82.size)
            refine WL.nil (WH.ret hSW93 ?_)
            refine WH.one (i := 9) (by kernel_rfl) rfl ?_
            obtain ⟨u95, hu95, hF⟩ := bindE hF
            refine wl_appendn (e := ty_69) Try.underlying29 rfl rfl rfl hB90 (hS91.sel [3, 0, 1, 2, 4] rfl) hu95 ?_
            intro v96 F97 w98 hk99 hB100 hS101
            have hSW102 := hSW93.wr' hk99.1 hk99.2.1 (fun _ _ h => List.mem_append_left _ (h))
            refine WL.nil (WH.ret hSW102 ?_)
            refine WH.takex (i := 10) rfl (by kernel_rfl) (by kernel_rfl) (by kernel_rfl) hP hSW102 ?_
            refine pr_field (o := 0) (off' := 0) ff_31_0 rfl rfl rfl ?_
            refine WH.one (i := 11) (by kernel_rfl) rfl ?_
            refine wl_store_blk (i := 3) (vs := [v96]) (cs' := [v96, (.slice none 0 0), (.int .i64 x0.2.2.1), (.int .i64 x0.2.2.2)]) tf_29 rfl rfl (cells_one (hS101.own_ro (i := 0) rfl).one) rfl hB100 hS101 rfl rfl ⟨(hS101.own_ro (i := 0) rfl).one, trivial⟩ rfl ?_
            intro w103 hk106 hB104 hS105
            have hSW107 := hSW102.wr' hk106.1 hk106.2.1 (fun _ _ h => List.mem_append_right _ h)
            refine WL.nil (WH.ret hSW107 ?_)
            refine WH.done (by kernel_rfl) ?_
            exact fun a ha => hJ62 (u95) (v96) (F97) _ hF hB104 (hS105.sel [1, 2, 0, 3] rfl) a (ha.sub ⟨rfl, rfl, rfl, rfl, trivial⟩)
          ·
            obtain ⟨u108, hu108, hF⟩ := bindE hF
            refine wl_call rfl Try.call95 (C_spec_chOwn w63 u68 v71 (hv72.ro hB65) _ hu108) rfl ?_
            rintro _ w111 ⟨v109, F110, rfl, hb112, hM115⟩
            refine ⟨_, rfl, ?_⟩
            have hB113 := hB65.trans (hb112.mono hB65.size)
            have hS114 := hS66.join hb112 hM115 hB65.size
            have hSW116 := hSW67.ext hb112
            have hbS117 : Below w63.heap.size w63 w111 := hb112
            refine WL.nil (WH.ret hSW116 ?_)
            refine WH.many (is := [1, 8]) (by kernel_rfl) rfl ?_
            refine List.forall_mem_cons.2 ⟨⟨_, rfl, ?_⟩, List.forall_mem_cons.2 ⟨⟨_, rfl, ?_⟩, fun _ h => by cases h⟩⟩
            ·
              refine wl_load_blk (i := 4) (vs := [v44]) (v := v44) tf_29 rfl rfl hS114 rfl rfl rfl ?_
              refine WL.nil (WH.ret hSW116 ?_)
              refine WH.one (i := 8) (by kernel_rfl) rfl ?_
              have hq118 := hS114.sel [0, 1, 2, 3, 4] rfl
              have hq119 := hq118.head (r' := R.cel ty_69 F110 [v109] u108) (rfl) fun _ h0 => ⟨_, rfl, h0⟩
              refine wl_lit1 (e := ty_69) (vs := [v109]) Try.underlying29 rfl rfl (cells_one (hS114.own_ro (i := 0) rfl).one) rfl hB113 hq119 ?_
              intro v120 F121 w122 hb123 hf124 hB125 hS126
              have hSW128 := hSW116.ext hb123
              have hbS129 : Below w63.heap.size w63 w122 := hbS117.trans (hb123.mono hbS117.size)
              refine WL.nil (WH.ret hSW128 ?_)
              refine WH.one (i := 9) (by kernel_rfl) rfl ?_
              obtain ⟨u130, hu130, hF⟩ := bindE hF
              refine wl_appendn (e := ty_69) Try.underlying29 rfl rfl rfl hB125 (hS126.sel [3, 0, 1, 2, 4] rfl) hu130 ?_
              intro v131 F132 w133 hk134 hB135 hS136
              have hSW137 := hSW128.wr' hk134.1 hk134.2.1 (fun _ _ h => List.mem_append_left _ (h))
              refine WL.nil (WH.ret hSW137 ?_)
              refine WH.takex (i := 10) rfl (by kernel_rfl) (by kernel_rfl) (by kernel_rfl) hP hSW137 ?_
              refine pr_field (o := 0) (off' := 0) ff_31_0 rfl rfl rfl ?_
              refine WH.one (i := 11) (by kernel_rfl) rfl ?_
              refine wl_store_blk (i := 3) (vs := [v131]) (cs' := [v131, (.slice none 0 0), (.int .i64 x0.2.2.1), (.int .i64 x0.2.2.2)]) tf_29 rfl rfl (cells_one (hS136.own_ro (i := 0) rfl).one) rfl hB135 hS136 rfl rfl ⟨(hS136.own_ro (i := 0) rfl).one, trivial⟩ rfl ?_
              intro w138 hk141 hB139 hS140
              have hSW142 := hSW137.wr' hk141.1 hk141.2.1 (fun _ _ h => List.mem_append_right _ h)
              refine WL.nil (WH.ret hSW142 ?_)
              refine WH.done (by kernel_rfl) ?_
              exact fun a ha => hJ62 (u130) (v131) (F132) _ hF hB139 (hS140.sel [1, 2, 0, 3] rfl) a (ha.sub ⟨rfl, rfl, rfl, rfl, trivial⟩)
            ·
              have hq143 := hS114.sel [0, 1, 2, 3, 4] rfl
              have hq144 := hq143.head (r' := R.cel ty_69 F110 [v109] u108) (rfl) fun _ h0 => ⟨_, rfl, h0⟩
              refine wl_lit1 (e := ty_69) (vs := [v109]) Try.underlying29 rfl rfl (cells_one (hS114.own_ro (i := 0) rfl).one) rfl hB113 hq144 ?_
              intro v145 F146 w147 hb148 hf149 hB150 hS151
              have hSW153 := hSW116.ext hb148
              have hbS154 : Below w63.heap.size w63 w147 := hbS117.trans (hb148.mono hbS117.size)
              refine WL.nil (WH.ret hSW153 ?_)
              refine WH.one (i := 1) (by kernel_rfl) rfl ?_
              refine wl_load_blk (i := 4) (vs := [v44]) (v := v44) tf_29 rfl rfl hS151 rfl rfl rfl ?_
              refine WL.nil (WH.ret hSW153 ?_)
              refine WH.one (i := 9) (by kernel_rfl) rfl ?_
              obtain ⟨u155, hu155, hF⟩ := bindE hF
              refine wl_appendn (e := ty_69) Try.underlying29 rfl rfl rfl hB150 (hS151.sel [3, 0, 1, 2, 4] rfl) hu155 ?_
              intro v156 F157 w158 hk159 hB160 hS161
              have hSW162 := hSW153.wr' hk159.1 hk159.2.1 (fun _ _ h => List.mem_append_left _ (h))
              refine WL.nil (WH.ret hSW162 ?_)
              refine WH.takex (i := 10) rfl (by kernel_rfl) (by kernel_rfl) (by kernel_rfl) hP hSW162 ?_
              refine pr_field (o := 0) (off' := 0) ff_31_0 rfl rfl rfl ?_
              refine WH.one (i := 11) (by kernel_rfl) rfl ?_
              refine wl_store_blk (i := 3) (vs := [v156]) (cs' := [v156, (.slice none 0 0), (.int .i64 x0.2.2.1), (.int .i64 x0.2.2.2)]) tf_29 rfl rfl (cells_one (hS161.own_ro (i := 0) rfl).one) rfl hB160 hS161 rfl rfl ⟨(hS161.own_ro (i := 0) rfl).one, trivial⟩ rfl ?_
              intro w163 hk166 hB164 hS165
              have hSW167 := hSW162.wr' hk166.1 hk166.2.1 (fun _ _ h => List.mem_append_right _ h)
              refine WL.nil (WH.ret hSW167 ?_)
              refine WH.done (by kernel_rfl) ?_
              exact fun a ha => hJ62 (u155) (v156) (F157) _ hF hB164 (hS165.sel [1, 2, 0, 3] rfl) a (ha.sub ⟨rfl, rfl, rfl, rfl, trivial⟩)
        · replace hF := ifN h53 hF
          refine W.exit ?_
          refine fun a ha => hK38 _ _ ?_ a ha
          refine W.seq fun K168 hK168 => ?_
          refine W.seq fun K169 hK169 => ?_
          refine W.region ?_
          refine wl_field (o := 1) (off' := 1) ff_31_1 rfl rfl rfl ?_
          refine wl_load_blk (i := 0) (vs := [v0_1]) (v := v0_1) tf_23 rfl rfl hS42 rfl rfl rfl ?_
          refine wl_lenr (e := ty_3) (l := x0.2.1) Try.underlying23 rfl rfl h0_1 ?_
          refine wl_sub rfl rfl rfl ?_
          refine wl_assign rfl rfl ?_
          refine WL.nil ?_
          refine fun a ha => hK169 _ _ ?_ a ha
          refine W.block ?_
          refine W.loopk (fun m a w170 => ∃ (l173 : (List Int)) (y176 : Int) (v174 : Value) (F175 : List Nat), St 54 [(1, (.pointer (some ⟨b2, 0, none⟩))), (2, (.pointer (some ⟨b7, 0, none⟩))), (4, (.pointer (some ⟨b29, 0, none⟩))), (6, (.int .i64 y176))] a ∧ Below w0.heap.size w0 w170 ∧ Sep w0.heap.size w170 [R.blk b2 31 [v0_0, v0_1, (.int .i64 x0.2.2.1), (.int .i64 x0.2.2.2)], R.blk b7 31 [(.slice none 0 0), (.slice none 0 0), (.int .i64 0), (.int .i64 0)], R.own ty_69 F45 v44 l43, R.own ty_3 F175 v174 l173, R.blk b29 31 [v44, v174, (.int .i64 x0.2.2.1), (.int .i64 x0.2.2.2)]] ∧ F_spec_ReverseShow_L2 x0 l43 m l173 y176 = some r) FU ?_ ?_
          ·
            have hS178 := hS42.push0 (r := R.own ty_3 [] (.slice none 0 0) []) rfl fun _ => .inl ⟨rfl, rfl, rfl⟩
            exact fun a ha => ⟨[], (w64 ((List.length x0.2.1 : Int) - 1)), (.slice none 0 0), [], ha.sub ⟨rfl, rfl, rfl, rfl, trivial⟩, hB41, (hS178.sel [1, 2, 3, 0, 4] rfl), hF⟩
          ·
            rintro m180 a w170 ⟨l173, y176, v174, F175, ha, hB171, hS172, hF⟩ KL179 hKL179
            refine W.at ?_ ha
            cases m180 with
            | zero => exact noneE hF
            | succ m180 =>
              obtain ⟨nx177, hnx177⟩ : ∃ k, k = F_spec_ReverseShow_L2 x0 l43 m180 := ⟨_, rfl⟩
              rw [F_spec_ReverseShow_L2, ← hnx177] at hF
              refine W.seq fun K181 hK181 => ?_
              refine W.seq fun K182 hK182 => ?_
              refine W.region ?_
              refine wl_move rfl rfl ?_
              refine wl_geq rfl rfl rfl ?_
              refine WL.nil ?_
              refine fun a ha => hK182 _ _ ?_ a ha
              refine W.cond rfl (fun h183 => ?_) (fun h183 => ?_)
              · replace hF := ifP h183 hF
                refine W.skip ?_
                refine fun a ha => hK181 _ _ ?_ a ha
                refine W.seq fun K184 hK184 => ?_
                obtain ⟨k191, hk191, hF⟩ := jE1 hF
                have hJ192 : ∀ (l188 : (List Int)) (v189 : Value) (F190 : List Nat) (w185 : World) (_ : k191 l188 = some r) (_ : Below w0.heap.size w0 w185) (_ : Sep w0.heap.size w185 [R.blk b2 31 [v0_0, v0_1, (.int .i64 x0.2.2.1), (.int .i64 x0.2.2.2)], R.blk b7 31 [(.slice none 0 0), (.slice none 0 0), (.int .i64 0), (.int .i64 0)], R.own ty_69 F45 v44 l43, R.own ty_3 F190 v189 l188, R.blk b29 31 [v44, v189, (.int .i64 x0.2.2.1), (.int .i64 x0.2.2.2)]]), ∀ a, St 54 [(1, (.pointer (some ⟨b2, 0, none⟩))), (2, (.pointer (some ⟨b7, 0, none⟩))), (4, (.pointer (some ⟨b29, 0, none⟩))), (6, (.int .i64 y176))] a → K184 a w185 := by
                  intro l188 v189 F190 w185 hF hB186 hS187
                  subst hk191
                  refine fun a ha => hK184 _ _ ?_ a ha
                  refine W.region ?_
                  refine wl_move rfl rfl ?_
                  refine wl_sub rfl rfl rfl ?_
                  refine wl_assign rfl rfl ?_
                  refine WL.nil ?_
                  rw [hnx177] at hF
                  exact fun a ha => hKL179 a _ m180 (Nat.lt_succ_self m180) ⟨l188, (w64 (y176 - 1)), v189, F190, ha.sub ⟨rfl, rfl, rfl, rfl, trivial⟩, hB186, (hS187.sel [0, 1, 2, 3, 4] rfl), hF⟩
                refine W.block ?_
                refine W.regionH mixed_ (F175 ++ [b29]) hB171 hS172 ?_
                intro w193 hb194 hB195 hS196
                have hSW197 := KeepX.refl w193 (F175 ++ [b29])
                refine WH.takex (i := 0) rfl (by kernel_rfl) (by kernel_rfl) (by kernel_rfl) hP hSW197 ?_
                refine pr_field (o := 1) (off' := 1) ff_31_1 rfl rfl rfl ?_
                refine WH.takex (i := 2) rfl (by kernel_rfl) (by kernel_rfl) (by kernel_rfl) hP hSW197 ?_
                refine pr_field (o := 1) (off' := 1) ff_31_1 rfl rfl rfl ?_
                refine WH.takex (i := 3) rfl (by kernel_rfl) (by kernel_rfl) (by kernel_rfl) hP hSW197 ?_
                refine pr_load_blk (i := 0) (vs := [v0_1]) (v := v0_1) tf_23 rfl rfl hS196 rfl rfl rfl (fun hb => (List.mem_append.1 hb).elim (hS196.disj (i := 0) (j := 3) rfl rfl rfl b2 (by simp [R.blk])) (hS196.disj (i := 0) (j := 4) rfl rfl rfl b2 (by simp [R.blk]))) ?_
                refine WH.takex (i := 4) rfl (by kernel_rfl) (by kernel_rfl) (by kernel_rfl) hP hSW197 ?_
                refine pr_move rfl rfl ?_
                obtain ⟨u198, hu198, hF⟩ := bindE hF
                refine WH.takex (i := 5) rfl (by kernel_rfl) (by kernel_rfl) (by kernel_rfl) hP hSW197 ?_
                refine pr_index (e := ty_3) Try.underlying23 rfl rfl rfl h0_1 hu198 ?_
                rintro p199 _ rfl hp200
                refine WH.takex (i := 6) rfl (by kernel_rfl) (by kernel_rfl) (by kernel_rfl) hP hSW197 ?_
                refine pr_load_p (vs := [(.int .i64 u198)]) (v := (.int .i64 u198)) tf_3 rfl rfl (hp200.kx hB195 (fun b hb => ((List.mem_append.1 hb).elim (fun hb => (((hS196.get (i := 3) rfl).2.1 b hb).1)) (fun hb => (((hS196.get (i := 4) rfl).2.1 b hb).1))))) rfl rfl ?_
                refine WH.many (is := [1, 7]) (by kernel_rfl) rfl ?_
                refine List.forall_mem_cons.2 ⟨⟨_, rfl, ?_⟩, List.forall_mem_cons.2 ⟨⟨_, rfl, ?_⟩, fun _ h => by cases h⟩⟩
                ·
                  refine wl_load_blk (i := 4) (vs := [v174]) (v := v174) tf_23 rfl rfl hS196 rfl rfl rfl ?_
                  refine WL.nil (WH.ret hSW197 ?_)
                  refine WH.one (i := 7) (by kernel_rfl) rfl ?_
                  refine wl_lit (vs := [(.int .i64 u198)]) (l := [u198]) fl_3 Try.underlying23 rfl rfl rfl rfl rfl rfl (Below.self w193) (Sep.nil _ _) ?_
                  intro v201 F202 w203 hb204 hB207 hM208
                  have hB205 := hB195.trans (hb204.mono hB195.size)
                  have hS206 := hS196.join hb204 hM208 hB195.size
                  have hn209 : ∀ b ∈ F202, w193.heap.size ≤ b := fun b hb => Nat.le_trans hSW197.size ((hM208.1 _ (List.mem_cons_self ..)).2.1 b hb).1
                  have hSW210 := hSW197.ext hb204
                  have hbS211 : Below w193.heap.size w193 w203 := hb204
                  refine WL.nil (WH.ret hSW210 ?_)
                  refine WH.one (i := 8) (by kernel_rfl) rfl ?_
                  obtain ⟨u212, hu212, hF⟩ := bindE hF
                  refine wl_append (i := 4) (S := (· < w203.heap.size)) fl_3 Try.underlying23 rfl rfl rfl hB205 hS206 rfl (hS206.own_ro (i := 0) rfl) hu212 ?_
                  intro v213 F214 w215 hk216 hB217 hS218
                  have hSW219 := hSW210.wr' hk216.1 hk216.2.1 (fun _ _ h => List.mem_append_left _ (h))
                  refine WL.nil (WH.ret hSW219 ?_)
                  refine WH.takex (i := 9) rfl (by kernel_rfl) (by kernel_rfl) (by kernel_rfl) hP hSW219 ?_
                  refine pr_field (o := 1) (off' := 1) ff_31_1 rfl rfl rfl ?_
                  refine WH.one (i := 10) (by kernel_rfl) rfl ?_
                  refine wl_store_blk (i := 5) (vs := [v213]) (cs' := [v44, v213, (.int .i64 x0.2.2.1), (.int .i64 x0.2.2.2)]) tf_23 rfl rfl (cells_one (hS218.own_ro (i := 4) rfl).one) rfl hB217 hS218 rfl rfl ⟨(hS218.own_ro (i := 4) rfl).one, trivial⟩ rfl ?_
                  intro w220 hk223 hB221 hS222
                  have hSW224 := hSW219.wr' hk223.1 hk223.2.1 (fun _ _ h => List.mem_append_right _ h)
                  refine WL.nil (WH.ret hSW224 ?_)
                  refine WH.done (by kernel_rfl) ?_
                  exact fun a ha => hJ192 (u212) (v213) (F214) _ hF hB221 (hS222.sel [1, 2, 3, 4, 5] rfl) a (ha.sub ⟨rfl, rfl, rfl, rfl, trivial⟩)
                ·
                  refine wl_lit (vs := [(.int .i64 u198)]) (l := [u198]) fl_3 Try.underlying23 rfl rfl rfl rfl rfl rfl (Below.self w193) (Sep.nil _ _) ?_
                  intro v225 F226 w227 hb228 hB231 hM232
                  have hB229 := hB195.trans (hb228.mono hB195.size)
                  have hS230 := hS196.join hb228 hM232 hB195.size
                  have hn233 : ∀ b ∈ F226, w193.heap.size ≤ b := fun b hb => Nat.le_trans hSW197.size ((hM232.1 _ (List.mem_cons_self ..)).2.1 b hb).1
                  have hSW234 := hSW197.ext hb228
                  have hbS235 : Below w193.heap.size w193 w227 := hb228
                  refine WL.nil (WH.ret hSW234 ?_)
                  refine WH.one (i := 1) (by kernel_rfl) rfl ?_
                  refine wl_load_blk (i := 5) (vs := [v174]) (v := v174) tf_23 rfl rfl hS230 rfl rfl rfl ?_
                  refine WL.nil (WH.ret hSW234 ?_)
                  refine WH.one (i := 8) (by kernel_rfl) rfl ?_
                  obtain ⟨u236, hu236, hF⟩ := bindE hF
                  refine wl_append (i := 4) (S := (· < w227.heap.size)) fl_3 Try.underlying23 rfl rfl rfl hB229 hS230 rfl (hS230.own_ro (i := 0) rfl) hu236 ?_
                  intro v237 F238 w239 hk240 hB241 hS242
                  have hSW243 := hSW234.wr' hk240.1 hk240.2.1 (fun _ _ h => List.mem_append_left _ (h))
                  refine WL.nil (WH.ret hSW243 ?_)
                  refine WH.takex (i := 9) rfl (by kernel_rfl) (by kernel_rfl) (by kernel_rfl) hP hSW243 ?_
                  refine pr_field (o := 1) (off' := 1) ff_31_1 rfl rfl rfl ?_
                  refine WH.one (i := 10) (by kernel_rfl) rfl ?_
                  refine wl_store_blk (i := 5) (vs := [v237]) (cs' := [v44, v237, (.int .i64 x0.2.2.1), (.int .i64 x0.2.2.2)]) tf_23 rfl rfl (cells_one (hS242.own_ro (i := 4) rfl).one) rfl hB241 hS242 rfl rfl ⟨(hS242.own_ro (i := 4) rfl).one, trivial⟩ rfl ?_
                  intro w244 hk247 hB245 hS246
                  have hSW248 := hSW243.wr' hk247.1 hk247.2.1 (fun _ _ h => List.mem_append_right _ h)
                  refine WL.nil (WH.ret hSW248 ?_)
                  refine WH.done (by kernel_rfl) ?_
                  exact fun a ha => hJ192 (u236) (v237) (F238) _ hF hB245 (hS246.sel [1, 2, 3, 4, 5] rfl) a (ha.sub ⟨rfl, rfl, rfl, rfl, trivial⟩)
              · replace hF := ifN h183 hF
                refine W.exit ?_
                refine fun a ha => hK168 _ _ ?_ a ha
                refine W.seq fun K249 hK249 => ?_
                refine W.region ?_
                refine wl_load_blk (i := 4) (vs := [v44, v174, (.int .i64 x0.2.2.1), (.int .i64 x0.2.2.2)]) (v := (.agg #[v44, v174, (.int .i64 x0.2.2.1), (.int .i64 x0.2.2.2)])) tf_31 rfl rfl hS172 rfl rfl rfl ?_
                refine wl_store_blk (i := 1) (vs := [v44, v174, (.int .i64 x0.2.2.1), (.int .i64 x0.2.2.2)]) (cs' := [v44, v174, (.int .i64 x0.2.2.1), (.int .i64 x0.2.2.2)]) tf_31 rfl rfl rfl rfl hB171 hS172 rfl rfl ⟨(hS172.own_ro (i := 2) rfl).one, (hS172.own_ro (i := 3) rfl).one, rfl, rfl, trivial⟩ rfl ?_
                intro w250 hk253 hB251 hS252
                refine wl_assign rfl rfl ?_
                refine WL.nil ?_
                refine fun a ha => hK249 _ _ ?_ a ha
                refine W.ret ?_
                have hr := Option.some.inj hF
                subst hr
                exact rets (vs := [(.agg #[v44, v174, (.int .i64 x0.2.2.1), (.int .i64 x0.2.2.2)]), (.bool true)]) hQ rfl ⟨rv_cell (i := 1) tf_31 rfl hS252 rfl rfl rfl, rv_tmp rfl, trivial⟩ ⟨v44, F45, v174, F175, rfl, hB251, hS252.sel [2, 3] rfl⟩
theorem C_impl_copyInts (w0 : World) (x0 : (List Int)) (v0_0 : Value) (h0_0 : rdS ty_3 (· < w0.heap.size) w0 v0_0 x0) (r : (List Int)) (hF : F_impl_copyInts x0 = some r) :
    Calls Try.prog 137 [v0_0].toArray w0 fun e w' => ∃ (q0 : Value) (G0 : List Nat), e = .returned q0 ∧ Below w0.heap.size w0 w' ∧ Sep w0.heap.size w' [R.own ty_3 G0 q0 r] := by
  refine calls_mk' Try.func137 rfl Try.ntmps137 rfl rfl fun Q hQ hP => ?_
  have hB : Below w0.heap.size w0 w0 := Below.refl _ _
  have hS : Sep w0.heap.size w0 [] := Sep.nil _ _
  unfold F_impl_copyInts at hF
  refine W.seq fun K1 hK1 => ?_
  refine W.region ?_
  refine wl_assign rfl rfl ?_
  refine WL.nil ?_
  refine fun a ha => hK1 _ _ ?_ a ha
  refine W.seq fun K2 hK2 => ?_
  refine W.region ?_
  refine wl_lit (vs := []) (l := []) fl_3 Try.underlying23 rfl rfl rfl rfl rfl rfl hB hS ?_
  intro v3 F4 w5 hb6 hB7 hS8
  refine wl_move rfl rfl ?_
  obtain ⟨u9, hu9, hF⟩ := bindE hF
  refine wl_append (i := 0) (S := (· < w5.heap.size)) fl_3 Try.underlying23 rfl rfl rfl hB7 hS8 rfl (h0_0.ro hB7) hu9 ?_
  intro v10 F11 w12 hk13 hB14 hS15
  refine wl_assign rfl rfl ?_
  refine WL.nil ?_
  refine fun a ha => hK2 _ _ ?_ a ha
  refine W.ret ?_
  have hr := Option.some.inj hF
  subst hr
  exact rets (vs := [v10]) hQ rfl ⟨rv_tmp rfl, trivial⟩ ⟨v10, F11, rfl, hB14, hS15.sel [0] rfl⟩
theorem C_impl_copyShow (w0 : World) (x0 : ((List (List (Int × Int))) × (List Int) × Int × Int)) (v0_0 : Value) (h0_0 : rdS ty_69 (· < w0.heap.size) w0 v0_0 x0.1) (v0_1 : Value) (h0_1 : rdS ty_3 (· < w0.heap.size) w0 v0_1 x0.2.1) (r : ((List (List (Int × Int))) × (List Int) × Int × Int)) (hF : F_impl_copyShow x0 = some r) :
    Calls Try.prog 96 [(.agg #[v0_0, v0_1, (.int .i64 x0.2.2.1), (.int .i64 x0.2.2.2)])].toArray w0 fun e w' => ∃ (q0 : Value) (G0 : List Nat) (q1 : Value) (G1 : List Nat), e = .returned (.agg #[q0, q1, (.int .i64 r.2.2.1), (.int .i64 r.2.2.2)]) ∧ Below w0.heap.size w0 w' ∧ Sep w0.heap.size w' [R.own ty_69 G0 q0 r.1, R.own ty_3 G1 q1 r.2.1] := by
  refine calls_mk' Try.func96 rfl Try.ntmps96 rfl rfl fun Q hQ hP => ?_
  have hB : Below w0.heap.size w0 w0 := Below.refl _ _
  have hS : Sep w0.heap.size w0 [] := Sep.nil _ _
  unfold F_impl_copyShow at hF
  refine W.seq fun K1 hK1 => ?_
  refine W.region ?_
  refine wl_box (cs := [v0_0, v0_1, (.int .i64 x0.2.2.1), (.int .i64 x0.2.2.2)]) rfl rfl rfl hB hS ?_
  intro b2 w3 hb4 hB5 hS6
  refine wl_alloc (cs := [(.slice none 0 0), (.slice none 0 0), (.int .i64 0), (.int .i64 0)]) tf_31 rfl rfl hB5 hS6 ?_
  intro b7 w8 hb9 hB10 hS11
  refine WL.nil ?_
  refine fun a ha => hK1 _ _ ?_ a ha
  refine W.seq fun K12 hK12 => ?_
  obtain ⟨k25, hk25, hF⟩ := jE4 hF
  have hJ26 : ∀ (l17 : (List (List (Int × Int)))) (l20 : (List Int)) (y23 : Int) (y24 : Int) (v18 : Value) (F19 : List Nat) (v21 : Value) (F22 : List Nat) (b16 : Nat) (w13 : World) (_ : k25 l17 l20 y23 y24 = some r) (_ : Below w0.heap.size w0 w13) (_ : Sep w0.heap.size w13 [R.blk b2 31 [v0_0, v0_1, (.int .i64 x0.2.2.1), (.int .i64 x0.2.2.2)], R.blk b7 31 [(.slice none 0 0), (.slice none 0 0), (.int .i64 0), (.int .i64 0)], R.own ty_69 F19 v18 l17, R.own ty_3 F22 v21 l20, R.blk b16 31 [v18, v21, (.int .i64 y23), (.int .i64 y24)]]), ∀ a, St 32 [(1, (.pointer (some ⟨b2, 0, none⟩))), (2, (.pointer (some ⟨b7, 0, none⟩))), (3, (.pointer (some ⟨b16, 0, none⟩)))] a → K12 a w13 := by
    intro l17 l20 y23 y24 v18 F19 v21 F22 b16 w13 hF hB14 hS15
    subst hk25
    refine fun a ha => hK12 _ _ ?_ a ha
    refine W.seq fun K27 hK27 => ?_
    refine W.seq fun K28 hK28 => ?_
    refine W.region ?_
    refine wl_field (o := 0) (off' := 0) ff_31_0 rfl rfl rfl ?_
    refine wl_load_blk (i := 0) (vs := [v0_0]) (v := v0_0) tf_29 rfl rfl hS15 rfl rfl rfl ?_
    refine wl_lenr (e := ty_69) (l := x0.1) Try.underlying29 rfl rfl h0_0 ?_
    refine wl_move rfl rfl ?_
    refine WL.nil ?_
    refine fun a ha => hK28 _ _ ?_ a ha
    refine W.block ?_
    refine W.loopk (fun m a w29 => ∃ (l32 : (List (List (Int × Int)))) (y35 : Int) (v33 : Value) (F34 : List Nat), St 32 [(2, (.pointer (some ⟨b7, 0, none⟩))), (3, (.pointer (some ⟨b16, 0, none⟩))), (16, v0_0), (17, (.int .i64 (List.length x0.1 : Int))), (18, (.int .i64 y35))] a ∧ Below w0.heap.size w0 w29 ∧ Sep w0.heap.size w29 [R.blk b7 31 [(.slice none 0 0), (.slice none 0 0), (.int .i64 0), (.int .i64 0)], R.own ty_69 F34 v33 l32, R.own ty_3 F22 v21 l20, R.blk b16 31 [v33, v21, (.int .i64 y23), (.int .i64 y24)]] ∧ F_impl_copyShow_L1 x0 l20 y23 y24 m l32 y35 = some r) FU ?_ ?_
    ·
      exact fun a ha => ⟨l17, 0, v18, F19, ha.sub ⟨rfl, rfl, rfl, rfl, rfl, trivial⟩, hB14, (hS15.sel [1, 2, 3, 4] rfl), hF⟩
    ·
      rintro m38 a w29 ⟨l32, y35, v33, F34, ha, hB30, hS31, hF⟩ KL37 hKL37
      refine W.at ?_ ha
      cases m38 with
      | zero => exact noneE hF
      | succ m38 =>
        obtain ⟨nx36, hnx36⟩ : ∃ k, k = F_impl_copyShow_L1 x0 l20 y23 y24 m38 := ⟨_, rfl⟩
        rw [F_impl_copyShow_L1, ← hnx36] at hF
        refine W.seq fun K39 hK39 => ?_
        refine W.region ?_
        refine wl_lss rfl rfl rfl ?_
        refine WL.nil ?_
        refine fun a ha => hK39 _ _ ?_ a ha
        refine W.seq fun K40 hK40 => ?_
        refine W.cond rfl (fun h41 => ?_) (fun h41 => ?_)
        · replace hF := ifP h41 hF
          refine W.skip ?_
          refine fun a ha => hK40 _ _ ?_ a ha
          refine W.seq fun K42 hK42 => ?_
          obtain ⟨k49, hk49, hF⟩ := jE1 hF
          have hJ50 : ∀ (l46 : (List (List (Int × Int)))) (v47 : Value) (F48 : List Nat) (w43 : World) (_ : k49 l46 = some r) (_ : Below w0.heap.size w0 w43) (_ : Sep w0.heap.size w43 [R.blk b7 31 [(.slice none 0 0), (.slice none 0 0), (.int .i64 0), (.int .i64 0)], R.own ty_69 F48 v47 l46, R.own ty_3 F22 v21 l20, R.blk b16 31 [v47, v21, (.int .i64 y23), (.int .i64 y24)]]), ∀ a, St 32 [(2, (.pointer (some ⟨b7, 0, none⟩))), (3, (.pointer (some ⟨b16, 0, none⟩))), (16, v0_0), (17, (.int .i64 (List.length x0.1 : Int))), (18, (.int .i64 y35))] a → K42 a w43 := by
            intro l46 v47 F48 w43 hF hB44 hS45
            subst hk49
            refine fun a ha => hK42 _ _ ?_ a ha
            refine W.region ?_
            refine wl_add rfl rfl rfl ?_
            refine wl_move rfl rfl ?_
            refine WL.nil ?_
            rw [hnx36] at hF
            exact fun a ha => hKL37 a _ m38 (Nat.lt_succ_self m38) ⟨l46, (w64 (y35 + 1)), v47, F48, ha.sub ⟨rfl, rfl, rfl, rfl, rfl, trivial⟩, hB44, (hS45.sel [0, 1, 2, 3] rfl), hF⟩
          refine W.block ?_
          refine W.seq fun K51 hK51 => ?_
          refine W.region ?_
          obtain ⟨u52, hu52, hF⟩ := bindE hF
          refine wl_index (e := ty_69) Try.underlying29 rfl rfl rfl h0_0 hu52 ?_
          rintro p53 _ ⟨v55, rfl, hv56⟩ hp54
          refine wl_load_p (vs := [v55]) (v := v55) tf_69 rfl rfl (hp54.ro hB30) rfl rfl ?_
          refine wl_assign rfl rfl ?_
          refine WL.nil ?_
          refine fun a ha => hK51 _ _ ?_ a ha
          refine W.regionH mixed_ (F34 ++ [b16]) hB30 hS31 ?_
          intro w57 hb58 hB59 hS60
          have hSW61 := KeepX.refl w57 (F34 ++ [b16])
          refine WH.takex (i := 0) rfl (by kernel_rfl) (by kernel_rfl) (by kernel_rfl) hP hSW61 ?_
          refine pr_field (o := 0) (off' := 0) ff_31_0 rfl rfl rfl ?_
          refine WH.takex (i := 3) rfl (by kernel_rfl) (by kernel_rfl) (by kernel_rfl) hP hSW61 ?_
          refine pr_move rfl rfl ?_
          refine WH.many (is := [1, 2]) (by kernel_rfl) rfl ?_
          refine List.forall_mem_cons.2 ⟨⟨_, rfl, ?_⟩, List.forall_mem_cons.2 ⟨⟨_, rfl, ?_⟩, fun _ h => by cases h⟩⟩
          ·
            refine wl_load_blk (i := 3) (vs := [v33]) (v := v33) tf_29 rfl rfl hS60 rfl rfl rfl ?_
            refine WL.nil (WH.ret hSW61 ?_)
            refine WH.one (i := 2) (by kernel_rfl) rfl ?_
            refine wl_lit (vs := []) (l := []) fl_116 Try.underlying69 rfl rfl rfl rfl rfl rfl (Below.self w57) (Sep.nil _ _) ?_
            intro v62 F63 w65 hb66 hB69 hM70
            have hB67 := hB59.trans (hb66.mono hB59.size)
            have hS68 := hS60.join hb66 hM70 hB59.size
            have hn71 : ∀ b ∈ F63, w57.heap.size ≤ b := fun b hb => Nat.le_trans hSW61.size ((hM70.1 _ (List.mem_cons_self ..)).2.1 b hb).1
            have hSW72 := hSW61.ext hb66
            have hbS73 : Below w57.heap.size w57 w65 := hb66
            refine WL.nil (WH.ret hSW72 ?_)
            refine WH.one (i := 4) (by kernel_rfl) rfl ?_
            obtain ⟨u74, hu74, hF⟩ := bindE hF
            refine wl_append (i := 0) (S := (· < w65.heap.size)) fl_116 Try.underlying69 rfl rfl rfl hB67 hS68 rfl (hv56.ro hB67) hu74 ?_
            intro v75 F76 w77 hk78 hB79 hS80
            have hSW81 := hSW72.wr' hk78.1 hk78.2.1 (fun b hlt hb => absurd hlt (Nat.not_lt.2 (hn71 b hb)))
            have hn82 : ∀ b ∈ F76, w57.heap.size ≤ b := fun b hb => (hk78.2.2 b hb).elim (hn71 b) fun h => Nat.le_trans hSW72.size h
            refine WL.nil (WH.ret hSW81 ?_)
            refine WH.one (i := 5) (by kernel_rfl) rfl ?_
            have hq83 := hS80.sel [0, 1, 2, 3, 4] rfl
            have hq84 := hq83.head (r' := R.cel ty_69 F76 [v75] u74) (rfl) fun _ h0 => ⟨_, rfl, h0⟩
            refine wl_lit1 (e := ty_69) (vs := [v75]) Try.underlying29 rfl rfl (cells_one (hS80.own_ro (i := 0) rfl).one) rfl hB79 hq84 ?_
            intro v85 F86 w87 hb88 hf89 hB90 hS91
            have hn92 : ∀ b ∈ F86, w57.heap.size ≤ b := fun b hb => (hf89 b hb).elim (hn82 b) fun h => Nat.le_trans hSW81.size h
            have hSW93 := hSW81.ext hb88
            refine WL.nil (WH.ret hSW93 ?_)
            refine WH.one (i := 6) (by kernel_rfl) rfl ?_
            obtain ⟨u94, hu94, hF⟩ := bindE hF
            refine wl_appendn (e := ty_69) Try.underlying29 rfl rfl rfl hB90 (hS91.sel [2, 0, 1, 3, 4] rfl) hu94 ?_
            intro v95 F96 w97 hk98 hB99 hS100
            have hSW101 := hSW93.wr' hk98.1 hk98.2.1 (fun _ _ h => List.mem_append_left _ (h))
            refine WL.nil (WH.ret hSW101 ?_)
            refine WH.takex (i := 7) rfl (by kernel_rfl) (by kernel_rfl) (by kernel_rfl) hP hSW101 ?_
            refine pr_field (o := 0) (off' := 0) ff_31_0 rfl rfl rfl ?_
            refine WH.one (i := 8) (by kernel_rfl) rfl ?_
            refine wl_store_blk (i := 3) (vs := [v95]) (cs' := [v95, v21, (.int .i64 y23), (.int .i64 y24)]) tf_29 rfl rfl (cells_one (hS100.own_ro (i := 0) rfl).one) rfl hB99 hS100 rfl rfl ⟨(hS100.own_ro (i := 0) rfl).one, trivial⟩ rfl ?_
            intro w102 hk105 hB103 hS104
            have hSW106 := hSW101.wr' hk105.1 hk105.2.1 (fun _ _ h => List.mem_append_right _ h)
            refine WL.nil (WH.ret hSW106 ?_)
            refine WH.done (by kernel_rfl) ?_
            exact fun a ha => hJ50 (u94) (v95) (F96) _ hF hB103 (hS104.sel [1, 0, 2, 3] rfl) a (ha.sub ⟨rfl, rfl, rfl, rfl, rfl, trivial⟩)
          ·
            refine wl_lit (vs := []) (l := []) fl_116 Try.underlying69 rfl rfl rfl rfl rfl rfl (Below.self w57) (Sep.nil _ _) ?_
            intro v107 F108 w109 hb110 hB113 hM114
            have hB111 := hB59.trans (hb110.mono hB59.size)
            have hS112 := hS60.join hb110 hM114 hB59.size
            have hn115 : ∀ b ∈ F108, w57.heap.size ≤ b := fun b hb => Nat.le_trans hSW61.size ((hM114.1 _ (List.mem_cons_self ..)).2.1 b hb).1
            have hSW116 := hSW61.ext hb110
            have hbS117 : Below w57.heap.size w57 w109 := hb110
            refine WL.nil (WH.ret hSW116 ?_)
            refine WH.many (is := [1, 4]) (by kernel_rfl) rfl ?_
            refine List.forall_mem_cons.2 ⟨⟨_, rfl, ?_⟩, List.forall_mem_cons.2 ⟨⟨_, rfl, ?_⟩, fun _ h => by cases h⟩⟩
            ·
              refine wl_load_blk (i := 4) (vs := [v33]) (v := v33) tf_29 rfl rfl hS112 rfl rfl rfl ?_
              refine WL.nil (WH.ret hSW116 ?_)
              refine WH.one (i := 4) (by kernel_rfl) rfl ?_
              obtain ⟨u118, hu118, hF⟩ := bindE hF
              refine wl_append (i := 0) (S := (· < w109.heap.size)) fl_116 Try.underlying69 rfl rfl rfl hB111 hS112 rfl (hv56.ro hB111) hu118 ?_
              intro v119 F120 w121 hk122 hB123 hS124
              have hSW125 := hSW116.wr' hk122.1 hk122.2.1 (fun b hlt hb => absurd hlt (Nat.not_lt.2 (hn115 b hb)))
              have hn126 : ∀ b ∈ F120, w57.heap.size ≤ b := fun b hb => (hk122.2.2 b hb).elim (hn115 b) fun h => Nat.le_trans hSW116.size h
              refine WL.nil (WH.ret hSW125 ?_)
              refine WH.one (i := 5) (by kernel_rfl) rfl ?_
              have hq127 := hS124.sel [0, 1, 2, 3, 4] rfl
              have hq128 := hq127.head (r' := R.cel ty_69 F120 [v119] u118) (rfl) fun _ h0 => ⟨_, rfl, h0⟩
              refine wl_lit1 (e := ty_69) (vs := [v119]) Try.underlying29 rfl rfl (cells_one (hS124.own_ro (i := 0) rfl).one) rfl hB123 hq128 ?_
              intro v129 F130 w131 hb132 hf133 hB134 hS135
              have hn136 : ∀ b ∈ F130, w57.heap.size ≤ b := fun b hb => (hf133 b hb).elim (hn126 b) fun h => Nat.le_trans hSW125.size h
              have hSW137 := hSW125.ext hb132
              refine WL.nil (WH.ret hSW137 ?_)
              refine WH.one (i := 6) (by kernel_rfl) rfl ?_
              obtain ⟨u138, hu138, hF⟩ := bindE hF
              refine wl_appendn (e := ty_69) Try.underlying29 rfl rfl rfl hB134 (hS135.sel [2, 0, 1, 3, 4] rfl) hu138 ?_
              intro v139 F140 w141 hk142 hB143 hS144
              have hSW145 := hSW137.wr' hk142.1 hk142.2.1 (fun _ _ h => List.mem_append_left _ (h))
              refine WL.nil (WH.ret hSW145 ?_)
              refine WH.takex (i := 7) rfl (by kernel_rfl) (by kernel_rfl) (by kernel_rfl) hP hSW145 ?_
              refine pr_field (o := 0) (off' := 0) ff_31_0 rfl rfl rfl ?_
              refine WH.one (i := 8) (by kernel_rfl) rfl ?_
              refine wl_store_blk (i := 3) (vs := [v139]) (cs' := [v139, v21, (.int .i64 y23), (.int .i64 y24)]) tf_29 rfl rfl (cells_one (hS144.own_ro (i := 0) rfl).one) rfl hB143 hS144 rfl rfl ⟨(hS144.own_ro (i := 0) rfl).one, trivial⟩ rfl ?_
              intro w146 hk149 hB147 hS148
              have hSW150 := hSW145.wr' hk149.1 hk149.2.1 (fun _ _ h => List.mem_append_right _ h)
              refine WL.nil (WH.ret hSW150 ?_)
              refine WH.done (by kernel_rfl) ?_
              exact fun a ha => hJ50 (u138) (v139) (F140) _ hF hB147 (hS148.sel [1, 0, 2, 3] rfl) a (ha.sub ⟨rfl, rfl, rfl, rfl, rfl, trivial⟩)
            ·
              obtain ⟨u151, hu151, hF⟩ := bindE hF
              refine wl_append (i := 0) (S := (· < w109.heap.size)) fl_116 Try.underlying69 rfl rfl rfl hB111 hS112 rfl (hv56.ro hB111) hu151 ?_
              intro v152 F153 w154 hk155 hB156 hS157
              have hSW158 := hSW116.wr' hk155.1 hk155.2.1 (fun b hlt hb => absurd hlt (Nat.not_lt.2 (hn115 b hb)))
              have hn159 : ∀ b ∈ F153, w57.heap.size ≤ b := fun b hb => (hk155.2.2 b hb).elim (hn115 b) fun h => Nat.le_trans hSW116.size h
              refine WL.nil (WH.ret hSW158 ?_)
              refine WH.many (is := [1, 5]) (by kernel_rfl) rfl ?_
              refine List.forall_mem_cons.2 ⟨⟨_, rfl, ?_⟩, List.forall_mem_cons.2 ⟨⟨_, rfl, ?_⟩, fun _ h => by cases h⟩⟩
              ·
                refine wl_load_blk (i := 4) (vs := [v33]) (v := v33) tf_29 rfl rfl hS157 rfl rfl rfl ?_
                refine WL.nil (WH.ret hSW158 ?_)
                refine WH.one (i := 5) (by kernel_rfl) rfl ?_
                have hq160 := hS157.sel [0, 1, 2, 3, 4] rfl
                have hq161 := hq160.head (r' := R.cel ty_69 F153 [v152] u151) (rfl) fun _ h0 => ⟨_, rfl, h0⟩
                refine wl_lit1 (e := ty_69) (vs := [v152]) Try.underlying29 rfl rfl (cells_one (hS157.own_ro (i := 0) rfl).one) rfl hB156 hq161 ?_
                intro v162 F163 w164 hb165 hf166 hB167 hS168
                have hn169 : ∀ b ∈ F163, w57.heap.size ≤ b := fun b hb => (hf166 b hb).elim (hn159 b) fun h => Nat.le_trans hSW158.size h
                have hSW170 := hSW158.ext hb165
                refine WL.nil (WH.ret hSW170 ?_)
                refine WH.one (i := 6) (by kernel_rfl) rfl ?_
                obtain ⟨u171, hu171, hF⟩ := bindE hF
                refine wl_appendn (e := ty_69) Try.underlying29 rfl rfl rfl hB167 (hS168.sel [2, 0, 1, 3, 4] rfl) hu171 ?_
                intro v172 F173 w174 hk175 hB176 hS177
                have hSW178 := hSW170.wr' hk175.1 hk175.2.1 (fun _ _ h => List.mem_append_left _ (h))
                refine WL.nil (WH.ret hSW178 ?_)
                refine WH.takex (i := 7) rfl (by kernel_rfl) (by kernel_rfl) (by kernel_rfl) hP hSW178 ?_
                refine pr_field (o := 0) (off' := 0) ff_31_0 rfl rfl rfl ?_
                refine WH.one (i := 8) (by kernel_rfl) rfl ?_
                refine wl_store_blk (i := 3) (vs := [v172]) (cs' := [v172, v21, (.int .i64 y23), (.int .i64 y24)]) tf_29 rfl rfl (cells_one (hS177.own_ro (i := 0) rfl).one) rfl hB176 hS177 rfl rfl ⟨(hS177.own_ro (i := 0) rfl).one, trivial⟩ rfl ?_
                intro w179 hk182 hB180 hS181
                have hSW183 := hSW178.wr' hk182.1 hk182.2.1 (fun _ _ h => List.mem_append_right _ h)
                refine WL.nil (WH.ret hSW183 ?_)
                refine WH.done (by kernel_rfl) ?_
                exact fun a ha => hJ50 (u171) (v172) (F173) _ hF hB180 (hS181.sel [1, 0, 2, 3] rfl) a (ha.sub ⟨rfl, rfl, rfl, rfl, rfl, trivial⟩)
              ·
                have hq184 := hS157.sel [0, 1, 2, 3, 4] rfl
                have hq185 := hq184.head (r' := R.cel ty_69 F153 [v152] u151) (rfl) fun _ h0 => ⟨_, rfl, h0⟩
                refine wl_lit1 (e := ty_69) (vs := [v152]) Try.underlying29 rfl rfl (cells_one (hS157.own_ro (i := 0) rfl).one) rfl hB156 hq185 ?_
                intro v186 F187 w188 hb189 hf190 hB191 hS192
                have hn193 : ∀ b ∈ F187, w57.heap.size ≤ b := fun b hb => (hf190 b hb).elim (hn159 b) fun h => Nat.le_trans hSW158.size h
                have hSW194 := hSW158.ext hb189
                refine WL.nil (WH.ret hSW194 ?_)
                refine WH.one (i := 1) (by kernel_rfl) rfl ?_
                refine wl_load_blk (i := 4) (vs := [v33]) (v := v33) tf_29 rfl rfl hS192 rfl rfl rfl ?_
                refine WL.nil (WH.ret hSW194 ?_)
                refine WH.one (i := 6) (by kernel_rfl) rfl ?_
                obtain ⟨u195, hu195, hF⟩ := bindE hF
                refine wl_appendn (e := ty_69) Try.underlying29 rfl rfl rfl hB191 (hS192.sel [2, 0, 1, 3, 4] rfl) hu195 ?_
                intro v196 F197 w198 hk199 hB200 hS201
                have hSW202 := hSW194.wr' hk199.1 hk199.2.1 (fun _ _ h => List.mem_append_left _ (h))
                refine WL.nil (WH.ret hSW202 ?_)
                refine WH.takex (i := 7) rfl (by kernel_rfl) (by kernel_rfl) (by kernel_rfl) hP hSW202 ?_
                refine pr_field (o := 0) (off' := 0) ff_31_0 rfl rfl rfl ?_
                refine WH.one (i := 8) (by kernel_rfl) rfl ?_
                refine wl_store_blk (i := 3) (vs := [v196]) (cs' := [v196, v21, (.int .i64 y23), (.int .i64 y24)]) tf_29 rfl rfl (cells_one (hS201.own_ro (i := 0) rfl).one) rfl hB200 hS201 rfl rfl ⟨(hS201.own_ro (i := 0) rfl).one, trivial⟩ rfl ?_
                intro w203 hk206 hB204 hS205
                have hSW207 := hSW202.wr' hk206.1 hk206.2.1 (fun _ _ h => List.mem_append_right _ h)
                refine WL.nil (WH.ret hSW207 ?_)
                refine WH.done (by kernel_rfl) ?_
                exact fun a ha => hJ50 (u195) (v196) (F197) _ hF hB204 (hS205.sel [1, 0, 2, 3] rfl) a (ha.sub ⟨rfl, rfl, rfl, rfl, rfl, trivial⟩)
        · replace hF := ifN h41 hF
          refine W.exit ?_
          refine fun a ha => hK27 _ _ ?_ a ha
          refine W.seq fun K208 hK208 => ?_
          refine W.region ?_
          refine wl_load_blk (i := 3) (vs := [v33, v21, (.int .i64 y23), (.int .i64 y24)]) (v := (.agg #[v33, v21, (.int .i64 y23), (.int .i64 y24)])) tf_31 rfl rfl hS31 rfl rfl rfl ?_
          refine wl_store_blk (i := 0) (vs := [v33, v21, (.int .i64 y23), (.int .i64 y24)]) (cs' := [v33, v21, (.int .i64 y23), (.int .i64 y24)]) tf_31 rfl rfl rfl rfl hB30 hS31 rfl rfl ⟨(hS31.own_ro (i := 1) rfl).one, (hS31.own_ro (i := 2) rfl).one, rfl, rfl, trivial⟩ rfl ?_
          intro w209 hk212 hB210 hS211
          refine WL.nil ?_
          refine fun a ha => hK208 _ _ ?_ a ha
          refine W.ret ?_
          have hr := Option.some.inj hF
          subst hr
          exact rets (vs := [(.agg #[v33, v21, (.int .i64 y23), (.int .i64 y24)])]) hQ rfl ⟨rv_cell (i := 0) tf_31 rfl hS211 rfl rfl rfl, trivial⟩ ⟨v33, F34, v21, F22, rfl, hB210, hS211.sel [1, 2] rfl⟩
  refine W.regionH mixed_ [] hB10 hS11 ?_
  intro w213 hb214 hB215 hS216
  have hSW217 := KeepX.refl w213 []
  refine WH.takex (i := 1) rfl (by kernel_rfl) (by kernel_rfl) (by kernel_rfl) hP hSW217 ?_
  refine pr_field (o := 1) (off' := 1) ff_31_1 rfl rfl rfl ?_
  refine WH.takex (i := 2) rfl (by kernel_rfl) (by kernel_rfl) (by kernel_rfl) hP hSW217 ?_
  refine pr_load_blk (i := 1) (vs := [v0_1]) (v := v0_1) tf_23 rfl rfl hS216 rfl rfl rfl (by simp) ?_
  refine WH.takex (i := 4) rfl (by kernel_rfl) (by kernel_rfl) (by kernel_rfl) hP hSW217 ?_
  refine pr_field (o := 2) (off' := 2) ff_31_2 rfl rfl rfl ?_
  refine WH.takex (i := 5) rfl (by kernel_rfl) (by kernel_rfl) (by kernel_rfl) hP hSW217 ?_
  refine pr_load_blk (i := 1) (vs := [(.int .i64 x0.2.2.1)]) (v := (.int .i64 x0.2.2.1)) tf_3 rfl rfl hS216 rfl rfl rfl (by simp) ?_
  refine WH.takex (i := 6) rfl (by kernel_rfl) (by kernel_rfl) (by kernel_rfl) hP hSW217 ?_
  refine pr_field (o := 3) (off' := 3) ff_31_3 rfl rfl rfl ?_
  refine WH.takex (i := 7) rfl (by kernel_rfl) (by kernel_rfl) (by kernel_rfl) hP hSW217 ?_
  refine pr_load_blk (i := 1) (vs := [(.int .i64 x0.2.2.2)]) (v := (.int .i64 x0.2.2.2)) tf_3 rfl rfl hS216 rfl rfl rfl (by simp) ?_
  refine WH.many (is := [0, 3, 9]) (by kernel_rfl) rfl ?_
  refine List.forall_mem_cons.2 ⟨⟨_, rfl, ?_⟩, List.forall_mem_cons.2 ⟨⟨_, rfl, ?_⟩, List.forall_mem_cons.2 ⟨⟨_, rfl, ?_⟩, fun _ h => by cases h⟩⟩⟩
  ·
    refine wl_lit0 (e := ty_69) Try.underlying29 rfl (Below.self w213) (Sep.nil _ _) ?_
    intro v218 F219 w220 hb221 hB224 hM225
    have hB222 := hB215.trans (hb221.mono hB215.size)
    have hS223 := hS216.join hb221 hM225 hB215.size
    have hn226 : ∀ b ∈ F219, w213.heap.size ≤ b := fun b hb => Nat.le_trans hSW217.size ((hM225.1 _ (List.mem_cons_self ..)).2.1 b hb).1
    have hSW227 := hSW217.ext hb221
    refine WL.nil (WH.ret hSW227 ?_)
    refine WH.many (is := [3, 9]) (by kernel_rfl) rfl ?_
    refine List.forall_mem_cons.2 ⟨⟨_, rfl, ?_⟩, List.forall_mem_cons.2 ⟨⟨_, rfl, ?_⟩, fun _ h => by cases h⟩⟩
    ·
      obtain ⟨u228, hu228, hF⟩ := bindE hF
      refine wl_call rfl Try.call137 (C_impl_copyInts w220 x0.2.1 v0_1 (h0_1.ro hB222) _ hu228) rfl ?_
      rintro _ w231 ⟨v229, F230, rfl, hb232, hM235⟩
      refine ⟨_, rfl, ?_⟩
      have hB233 := hB222.trans (hb232.mono hB222.size)
      have hS234 := hS223.join hb232 hM235 hB222.size
      have hSW236 := hSW227.ext hb232
      refine WL.nil (WH.ret hSW236 ?_)
      refine WH.takex (i := 8) rfl (by kernel_rfl) (by kernel_rfl) (by kernel_rfl) hP hSW236 ?_
      refine pr_build (zs := [(.slice none 0 0), (.slice none 0 0), (.int .i64 0), (.int .i64 0)]) (out := [v218, v229, (.int .i64 x0.2.2.1), (.int .i64 x0.2.2.2)]) (vs := [v218, v229, (.int .i64 x0.2.2.1), (.int .i64 x0.2.2.2)]) (css := [[v218], [v229], [(.int .i64 x0.2.2.1)], [(.int .i64 x0.2.2.2)]]) tf_31 pl_31 rfl rfl (by simp only [List.map_cons, List.map_nil, cells_one ((hS234.own_ro (i := 1) rfl).one), cells_one ((hS234.own_ro (i := 0) rfl).one)]; rfl) rfl rfl ?_
      refine WH.one (i := 9) (by kernel_rfl) rfl ?_
      refine wl_alloc (cs := [(.slice none 0 0), (.slice none 0 0), (.int .i64 0), (.int .i64 0)]) tf_31 rfl rfl (Below.self w231) (Sep.nil _ _) ?_
      intro b237 w238 hb239 hB242 hM243
      have hB240 := hB233.trans (hb239.mono hB233.size)
      have hS241 := hS234.join hb239 hM243 hB233.size
      have hn244 : ∀ b ∈ [b237], w213.heap.size ≤ b := fun b hb => Nat.le_trans hSW236.size ((hM243.1 _ (List.mem_cons_self ..)).2.1 b hb).1
      have hSW245 := hSW236.ext hb239
      refine WL.nil (WH.ret hSW245 ?_)
      refine WH.one (i := 10) (by kernel_rfl) rfl ?_
      refine wl_store_blk (i := 0) (vs := [v218, v229, (.int .i64 x0.2.2.1), (.int .i64 x0.2.2.2)]) (cs' := [v218, v229, (.int .i64 x0.2.2.1), (.int .i64 x0.2.2.2)]) tf_31 rfl rfl rfl rfl hB240 hS241 rfl rfl ⟨(hS241.own_ro (i := 2) rfl).one, (hS241.own_ro (i := 1) rfl).one, rfl, rfl, trivial⟩ rfl ?_
      intro w246 hk249 hB247 hS248
      have hSW250 := hSW245.wr' hk249.1 hk249.2.1 (fun b hlt hb => absurd hlt (Nat.not_lt.2 (hn244 b hb)))
      have hn251 : ∀ b ∈ [b237], w213.heap.size ≤ b := fun b hb => (hk249.2.2 b hb).elim (hn244 b) fun h => Nat.le_trans hSW245.size h
      refine WL.nil (WH.ret hSW250 ?_)
      refine WH.done (by kernel_rfl) ?_
      exact fun a ha => hJ26 ([]) (u228) (x0.2.2.1) (x0.2.2.2) (v218) (F219) (v229) (F230) (b237) _ hF hB247 (hS248.sel [4, 3, 2, 1, 0] rfl) a (ha.sub ⟨rfl, rfl, rfl, trivial⟩)
    ·
      refine wl_alloc (cs := [(.slice none 0 0), (.slice none 0 0), (.int .i64 0), (.int .i64 0)]) tf_31 rfl rfl (Below.self w220) (Sep.nil _ _) ?_
      intro b252 w253 hb254 hB257 hM258
      have hB255 := hB222.trans (hb254.mono hB222.size)
      have hS256 := hS223.join hb254 hM258 hB222.size
      have hn259 : ∀ b ∈ [b252], w213.heap.size ≤ b := fun b hb => Nat.le_trans hSW227.size ((hM258.1 _ (List.mem_cons_self ..)).2.1 b hb).1
      have hSW260 := hSW227.ext hb254
      refine WL.nil (WH.ret hSW260 ?_)
      refine WH.one (i := 3) (by kernel_rfl) rfl ?_
      obtain ⟨u261, hu261, hF⟩ := bindE hF
      refine wl_call rfl Try.call137 (C_impl_copyInts w253 x0.2.1 v0_1 (h0_1.ro hB255) _ hu261) rfl ?_
      rintro _ w264 ⟨v262, F263, rfl, hb265, hM268⟩
      refine ⟨_, rfl, ?_⟩
      have hB266 := hB255.trans (hb265.mono hB255.size)
      have hS267 := hS256.join hb265 hM268 hB255.size
      have hSW269 := hSW260.ext hb265
      refine WL.nil (WH.ret hSW269 ?_)
      refine WH.takex (i := 8) rfl (by kernel_rfl) (by kernel_rfl) (by kernel_rfl) hP hSW269 ?_
      refine pr_build (zs := [(.slice none 0 0), (.slice none 0 0), (.int .i64 0), (.int .i64 0)]) (out := [v218, v262, (.int .i64 x0.2.2.1), (.int .i64 x0.2.2.2)]) (vs := [v218, v262, (.int .i64 x0.2.2.1), (.int .i64 x0.2.2.2)]) (css := [[v218], [v262], [(.int .i64 x0.2.2.1)], [(.int .i64 x0.2.2.2)]]) tf_31 pl_31 rfl rfl (by simp only [List.map_cons, List.map_nil, cells_one ((hS267.own_ro (i := 2) rfl).one), cells_one ((hS267.own_ro (i := 0) rfl).one)]; rfl) rfl rfl ?_
      refine WH.one (i := 10) (by kernel_rfl) rfl ?_
      refine wl_store_blk (i := 1) (vs := [v218, v262, (.int .i64 x0.2.2.1), (.int .i64 x0.2.2.2)]) (cs' := [v218, v262, (.int .i64 x0.2.2.1), (.int .i64 x0.2.2.2)]) tf_31 rfl rfl rfl rfl hB266 hS267 rfl rfl ⟨(hS267.own_ro (i := 2) rfl).one, (hS267.own_ro (i := 0) rfl).one, rfl, rfl, trivial⟩ rfl ?_
      intro w270 hk273 hB271 hS272
      have hSW274 := hSW269.wr' hk273.1 hk273.2.1 (fun b hlt hb => absurd hlt (Nat.not_lt.2 (hn259 b hb)))
      have hn275 : ∀ b ∈ [b252], w213.heap.size ≤ b := fun b hb => (hk273.2.2 b hb).elim (hn259 b) fun h => Nat.le_trans hSW269.size h
      refine WL.nil (WH.ret hSW274 ?_)
      refine WH.done (by kernel_rfl) ?_
      exact fun a ha => hJ26 ([]) (u261) (x0.2.2.1) (x0.2.2.2) (v218) (F219) (v262) (F263) (b252) _ hF hB271 (hS272.sel [4, 3, 2, 0, 1] rfl) a (ha.sub ⟨rfl, rfl, rfl, trivial⟩)
  ·
    obtain ⟨u276, hu276, hF⟩ := bindE hF
    refine wl_call rfl Try.call137 (C_impl_copyInts w213 x0.2.1 v0_1 (h0_1.ro hB215) _ hu276) rfl ?_
    rintro _ w279 ⟨v277, F278, rfl, hb280, hM283⟩
    refine ⟨_, rfl, ?_⟩
    have hB281 := hB215.trans (hb280.mono hB215.size)
    have hS282 := hS216.join hb280 hM283 hB215.size
    have hSW284 := hSW217.ext hb280
    refine WL.nil (WH.ret hSW284 ?_)
    refine WH.many (is := [0, 9]) (by kernel_rfl) rfl ?_
    refine List.forall_mem_cons.2 ⟨⟨_, rfl, ?_⟩, List.forall_mem_cons.2 ⟨⟨_, rfl, ?_⟩, fun _ h => by cases h⟩⟩
    ·
      refine wl_lit0 (e := ty_69) Try.underlying29 rfl (Below.self w279) (Sep.nil _ _) ?_
      intro v285 F286 w287 hb288 hB291 hM292
      have hB289 := hB281.trans (hb288.mono hB281.size)
      have hS290 := hS282.join hb288 hM292 hB281.size
      have hn293 : ∀ b ∈ F286, w213.heap.size ≤ b := fun b hb => Nat.le_trans hSW284.size ((hM292.1 _ (List.mem_cons_self ..)).2.1 b hb).1
      have hSW294 := hSW284.ext hb288
      refine WL.nil (WH.ret hSW294 ?_)
      refine WH.takex (i := 8) rfl (by kernel_rfl) (by kernel_rfl) (by kernel_rfl) hP hSW294 ?_
      refine pr_build (zs := [(.slice none 0 0), (.slice none 0 0), (.int .i64 0), (.int .i64 0)]) (out := [v285, v277, (.int .i64 x0.2.2.1), (.int .i64 x0.2.2.2)]) (vs := [v285, v277, (.int .i64 x0.2.2.1), (.int .i64 x0.2.2.2)]) (css := [[v285], [v277], [(.int .i64 x0.2.2.1)], [(.int .i64 x0.2.2.2)]]) tf_31 pl_31 rfl rfl (by simp only [List.map_cons, List.map_nil, cells_one ((hS290.own_ro (i := 0) rfl).one), cells_one ((hS290.own_ro (i := 1) rfl).one)]; rfl) rfl rfl ?_
      refine WH.one (i := 9) (by kernel_rfl) rfl ?_
      refine wl_alloc (cs := [(.slice none 0 0), (.slice none 0 0), (.int .i64 0), (.int .i64 0)]) tf_31 rfl rfl (Below.self w287) (Sep.nil _ _) ?_
      intro b295 w296 hb297 hB300 hM301
      have hB298 := hB289.trans (hb297.mono hB289.size)
      have hS299 := hS290.join hb297 hM301 hB289.size
      have hn302 : ∀ b ∈ [b295], w213.heap.size ≤ b := fun b hb => Nat.le_trans hSW294.size ((hM301.1 _ (List.mem_cons_self ..)).2.1 b hb).1
      have hSW303 := hSW294.ext hb297
      refine WL.nil (WH.ret hSW303 ?_)
      refine WH.one (i := 10) (by kernel_rfl) rfl ?_
      refine wl_store_blk (i := 0) (vs := [v285, v277, (.int .i64 x0.2.2.1), (.int .i64 x0.2.2.2)]) (cs' := [v285, v277, (.int .i64 x0.2.2.1), (.int .i64 x0.2.2.2)]) tf_31 rfl rfl rfl rfl hB298 hS299 rfl rfl ⟨(hS299.own_ro (i := 1) rfl).one, (hS299.own_ro (i := 2) rfl).one, rfl, rfl, trivial⟩ rfl ?_
      intro w304 hk307 hB305 hS306
      have hSW308 := hSW303.wr' hk307.1 hk307.2.1 (fun b hlt hb => absurd hlt (Nat.not_lt.2 (hn302 b hb)))
      have hn309 : ∀ b ∈ [b295], w213.heap.size ≤ b := fun b hb => (hk307.2.2 b hb).elim (hn302 b) fun h => Nat.le_trans hSW303.size h
      refine WL.nil (WH.ret hSW308 ?_)
      refine WH.done (by kernel_rfl) ?_
      exact fun a ha => hJ26 ([]) (u276) (x0.2.2.1) (x0.2.2.2) (v285) (F286) (v277) (F278) (b295) _ hF hB305 (hS306.sel [4, 3, 1, 2, 0] rfl) a (ha.sub ⟨rfl, rfl, rfl, trivial⟩)
    ·
      refine wl_alloc (cs := [(.slice none 0 0), (.slice none 0 0), (.int .i64 0), (.int .i64 0)]) tf_31 rfl rfl (Below.self w279) (Sep.nil _ _) ?_
      intro b310 w311 hb312 hB315 hM316
      have hB313 := hB281.trans (hb312.mono hB281.size)
      have hS314 := hS282.join hb312 hM316 hB281.size
      have hn317 : ∀ b ∈ [b310], w213.heap.size ≤ b := fun b hb => Nat.le_trans hSW284.size ((hM316.1 _ (List.mem_cons_self ..)).2.1 b hb).1
      have hSW318 := hSW284.ext hb312
      refine WL.nil (WH.ret hSW318 ?_)
      refine WH.one (i := 0) (by kernel_rfl) rfl ?_
      refine wl_lit0 (e := ty_69) Try.underlying29 rfl (Below.self w311) (Sep.nil _ _) ?_
      intro v319 F320 w321 hb322 hB325 hM326
      have hB323 := hB313.trans (hb322.mono hB313.size)
      have hS324 := hS314.join hb322 hM326 hB313.size
      have hn327 : ∀ b ∈ F320, w213.heap.size ≤ b := fun b hb => Nat.le_trans hSW318.size ((hM326.1 _ (List.mem_cons_self ..)).2.1 b hb).1
      have hSW328 := hSW318.ext hb322
      refine WL.nil (WH.ret hSW328 ?_)
      refine WH.takex (i := 8) rfl (by kernel_rfl) (by kernel_rfl) (by kernel_rfl) hP hSW328 ?_
      refine pr_build (zs := [(.slice none 0 0), (.slice none 0 0), (.int .i64 0), (.int .i64 0)]) (out := [v319, v277, (.int .i64 x0.2.2.1), (.int .i64 x0.2.2.2)]) (vs := [v319, v277, (.int .i64 x0.2.2.1), (.int .i64 x0.2.2.2)]) (css := [[v319], [v277], [(.int .i64 x0.2.2.1)], [(.int .i64 x0.2.2.2)]]) tf_31 pl_31 rfl rfl (by simp only [List.map_cons, List.map_nil, cells_one ((hS324.own_ro (i := 0) rfl).one), cells_one ((hS324.own_ro (i := 2) rfl).one)]; rfl) rfl rfl ?_
      refine WH.one (i := 10) (by kernel_rfl) rfl ?_
      refine wl_store_blk (i := 1) (vs := [v319, v277, (.int .i64 x0.2.2.1), (.int .i64 x0.2.2.2)]) (cs' := [v319, v277, (.int .i64 x0.2.2.1), (.int .i64 x0.2.2.2)]) tf_31 rfl rfl rfl rfl hB323 hS324 rfl rfl ⟨(hS324.own_ro (i := 0) rfl).one, (hS324.own_ro (i := 2) rfl).one, rfl, rfl, trivial⟩ rfl ?_
      intro w329 hk332 hB330 hS331
      have hSW333 := hSW328.wr' hk332.1 hk332.2.1 (fun b hlt hb => absurd hlt (Nat.not_lt.2 (hn317 b hb)))
      have hn334 : ∀ b ∈ [b310], w213.heap.size ≤ b := fun b hb => (hk332.2.2 b hb).elim (hn317 b) fun h => Nat.le_trans hSW328.size h
      refine WL.nil (WH.ret hSW333 ?_)
      refine WH.done (by kernel_rfl) ?_
      exact fun a ha => hJ26 ([]) (u276) (x0.2.2.1) (x0.2.2.2) (v319) (F320) (v277) (F278) (b310) _ hF hB330 (hS331.sel [4, 3, 0, 2, 1] rfl) a (ha.sub ⟨rfl, rfl, rfl, trivial⟩)
  ·
    refine wl_alloc (cs := [(.slice none 0 0), (.slice none 0 0), (.int .i64 0), (.int .i64 0)]) tf_31 rfl rfl (Below.self w213) (Sep.nil _ _) ?_
    intro b335 w336 hb337 hB340 hM341
    have hB338 := hB215.trans (hb337.mono hB215.size)
    have hS339 := hS216.join hb337 hM341 hB215.size
    have hn342 : ∀ b ∈ [b335], w213.heap.size ≤ b := fun b hb => Nat.le_trans hSW217.size ((hM341.1 _ (List.mem_cons_self ..)).2.1 b hb).1
    have hSW343 := hSW217.ext hb337
    refine WL.nil (WH.ret hSW343 ?_)
    refine WH.many (is := [0, 3]) (by kernel_rfl) rfl ?_
    refine List.forall_mem_cons.2 ⟨⟨_, rfl, ?_⟩, List.forall_mem_cons.2 ⟨⟨_, rfl, ?_⟩, fun _ h => by cases h⟩⟩
    ·
      refine wl_lit0 (e := ty_69) Try.underlying29 rfl (Below.self w336) (Sep.nil _ _) ?_
      intro v344 F345 w346 hb347 hB350 hM351
      have hB348 := hB338.trans (hb347.mono hB338.size)
      have hS349 := hS339.join hb347 hM351 hB338.size
      have hn352 : ∀ b ∈ F345, w213.heap.size ≤ b := fun b hb => Nat.le_trans hSW343.size ((hM351.1 _ (List.mem_cons_self ..)).2.1 b hb).1
      have hSW353 := hSW343.ext hb347
      refine WL.nil (WH.ret hSW353 ?_)
      refine WH.one (i := 3) (by kernel_rfl) rfl ?_
      obtain ⟨u354, hu354, hF⟩ := bindE hF
      refine wl_call rfl Try.call137 (C_impl_copyInts w346 x0.2.1 v0_1 (h0_1.ro hB348) _ hu354) rfl ?_
      rintro _ w357 ⟨v355, F356, rfl, hb358, hM361⟩
      refine ⟨_, rfl, ?_⟩
      have hB359 := hB348.trans (hb358.mono hB348.size)
      have hS360 := hS349.join hb358 hM361 hB348.size
      have hSW362 := hSW353.ext hb358
      refine WL.nil (WH.ret hSW362 ?_)
      refine WH.takex (i := 8) rfl (by kernel_rfl) (by kernel_rfl) (by kernel_rfl) hP hSW362 ?_
      refine pr_build (zs := [(.slice none 0 0), (.slice none 0 0), (.int .i64 0), (.int .i64 0)]) (out := [v344, v355, (.int .i64 x0.2.2.1), (.int .i64 x0.2.2.2)]) (vs := [v344, v355, (.int .i64 x0.2.2.1), (.int .i64 x0.2.2.2)]) (css := [[v344], [v355], [(.int .i64 x0.2.2.1)], [(.int .i64 x0.2.2.2)]]) tf_31 pl_31 rfl rfl (by simp only [List.map_cons, List.map_nil, cells_one ((hS360.own_ro (i := 1) rfl).one), cells_one ((hS360.own_ro (i := 0) rfl).one)]; rfl) rfl rfl ?_
      refine WH.one (i := 10) (by kernel_rfl) rfl ?_
      refine wl_store_blk (i := 2) (vs := [v344, v355, (.int .i64 x0.2.2.1), (.int .i64 x0.2.2.2)]) (cs' := [v344, v355, (.int .i64 x0.2.2.1), (.int .i64 x0.2.2.2)]) tf_31 rfl rfl rfl rfl hB359 hS360 rfl rfl ⟨(hS360.own_ro (i := 1) rfl).one, (hS360.own_ro (i := 0) rfl).one, rfl, rfl, trivial⟩ rfl ?_
      intro w363 hk366 hB364 hS365
      have hSW367 := hSW362.wr' hk366.1 hk366.2.1 (fun b hlt hb => absurd hlt (Nat.not_lt.2 (hn342 b hb)))
      have hn368 : ∀ b ∈ [b335], w213.heap.size ≤ b := fun b hb => (hk366.2.2 b hb).elim (hn342 b) fun h => Nat.le_trans hSW362.size h
      refine WL.nil (WH.ret hSW367 ?_)
      refine WH.done (by kernel_rfl) ?_
      exact fun a ha => hJ26 ([]) (u354) (x0.2.2.1) (x0.2.2.2) (v344) (F345) (v355) (F356) (b335) _ hF hB364 (hS365.sel [4, 3, 1, 0, 2] rfl) a (ha.sub ⟨rfl, rfl, rfl, trivial⟩)
    ·
      obtain ⟨u369, hu369, hF⟩ := bindE hF
      refine wl_call rfl Try.call137 (C_impl_copyInts w336 x0.2.1 v0_1 (h0_1.ro hB338) _ hu369) rfl ?_
      rintro _ w372 ⟨v370, F371, rfl, hb373, hM376⟩
      refine ⟨_, rfl, ?_⟩
      have hB374 := hB338.trans (hb373.mono hB338.size)
      have hS375 := hS339.join hb373 hM376 hB338.size
      have hSW377 := hSW343.ext hb373
      refine WL.nil (WH.ret hSW377 ?_)
      refine WH.one (i := 0) (by kernel_rfl) rfl ?_
      refine wl_lit0 (e := ty_69) Try.underlying29 rfl (Below.self w372) (Sep.nil _ _) ?_
      intro v378 F379 w380 hb381 hB384 hM385
      have hB382 := hB374.trans (hb381.mono hB374.size)
      have hS383 := hS375.join hb381 hM385 hB374.size
      have hn386 : ∀ b ∈ F379, w213.heap.size ≤ b := fun b hb => Nat.le_trans hSW377.size ((hM385.1 _ (List.mem_cons_self ..)).2.1 b hb).1
      have hSW387 := hSW377.ext hb381
      refine WL.nil (WH.ret hSW387 ?_)
      refine WH.takex (i := 8) rfl (by kernel_rfl) (by kernel_rfl) (by kernel_rfl) hP hSW387 ?_
      refine pr_build (zs := [(.slice none 0 0), (.slice none 0 0), (.int .i64 0), (.int .i64 0)]) (out := [v378, v370, (.int .i64 x0.2.2.1), (.int .i64 x0.2.2.2)]) (vs := [v378, v370, (.int .i64 x0.2.2.1), (.int .i64 x0.2.2.2)]) (css := [[v378], [v370], [(.int .i64 x0.2.2.1)], [(.int .i64 x0.2.2.2)]]) tf_31 pl_31 rfl rfl (by simp only [List.map_cons, List.map_nil, cells_one ((hS383.own_ro (i := 0) rfl).one), cells_one ((hS383.own_ro (i := 1) rfl).one)]; rfl) rfl rfl ?_
      refine WH.one (i := 10) (by kernel_rfl) rfl ?_
      refine wl_store_blk (i := 2) (vs := [v378, v370, (.int .i64 x0.2.2.1), (.int .i64 x0.2.2.2)]) (cs' := [v378, v370, (.int .i64 x0.2.2.1), (.int .i64 x0.2.2.2)]) tf_31 rfl rfl rfl rfl hB382 hS383 rfl rfl ⟨(hS383.own_ro (i := 0) rfl).one, (hS383.own_ro (i := 1) rfl).one, rfl, rfl, trivial⟩ rfl ?_
      intro w388 hk391 hB389 hS390
      have hSW392 := hSW387.wr' hk391.1 hk391.2.1 (fun b hlt hb => absurd hlt (Nat.not_lt.2 (hn342 b hb)))
      have hn393 : ∀ b ∈ [b335], w213.heap.size ≤ b := fun b hb => (hk391.2.2 b hb).elim (hn342 b) fun h => Nat.le_trans hSW387.size h
      refine WL.nil (WH.ret hSW392 ?_)
      refine WH.done (by kernel_rfl) ?_
      exact fun a ha => hJ26 ([]) (u369) (x0.2.2.1) (x0.2.2.2) (v378) (F379) (v370) (F371) (b335) _ hF hB389 (hS390.sel [4, 3, 0, 1, 2] rfl) a (ha.sub ⟨rfl, rfl, rfl, trivial⟩)
theorem C_laws_heldSpotS (w0 : World) (x0 : (List (Int × Int))) (v0_0 : Value) (h0_0 : rdS ty_116 (· < w0.heap.size) w0 v0_0 x0) (x1 : Int) (r : Int) (hF : F_laws_heldSpotS x0 x1 = some r) :
    Calls Try.prog 138 [v0_0, (.int .i64 x1)].toArray w0 fun e w' => e = .returned (.int .i64 r) ∧ Below w0.heap.size w0 w' := by
  refine calls_mk' Try.func138 rfl Try.ntmps138 rfl rfl fun Q hQ hP => ?_
  have hB : Below w0.heap.size w0 w0 := Below.refl _ _
  have hS : Sep w0.heap.size w0 [] := Sep.nil _ _
  unfold F_laws_heldSpotS at hF
  refine W.seq fun K1 hK1 => ?_
  refine W.region ?_
  refine wl_assign rfl rfl ?_
  refine WL.nil ?_
  refine fun a ha => hK1 _ _ ?_ a ha
  refine W.seq fun K2 hK2 => ?_
  refine W.seq fun K3 hK3 => ?_
  refine W.region ?_
  refine wl_assign rfl rfl ?_
  refine WL.nil ?_
  refine fun a ha => hK3 _ _ ?_ a ha
  refine W.block ?_
  refine W.loopk (fun m a w4 => ∃ (y7 : Int) (y8 : Int), St 31 [(0, v0_0), (1, (.int .i64 y7)), (5, (.int .i64 y8))] a ∧ Below w0.heap.size w0 w4 ∧ Sep w0.heap.size w4 [] ∧ F_laws_heldSpotS_L1 x0 m y7 y8 = some r) FU ?_ ?_
  ·
    exact fun a ha => ⟨x1, 0, ha.sub ⟨rfl, rfl, rfl, trivial⟩, hB, (hS.sel [] rfl), hF⟩
  ·
    rintro m11 a w4 ⟨y7, y8, ha, hB5, hS6, hF⟩ KL10 hKL10
    refine W.at ?_ ha
    cases m11 with
    | zero => exact noneE hF
    | succ m11 =>
      obtain ⟨nx9, hnx9⟩ : ∃ k, k = F_laws_heldSpotS_L1 x0 m11 := ⟨_, rfl⟩
      rw [F_laws_heldSpotS_L1, ← hnx9] at hF
      refine W.seq fun K12 hK12 => ?_
      refine W.seq fun K13 hK13 => ?_
      refine W.region ?_
      refine wl_move rfl rfl ?_
      refine wl_move rfl rfl ?_
      refine wl_lenr (e := ty_116) (l := x0) Try.underlying69 rfl rfl h0_0 ?_
      refine wl_lss rfl rfl rfl ?_
      refine WL.nil ?_
      refine fun a ha => hK13 _ _ ?_ a ha
      refine W.cond rfl (fun h14 => ?_) (fun h14 => ?_)
      · replace hF := ifP h14 hF
        refine W.skip ?_
        refine fun a ha => hK12 _ _ ?_ a ha
        refine W.seq fun K15 hK15 => ?_
        refine W.block ?_
        refine W.seq fun K16 hK16 => ?_
        refine W.seq fun K17 hK17 => ?_
        refine W.region ?_
        refine wl_move rfl rfl ?_
        refine wl_move rfl rfl ?_
        obtain ⟨u18, hu18, hF⟩ := bindE hF
        refine wl_index (e := ty_116) Try.underlying69 rfl rfl rfl h0_0 hu18 ?_
        rintro p19 _ rfl hp20
        refine wl_fieldp (o := 0) ff_116_0 rfl rfl ?_
        refine wl_load_p (vs := [(.int .i64 u18.1)]) (v := (.int .i64 u18.1)) tf_3 rfl rfl ((hp20.ro hB5).add 0) rfl rfl ?_
        refine wl_move rfl rfl ?_
        refine wl_neq rfl rfl rfl ?_
        refine WL.nil ?_
        refine fun a ha => hK17 _ _ ?_ a ha
        refine W.cond rfl (fun h21 => ?_) (fun h21 => ?_)
        · replace hF := ifP h21 hF
          refine W.seq fun K22 hK22 => ?_
          refine W.region ?_
          refine wl_assign rfl rfl ?_
          refine WL.nil ?_
          refine fun a ha => hK22 _ _ ?_ a ha
          refine W.ret ?_
          have hr := Option.some.inj hF
          subst hr
          exact rets (vs := [(.int .i64 (-1))]) hQ rfl ⟨rv_tmp rfl, trivial⟩ ⟨rfl, hB5⟩
        · replace hF := ifN h21 hF
          refine W.skip ?_
          refine fun a ha => hK16 _ _ ?_ a ha
          refine W.seq fun K23 hK23 => ?_
          refine W.region ?_
          refine wl_move rfl rfl ?_
          refine wl_add rfl rfl rfl ?_
          refine wl_assign rfl rfl ?_
          refine WL.nil ?_
          refine fun a ha => hK23 _ _ ?_ a ha
          refine W.seq fun K24 hK24 => ?_
          refine W.seq fun K25 hK25 => ?_
          refine W.region ?_
          refine wl_move rfl rfl ?_
          refine wl_move rfl rfl ?_
          obtain ⟨u26, hu26, hF⟩ := bindE hF
          refine wl_index (e := ty_116) Try.underlying69 rfl rfl rfl h0_0 hu26 ?_
          rintro p27 _ rfl hp28
          refine wl_fieldp (o := 1) ff_116_1 rfl rfl ?_
          refine wl_load_p (vs := [(.int .i64 u26.2)]) (v := (.int .i64 u26.2)) tf_3 rfl rfl ((hp28.ro hB5).add 1) rfl rfl ?_
          refine wl_move rfl rfl ?_
          refine wl_neq rfl rfl rfl ?_
          refine WL.nil ?_
          refine fun a ha => hK25 _ _ ?_ a ha
          refine W.cond rfl (fun h29 => ?_) (fun h29 => ?_)
          · replace hF := ifP h29 hF
            refine W.seq fun K30 hK30 => ?_
            refine W.region ?_
            refine wl_assign rfl rfl ?_
            refine WL.nil ?_
            refine fun a ha => hK30 _ _ ?_ a ha
            refine W.ret ?_
            have hr := Option.some.inj hF
            subst hr
            exact rets (vs := [(.int .i64 (-1))]) hQ rfl ⟨rv_tmp rfl, trivial⟩ ⟨rfl, hB5⟩
          · replace hF := ifN h29 hF
            refine W.skip ?_
            refine fun a ha => hK24 _ _ ?_ a ha
            refine W.region ?_
            refine wl_move rfl rfl ?_
            refine wl_add rfl rfl rfl ?_
            refine wl_assign rfl rfl ?_
            refine WL.nil ?_
            refine fun a ha => hK15 _ _ ?_ a ha
            refine W.region ?_
            refine wl_move rfl rfl ?_
            refine wl_add rfl rfl rfl ?_
            refine wl_assign rfl rfl ?_
            refine WL.nil ?_
            rw [hnx9] at hF
            exact fun a ha => hKL10 a _ m11 (Nat.lt_succ_self m11) ⟨(w64 ((w64 (y7 + 1)) + 1)), (w64 (y8 + 1)), ha.sub ⟨rfl, rfl, rfl, trivial⟩, hB5, (hS6.sel [] rfl), hF⟩
      · replace hF := ifN h14 hF
        refine W.exit ?_
        refine fun a ha => hK2 _ _ ?_ a ha
        refine W.seq fun K31 hK31 => ?_
        refine W.region ?_
        refine wl_move rfl rfl ?_
        refine wl_assign rfl rfl ?_
        refine WL.nil ?_
        refine fun a ha => hK31 _ _ ?_ a ha
        refine W.ret ?_
        have hr := Option.some.inj hF
        subst hr
        exact rets (vs := [(.int .i64 y7)]) hQ rfl ⟨rv_tmp rfl, trivial⟩ ⟨rfl, hB5⟩
theorem C_laws_heldSpotSS (w0 : World) (x0 : (List (List (Int × Int)))) (v0_0 : Value) (h0_0 : rdS ty_69 (· < w0.heap.size) w0 v0_0 x0) (x1 : Int) (r : Int) (hF : F_laws_heldSpotSS x0 x1 = some r) :
    Calls Try.prog 99 [v0_0, (.int .i64 x1)].toArray w0 fun e w' => e = .returned (.int .i64 r) ∧ Below w0.heap.size w0 w' := by
  refine calls_mk' Try.func99 rfl Try.ntmps99 rfl rfl fun Q hQ hP => ?_
  have hB : Below w0.heap.size w0 w0 := Below.refl _ _
  have hS : Sep w0.heap.size w0 [] := Sep.nil _ _
  unfold F_laws_heldSpotSS at hF
  refine W.seq fun K1 hK1 => ?_
  refine W.region ?_
  refine wl_assign rfl rfl ?_
  refine WL.nil ?_
  refine fun a ha => hK1 _ _ ?_ a ha
  refine W.seq fun K2 hK2 => ?_
  refine W.seq fun K3 hK3 => ?_
  refine W.region ?_
  refine wl_assign rfl rfl ?_
  refine WL.nil ?_
  refine fun a ha => hK3 _ _ ?_ a ha
  refine W.block ?_
  refine W.loopk (fun m a w4 => ∃ (y7 : Int) (y8 : Int), St 21 [(0, v0_0), (1, (.int .i64 y7)), (5, (.int .i64 y8))] a ∧ Below w0.heap.size w0 w4 ∧ Sep w0.heap.size w4 [] ∧ F_laws_heldSpotSS_L1 x0 m y7 y8 = some r) FU ?_ ?_
  ·
    exact fun a ha => ⟨x1, 0, ha.sub ⟨rfl, rfl, rfl, trivial⟩, hB, (hS.sel [] rfl), hF⟩
  ·
    rintro m11 a w4 ⟨y7, y8, ha, hB5, hS6, hF⟩ KL10 hKL10
    refine W.at ?_ ha
    cases m11 with
    | zero => exact noneE hF
    | succ m11 =>
      obtain ⟨nx9, hnx9⟩ : ∃ k, k = F_laws_heldSpotSS_L1 x0 m11 := ⟨_, rfl⟩
      rw [F_laws_heldSpotSS_L1, ← hnx9] at hF
      refine W.seq fun K12 hK12 => ?_
      refine W.seq fun K13 hK13 => ?_
      refine W.region ?_
      refine wl_move rfl rfl ?_
      refine wl_move rfl rfl ?_
      refine wl_lenr (e := ty_69) (l := x0) Try.underlying29 rfl rfl h0_0 ?_
      refine wl_lss rfl rfl rfl ?_
      refine WL.nil ?_
      refine fun a ha => hK13 _ _ ?_ a ha
      refine W.cond rfl (fun h14 => ?_) (fun h14 => ?_)
      · replace hF := ifP h14 hF
        refine W.skip ?_
        refine fun a ha => hK12 _ _ ?_ a ha
        refine W.seq fun K15 hK15 => ?_
        refine W.block ?_
        refine W.seq fun K16 hK16 => ?_
        refine W.region ?_
        refine wl_move rfl rfl ?_
        refine wl_move rfl rfl ?_
        obtain ⟨u17, hu17, hF⟩ := bindE hF
        refine wl_index (e := ty_69) Try.underlying29 rfl rfl rfl h0_0 hu17 ?_
        rintro p18 _ ⟨v20, rfl, hv21⟩ hp19
        refine wl_load_p (vs := [v20]) (v := v20) tf_69 rfl rfl (hp19.ro hB5) rfl rfl ?_
        refine wl_move rfl rfl ?_
        obtain ⟨u22, hu22, hF⟩ := bindE hF
        refine wl_call rfl Try.call138 (C_laws_heldSpotS w4 u17 v20 (hv21.ro hB5) y7 _ hu22) rfl ?_
        rintro _ w23 ⟨rfl, hb24⟩
        refine ⟨_, rfl, ?_⟩
        have hB25 := hB5.trans (hb24.mono hB5.size)
        have hS26 := hS6.below hb24
        refine wl_assign rfl rfl ?_
        refine WL.nil ?_
        refine fun a ha => hK16 _ _ ?_ a ha
        refine W.seq fun K28 hK28 => ?_
        refine W.region ?_
        refine wl_move rfl rfl ?_
        refine wl_lss rfl rfl rfl ?_
        refine WL.nil ?_
        refine fun a ha => hK28 _ _ ?_ a ha
        refine W.cond rfl (fun h29 => ?_) (fun h29 => ?_)
        · replace hF := ifP h29 hF
          refine W.seq fun K30 hK30 => ?_
          refine W.region ?_
          refine wl_assign rfl rfl ?_
          refine WL.nil ?_
          refine fun a ha => hK30 _ _ ?_ a ha
          refine W.ret ?_
          have hr := Option.some.inj hF
          subst hr
          exact rets (vs := [(.int .i64 (-1))]) hQ rfl ⟨rv_tmp rfl, trivial⟩ ⟨rfl, hB25⟩
        · replace hF := ifN h29 hF
          refine W.skip ?_
          refine fun a ha => hK15 _ _ ?_ a ha
          refine W.region ?_
          refine wl_move rfl rfl ?_
          refine wl_add rfl rfl rfl ?_
          refine wl_assign rfl rfl ?_
          refine WL.nil ?_
          rw [hnx9] at hF
          exact fun a ha => hKL10 a _ m11 (Nat.lt_succ_self m11) ⟨u22, (w64 (y8 + 1)), ha.sub ⟨rfl, rfl, rfl, trivial⟩, hB25, (hS26.sel [] rfl), hF⟩
      · replace hF := ifN h14 hF
        refine W.exit ?_
        refine fun a ha => hK2 _ _ ?_ a ha
        refine W.seq fun K31 hK31 => ?_
        refine W.region ?_
        refine wl_move rfl rfl ?_
        refine wl_assign rfl rfl ?_
        refine WL.nil ?_
        refine fun a ha => hK31 _ _ ?_ a ha
        refine W.ret ?_
        have hr := Option.some.inj hF
        subst hr
        exact rets (vs := [(.int .i64 y7)]) hQ rfl ⟨rv_tmp rfl, trivial⟩ ⟨rfl, hB5⟩
theorem C_laws_heldShow (w0 : World) (x0 : ((List (List (Int × Int))) × (List Int) × Int × Int)) (v0_0 : Value) (h0_0 : rdS ty_69 (· < w0.heap.size) w0 v0_0 x0.1) (v0_1 : Value) (h0_1 : rdS ty_3 (· < w0.heap.size) w0 v0_1 x0.2.1) (x1 : Int) (r : Int) (hF : F_laws_heldShow x0 x1 = some r) :
    Calls Try.prog 43 [(.agg #[v0_0, v0_1, (.int .i64 x0.2.2.1), (.int .i64 x0.2.2.2)]), (.int .i64 x1)].toArray w0 fun e w' => e = .returned (.int .i64 r) ∧ Below w0.heap.size w0 w' := by
  refine calls_mk' Try.func43 rfl Try.ntmps43 rfl rfl fun Q hQ hP => ?_
  have hB : Below w0.heap.size w0 w0 := Below.refl _ _
  have hS : Sep w0.heap.size w0 [] := Sep.nil _ _
  unfold F_laws_heldShow at hF
  refine W.seq fun K1 hK1 => ?_
  refine W.region ?_
  refine wl_box (cs := [v0_0, v0_1, (.int .i64 x0.2.2.1), (.int .i64 x0.2.2.2)]) rfl rfl rfl hB hS ?_
  intro b2 w3 hb4 hB5 hS6
  refine wl_assign rfl rfl ?_
  refine WL.nil ?_
  refine fun a ha => hK1 _ _ ?_ a ha
  refine W.seq fun K7 hK7 => ?_
  refine W.region ?_
  refine wl_field (o := 0) (off' := 0) ff_31_0 rfl rfl rfl ?_
  refine wl_load_blk (i := 0) (vs := [v0_0]) (v := v0_0) tf_29 rfl rfl hS6 rfl rfl rfl ?_
  refine wl_move rfl rfl ?_
  obtain ⟨u8, hu8, hF⟩ := bindE hF
  refine wl_call rfl Try.call99 (C_laws_heldSpotSS w3 x0.1 v0_0 (h0_0.ro hB5) x1 _ hu8) rfl ?_
  rintro _ w9 ⟨rfl, hb10⟩
  refine ⟨_, rfl, ?_⟩
  have hB11 := hB5.trans (hb10.mono hB5.size)
  have hS12 := hS6.below hb10
  refine wl_assign rfl rfl ?_
  refine WL.nil ?_
  refine fun a ha => hK7 _ _ ?_ a ha
  refine W.seq fun K14 hK14 => ?_
  refine W.seq fun K15 hK15 => ?_
  refine W.region ?_
  refine wl_move rfl rfl ?_
  refine wl_lss rfl rfl rfl ?_
  refine WL.nil ?_
  refine fun a ha => hK15 _ _ ?_ a ha
  refine W.cond rfl (fun h16 => ?_) (fun h16 => ?_)
  · replace hF := ifP h16 hF
    refine W.seq fun K17 hK17 => ?_
    refine W.region ?_
    refine wl_assign rfl rfl ?_
    refine WL.nil ?_
    refine fun a ha => hK17 _ _ ?_ a ha
    refine W.ret ?_
    have hr := Option.some.inj hF
    subst hr
    exact rets (vs := [(.int .i64 (-1))]) hQ rfl ⟨rv_tmp rfl, trivial⟩ ⟨rfl, hB11⟩
  · replace hF := ifN h16 hF
    refine W.skip ?_
    refine fun a ha => hK14 _ _ ?_ a ha
    refine W.seq fun K18 hK18 => ?_
    refine W.region ?_
    refine wl_field (o := 1) (off' := 1) ff_31_1 rfl rfl rfl ?_
    refine wl_load_blk (i := 0) (vs := [v0_1]) (v := v0_1) tf_23 rfl rfl hS12 rfl rfl rfl ?_
    refine wl_move rfl rfl ?_
    obtain ⟨u19, hu19, hF⟩ := bindE hF
    refine wl_call rfl Try.call23 (C_laws_heldIntS w9 x0.2.1 v0_1 (h0_1.ro hB11) u8 _ hu19) rfl ?_
    rintro _ w20 ⟨rfl, hb21⟩
    refine ⟨_, rfl, ?_⟩
    have hB22 := hB11.trans (hb21.mono hB11.size)
    have hS23 := hS12.below hb21
    refine wl_assign rfl rfl ?_
    refine WL.nil ?_
    refine fun a ha => hK18 _ _ ?_ a ha
    refine W.seq fun K25 hK25 => ?_
    refine W.seq fun K26 hK26 => ?_
    refine W.region ?_
    refine wl_move rfl rfl ?_
    refine wl_lss rfl rfl rfl ?_
    refine WL.nil ?_
    refine fun a ha => hK26 _ _ ?_ a ha
    refine W.cond rfl (fun h27 => ?_) (fun h27 => ?_)
    · replace hF := ifP h27 hF
      refine W.seq fun K28 hK28 => ?_
      refine W.region ?_
      refine wl_assign rfl rfl ?_
      refine WL.nil ?_
      refine fun a ha => hK28 _ _ ?_ a ha
      refine W.ret ?_
      have hr := Option.some.inj hF
      subst hr
      exact rets (vs := [(.int .i64 (-1))]) hQ rfl ⟨rv_tmp rfl, trivial⟩ ⟨rfl, hB22⟩
    · replace hF := ifN h27 hF
      refine W.skip ?_
      refine fun a ha => hK25 _ _ ?_ a ha
      refine W.seq fun K29 hK29 => ?_
      refine W.region ?_
      refine wl_move rfl rfl ?_
      refine wl_assign rfl rfl ?_
      refine WL.nil ?_
      refine fun a ha => hK29 _ _ ?_ a ha
      refine W.ret ?_
      have hr := Option.some.inj hF
      subst hr
      exact rets (vs := [(.int .i64 u19)]) hQ rfl ⟨rv_tmp rfl, trivial⟩ ⟨rfl, hB22⟩
end Go.Proofs.Ytadklddedeoniaa
