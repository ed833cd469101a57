/-
  THE WALKS of functions of this seat, by program (gen.py, prune.py).
-/
import Derived.Test.YtcndhhjolnebdaaWXFnExactRunBeatsa
set_option linter.unusedSimpArgs false
set_option linter.unusedVariables false
set_option maxRecDepth 100000
namespace Go.Proofs.Ytcndhhjolnebdaa
open Go Go.RowKit
theorem C_spec_swOwn (w0 : World) (x0 : ((List (List (Int × Int))) × (List Int) × Int × Int)) (v0_0 : Value) (h0_0 : rdS ty_82 (· < w0.heap.size) w0 v0_0 x0.1) (v0_1 : Value) (h0_1 : rdS ty_3 (· < w0.heap.size) w0 v0_1 x0.2.1) (r : ((List (List (Int × Int))) × (List Int) × Int × Int)) (hF : F_spec_swOwn x0 = some r) :
    Calls Try.prog 84 [(.agg #[v0_0, v0_1, (.int .i64 x0.2.2.1), (.int .i64 x0.2.2.2)])].toArray w0 fun e w' => ∃ (q0 : Value) (G0 : List Nat) (q1 : Value) (G1 : List Nat), e = .returned (.agg #[q0, q1, (.int .i64 r.2.2.1), (.int .i64 r.2.2.2)]) ∧ Below w0.heap.size w0 w' ∧ Sep w0.heap.size w' [R.own ty_82 G0 q0 r.1, R.own ty_3 G1 q1 r.2.1] := by
  refine calls_mk' Try.func84 rfl Try.ntmps84 rfl rfl fun Q hQ hP => ?_
  have hB : Below w0.heap.size w0 w0 := Below.refl _ _
  have hS : Sep w0.heap.size w0 [] := Sep.nil _ _
  unfold F_spec_swOwn at hF
  refine W.seq fun K1 hK1 => ?_
  refine W.region ?_
  refine wl_box (cs := [v0_0, v0_1, (.int .i64 x0.2.2.1), (.int .i64 x0.2.2.2)]) rfl rfl rfl hB hS ?_
  intro b2 w3 hb4 hB5 hS6
  refine wl_alloc (cs := [(.slice none 0 0), (.slice none 0 0), (.int .i64 0), (.int .i64 0)]) tf_42 rfl rfl hB5 hS6 ?_
  intro b7 w8 hb9 hB10 hS11
  refine WL.nil ?_
  refine fun a ha => hK1 _ _ ?_ a ha
  refine W.seq fun K12 hK12 => ?_
  obtain ⟨k22, hk22, hF⟩ := jE3 hF
  have hJ23 : ∀ (l17 : (List Int)) (y20 : Int) (y21 : Int) (v18 : Value) (F19 : List Nat) (b16 : Nat) (w13 : World) (_ : k22 l17 y20 y21 = some r) (_ : Below w0.heap.size w0 w13) (_ : Sep w0.heap.size w13 [R.blk b2 42 [v0_0, v0_1, (.int .i64 x0.2.2.1), (.int .i64 x0.2.2.2)], R.blk b7 42 [(.slice none 0 0), (.slice none 0 0), (.int .i64 0), (.int .i64 0)], R.own ty_3 F19 v18 l17, R.blk b16 42 [(.slice none 0 0), v18, (.int .i64 y20), (.int .i64 y21)]]), ∀ a, St 30 [(1, (.pointer (some ⟨b2, 0, none⟩))), (2, (.pointer (some ⟨b7, 0, none⟩))), (3, (.pointer (some ⟨b16, 0, none⟩)))] a → K12 a w13 := by
    intro l17 y20 y21 v18 F19 b16 w13 hF hB14 hS15
    subst hk22
    refine fun a ha => hK12 _ _ ?_ a ha
    refine W.seq fun K24 hK24 => ?_
    refine W.seq fun K25 hK25 => ?_
    refine W.region ?_
    refine wl_field (o := 0) (off' := 0) ff_42_0 rfl rfl rfl ?_
    refine wl_load_blk (i := 0) (vs := [v0_0]) (v := v0_0) tf_40 rfl rfl hS15 rfl rfl rfl ?_
    refine wl_lenr (e := ty_82) (l := x0.1) Try.underlying40 rfl rfl h0_0 ?_
    refine wl_move rfl rfl ?_
    refine WL.nil ?_
    refine fun a ha => hK25 _ _ ?_ a ha
    refine W.block ?_
    refine W.loopk (fun m a w26 => ∃ (l29 : (List (List (Int × Int)))) (y32 : Int) (v30 : Value) (F31 : List Nat), St 30 [(2, (.pointer (some ⟨b7, 0, none⟩))), (3, (.pointer (some ⟨b16, 0, none⟩))), (15, v0_0), (16, (.int .i64 (List.length x0.1 : Int))), (17, (.int .i64 y32))] a ∧ Below w0.heap.size w0 w26 ∧ Sep w0.heap.size w26 [R.blk b7 42 [(.slice none 0 0), (.slice none 0 0), (.int .i64 0), (.int .i64 0)], R.own ty_82 F31 v30 l29, R.own ty_3 F19 v18 l17, R.blk b16 42 [v30, v18, (.int .i64 y20), (.int .i64 y21)]] ∧ F_spec_swOwn_L1 x0 l17 y20 y21 m l29 y32 = some r) FU ?_ ?_
    ·
      have hS34 := hS15.push0 (r := R.own ty_82 [] (.slice none 0 0) []) rfl fun _ => .inl ⟨rfl, rfl, rfl⟩
      exact fun a ha => ⟨[], 0, (.slice none 0 0), [], ha.sub ⟨rfl, rfl, rfl, rfl, rfl, trivial⟩, hB14, (hS34.sel [2, 0, 3, 4] rfl), hF⟩
    ·
      rintro m36 a w26 ⟨l29, y32, v30, F31, ha, hB27, hS28, hF⟩ KL35 hKL35
      refine W.at ?_ ha
      cases m36 with
      | zero => exact noneE hF
      | succ m36 =>
        obtain ⟨nx33, hnx33⟩ : ∃ k, k = F_spec_swOwn_L1 x0 l17 y20 y21 m36 := ⟨_, rfl⟩
        rw [F_spec_swOwn_L1, ← hnx33] at hF
        refine W.seq fun K37 hK37 => ?_
        refine W.region ?_
        refine wl_lss rfl rfl rfl ?_
        refine WL.nil ?_
        refine fun a ha => hK37 _ _ ?_ a ha
        refine W.seq fun K38 hK38 => ?_
        refine W.cond rfl (fun h39 => ?_) (fun h39 => ?_)
        · replace hF := ifP h39 hF
          refine W.skip ?_
          refine fun a ha => hK38 _ _ ?_ a ha
          refine W.seq fun K40 hK40 => ?_
          obtain ⟨k47, hk47, hF⟩ := jE1 hF
          have hJ48 : ∀ (l44 : (List (List (Int × Int)))) (v45 : Value) (F46 : List Nat) (w41 : World) (_ : k47 l44 = some r) (_ : Below w0.heap.size w0 w41) (_ : Sep w0.heap.size w41 [R.blk b7 42 [(.slice none 0 0), (.slice none 0 0), (.int .i64 0), (.int .i64 0)], R.own ty_82 F46 v45 l44, R.own ty_3 F19 v18 l17, R.blk b16 42 [v45, v18, (.int .i64 y20), (.int .i64 y21)]]), ∀ a, St 30 [(2, (.pointer (some ⟨b7, 0, none⟩))), (3, (.pointer (some ⟨b16, 0, none⟩))), (15, v0_0), (16, (.int .i64 (List.length x0.1 : Int))), (17, (.int .i64 y32))] a → K40 a w41 := by
            intro l44 v45 F46 w41 hF hB42 hS43
            subst hk47
            refine fun a ha => hK40 _ _ ?_ a ha
            refine W.region ?_
            refine wl_add rfl rfl rfl ?_
            refine wl_move rfl rfl ?_
            refine WL.nil ?_
            rw [hnx33] at hF
            exact fun a ha => hKL35 a _ m36 (Nat.lt_succ_self m36) ⟨l44, (w64 (y32 + 1)), v45, F46, ha.sub ⟨rfl, rfl, rfl, rfl, rfl, trivial⟩, hB42, (hS43.sel [0, 1, 2, 3] rfl), hF⟩
          refine W.block ?_
          refine W.seq fun K49 hK49 => ?_
          refine W.region ?_
          obtain ⟨u50, hu50, hF⟩ := bindE hF
          refine wl_index (e := ty_82) Try.underlying40 rfl rfl rfl h0_0 hu50 ?_
          rintro p51 _ ⟨v53, rfl, hv54⟩ hp52
          refine wl_load_p (vs := [v53]) (v := v53) tf_82 rfl rfl (hp52.ro hB27) rfl rfl ?_
          refine wl_assign rfl rfl ?_
          refine WL.nil ?_
          refine fun a ha => hK49 _ _ ?_ a ha
          refine W.regionH mixed_ (F31 ++ [b16]) hB27 hS28 ?_
          intro w55 hb56 hB57 hS58
          have hSW59 := KeepX.refl w55 (F31 ++ [b16])
          refine WH.takex (i := 0) rfl (by kernel_rfl) (by kernel_rfl) (by kernel_rfl) hP hSW59 ?_
          refine pr_field (o := 0) (off' := 0) ff_42_0 rfl rfl rfl ?_
          refine WH.takex (i := 2) rfl (by kernel_rfl) (by kernel_rfl) (by kernel_rfl) hP hSW59 ?_
          refine pr_move rfl rfl ?_
          refine WH.many (is := [1, 3]) (by kernel_rfl) rfl ?_
          refine List.forall_mem_cons.2 ⟨⟨_, rfl, ?_⟩, List.forall_mem_cons.2 ⟨⟨_, rfl, ?_⟩, fun _ h => by cases h⟩⟩
          ·
            refine wl_load_blk (i := 3) (vs := [v30]) (v := v30) tf_40 rfl rfl hS58 rfl rfl rfl ?_
            refine WL.nil (WH.ret hSW59 ?_)
            refine WH.one (i := 3) (by kernel_rfl) rfl ?_
            obtain ⟨u60, hu60, hF⟩ := bindE hF
            refine wl_call rfl Try.call115 (C_spec_chOwn w55 u50 v53 (hv54.ro hB57) _ hu60) rfl ?_
            rintro _ w63 ⟨v61, F62, rfl, hb64, hM67⟩
            refine ⟨_, rfl, ?_⟩
            have hB65 := hB57.trans (hb64.mono hB57.size)
            have hS66 := hS58.join hb64 hM67 hB57.size
            have hSW68 := hSW59.ext hb64
            have hbS69 : Below w55.heap.size w55 w63 := hb64
            refine WL.nil (WH.ret hSW68 ?_)
            refine WH.one (i := 4) (by kernel_rfl) rfl ?_
            have hq70 := hS66.sel [0, 1, 2, 3, 4] rfl
            have hq71 := hq70.head (r' := R.cel ty_82 F62 [v61] u60) (rfl) fun _ h0 => ⟨_, rfl, h0⟩
            refine wl_lit1 (e := ty_82) (vs := [v61]) Try.underlying40 rfl rfl (cells_one (hS66.own_ro (i := 0) rfl).one) rfl hB65 hq71 ?_
            intro v72 F73 w74 hb75 hf76 hB77 hS78
            have hSW80 := hSW68.ext hb75
            have hbS81 : Below w55.heap.size w55 w74 := hbS69.trans (hb75.mono hbS69.size)
            refine WL.nil (WH.ret hSW80 ?_)
            refine WH.one (i := 5) (by kernel_rfl) rfl ?_
            obtain ⟨u82, hu82, hF⟩ := bindE hF
            refine wl_appendn (e := ty_82) Try.underlying40 rfl rfl rfl hB77 (hS78.sel [2, 0, 1, 3, 4] rfl) hu82 ?_
            intro v83 F84 w85 hk86 hB87 hS88
            have hSW89 := hSW80.wr' hk86.1 hk86.2.1 (fun _ _ h => List.mem_append_left _ (h))
            refine WL.nil (WH.ret hSW89 ?_)
            refine WH.takex (i := 6) rfl (by kernel_rfl) (by kernel_rfl) (by kernel_rfl) hP hSW89 ?_
            refine pr_field (o := 0) (off' := 0) ff_42_0 rfl rfl rfl ?_
            refine WH.one (i := 7) (by kernel_rfl) rfl ?_
            refine wl_store_blk (i := 3) (vs := [v83]) (cs' := [v83, v18, (.int .i64 y20), (.int .i64 y21)]) tf_40 rfl rfl (cells_one (hS88.own_ro (i := 0) rfl).one) rfl hB87 hS88 rfl rfl ⟨(hS88.own_ro (i := 0) rfl).one, trivial⟩ rfl ?_
            intro w90 hk93 hB91 hS92
            have hSW94 := hSW89.wr' hk93.1 hk93.2.1 (fun _ _ h => List.mem_append_right _ h)
            refine WL.nil (WH.ret hSW94 ?_)
            refine WH.done (by kernel_rfl) ?_
            exact fun a ha => hJ48 (u82) (v83) (F84) _ hF hB91 (hS92.sel [1, 0, 2, 3] rfl) a (ha.sub ⟨rfl, rfl, rfl, rfl, rfl, trivial⟩)
          ·
            obtain ⟨u95, hu95, hF⟩ := bindE hF
            refine wl_call rfl Try.call115 (C_spec_chOwn w55 u50 v53 (hv54.ro hB57) _ hu95) rfl ?_
            rintro _ w98 ⟨v96, F97, rfl, hb99, hM102⟩
            refine ⟨_, rfl, ?_⟩
            have hB100 := hB57.trans (hb99.mono hB57.size)
            have hS101 := hS58.join hb99 hM102 hB57.size
            have hSW103 := hSW59.ext hb99
            have hbS104 : Below w55.heap.size w55 w98 := hb99
            refine WL.nil (WH.ret hSW103 ?_)
            refine WH.many (is := [1, 4]) (by kernel_rfl) rfl ?_
            refine List.forall_mem_cons.2 ⟨⟨_, rfl, ?_⟩, List.forall_mem_cons.2 ⟨⟨_, rfl, ?_⟩, fun _ h => by cases h⟩⟩
            ·
              refine wl_load_blk (i := 4) (vs := [v30]) (v := v30) tf_40 rfl rfl hS101 rfl rfl rfl ?_
              refine WL.nil (WH.ret hSW103 ?_)
              refine WH.one (i := 4) (by kernel_rfl) rfl ?_
              have hq105 := hS101.sel [0, 1, 2, 3, 4] rfl
              have hq106 := hq105.head (r' := R.cel ty_82 F97 [v96] u95) (rfl) fun _ h0 => ⟨_, rfl, h0⟩
              refine wl_lit1 (e := ty_82) (vs := [v96]) Try.underlying40 rfl rfl (cells_one (hS101.own_ro (i := 0) rfl).one) rfl hB100 hq106 ?_
              intro v107 F108 w109 hb110 hf111 hB112 hS113
              have hSW115 := hSW103.ext hb110
              have hbS116 : Below w55.heap.size w55 w109 := hbS104.trans (hb110.mono hbS104.size)
              refine WL.nil (WH.ret hSW115 ?_)
              refine WH.one (i := 5) (by kernel_rfl) rfl ?_
              obtain ⟨u117, hu117, hF⟩ := bindE hF
              refine wl_appendn (e := ty_82) Try.underlying40 rfl rfl rfl hB112 (hS113.sel [2, 0, 1, 3, 4] rfl) hu117 ?_
              intro v118 F119 w120 hk121 hB122 hS123
              have hSW124 := hSW115.wr' hk121.1 hk121.2.1 (fun _ _ h => List.mem_append_left _ (h))
              refine WL.nil (WH.ret hSW124 ?_)
              refine WH.takex (i := 6) rfl (by kernel_rfl) (by kernel_rfl) (by kernel_rfl) hP hSW124 ?_
              refine pr_field (o := 0) (off' := 0) ff_42_0 rfl rfl rfl ?_
              refine WH.one (i := 7) (by kernel_rfl) rfl ?_
              refine wl_store_blk (i := 3) (vs := [v118]) (cs' := [v118, v18, (.int .i64 y20), (.int .i64 y21)]) tf_40 rfl rfl (cells_one (hS123.own_ro (i := 0) rfl).one) rfl hB122 hS123 rfl rfl ⟨(hS123.own_ro (i := 0) rfl).one, trivial⟩ rfl ?_
              intro w125 hk128 hB126 hS127
              have hSW129 := hSW124.wr' hk128.1 hk128.2.1 (fun _ _ h => List.mem_append_right _ h)
              refine WL.nil (WH.ret hSW129 ?_)
              refine WH.done (by kernel_rfl) ?_
              exact fun a ha => hJ48 (u117) (v118) (F119) _ hF hB126 (hS127.sel [1, 0, 2, 3] rfl) a (ha.sub ⟨rfl, rfl, rfl, rfl, rfl, trivial⟩)
            ·
              have hq130 := hS101.sel [0, 1, 2, 3, 4] rfl
              have hq131 := hq130.head (r' := R.cel ty_82 F97 [v96] u95) (rfl) fun _ h0 => ⟨_, rfl, h0⟩
              refine wl_lit1 (e := ty_82) (vs := [v96]) Try.underlying40 rfl rfl (cells_one (hS101.own_ro (i := 0) rfl).one) rfl hB100 hq131 ?_
              intro v132 F133 w134 hb135 hf136 hB137 hS138
              have hSW140 := hSW103.ext hb135
              have hbS141 : Below w55.heap.size w55 w134 := hbS104.trans (hb135.mono hbS104.size)
              refine WL.nil (WH.ret hSW140 ?_)
              refine WH.one (i := 1) (by kernel_rfl) rfl ?_
              refine wl_load_blk (i := 4) (vs := [v30]) (v := v30) tf_40 rfl rfl hS138 rfl rfl rfl ?_
              refine WL.nil (WH.ret hSW140 ?_)
              refine WH.one (i := 5) (by kernel_rfl) rfl ?_
              obtain ⟨u142, hu142, hF⟩ := bindE hF
              refine wl_appendn (e := ty_82) Try.underlying40 rfl rfl rfl hB137 (hS138.sel [2, 0, 1, 3, 4] rfl) hu142 ?_
              intro v143 F144 w145 hk146 hB147 hS148
              have hSW149 := hSW140.wr' hk146.1 hk146.2.1 (fun _ _ h => List.mem_append_left _ (h))
              refine WL.nil (WH.ret hSW149 ?_)
              refine WH.takex (i := 6) rfl (by kernel_rfl) (by kernel_rfl) (by kernel_rfl) hP hSW149 ?_
              refine pr_field (o := 0) (off' := 0) ff_42_0 rfl rfl rfl ?_
              refine WH.one (i := 7) (by kernel_rfl) rfl ?_
              refine wl_store_blk (i := 3) (vs := [v143]) (cs' := [v143, v18, (.int .i64 y20), (.int .i64 y21)]) tf_40 rfl rfl (cells_one (hS148.own_ro (i := 0) rfl).one) rfl hB147 hS148 rfl rfl ⟨(hS148.own_ro (i := 0) rfl).one, trivial⟩ rfl ?_
              intro w150 hk153 hB151 hS152
              have hSW154 := hSW149.wr' hk153.1 hk153.2.1 (fun _ _ h => List.mem_append_right _ h)
              refine WL.nil (WH.ret hSW154 ?_)
              refine WH.done (by kernel_rfl) ?_
              exact fun a ha => hJ48 (u142) (v143) (F144) _ hF hB151 (hS152.sel [1, 0, 2, 3] rfl) a (ha.sub ⟨rfl, rfl, rfl, rfl, rfl, trivial⟩)
        · replace hF := ifN h39 hF
          refine W.exit ?_
          refine fun a ha => hK24 _ _ ?_ a ha
          refine W.seq fun K155 hK155 => ?_
          refine W.region ?_
          refine wl_load_blk (i := 3) (vs := [v30, v18, (.int .i64 y20), (.int .i64 y21)]) (v := (.agg #[v30, v18, (.int .i64 y20), (.int .i64 y21)])) tf_42 rfl rfl hS28 rfl rfl rfl ?_
          refine wl_store_blk (i := 0) (vs := [v30, v18, (.int .i64 y20), (.int .i64 y21)]) (cs' := [v30, v18, (.int .i64 y20), (.int .i64 y21)]) tf_42 rfl rfl rfl rfl hB27 hS28 rfl rfl ⟨(hS28.own_ro (i := 1) rfl).one, (hS28.own_ro (i := 2) rfl).one, rfl, rfl, trivial⟩ rfl ?_
          intro w156 hk159 hB157 hS158
          refine WL.nil ?_
          refine fun a ha => hK155 _ _ ?_ a ha
          refine W.ret ?_
          have hr := Option.some.inj hF
          subst hr
          exact rets (vs := [(.agg #[v30, v18, (.int .i64 y20), (.int .i64 y21)])]) hQ rfl ⟨rv_cell (i := 0) tf_42 rfl hS158 rfl rfl rfl, trivial⟩ ⟨v30, F31, v18, F19, rfl, hB157, hS158.sel [1, 2] rfl⟩
  refine W.regionH mixed_ [] hB10 hS11 ?_
  intro w160 hb161 hB162 hS163
  have hSW164 := KeepX.refl w160 []
  refine WH.takex (i := 0) rfl (by kernel_rfl) (by kernel_rfl) (by kernel_rfl) hP hSW164 ?_
  refine pr_field (o := 1) (off' := 1) ff_42_1 rfl rfl rfl ?_
  refine WH.takex (i := 1) rfl (by kernel_rfl) (by kernel_rfl) (by kernel_rfl) hP hSW164 ?_
  refine pr_load_blk (i := 1) (vs := [v0_1]) (v := v0_1) tf_24 rfl rfl hS163 rfl rfl rfl (by simp) ?_
  refine WH.takex (i := 3) rfl (by kernel_rfl) (by kernel_rfl) (by kernel_rfl) hP hSW164 ?_
  refine pr_field (o := 2) (off' := 2) ff_42_2 rfl rfl rfl ?_
  refine WH.takex (i := 4) rfl (by kernel_rfl) (by kernel_rfl) (by kernel_rfl) hP hSW164 ?_
  refine pr_load_blk (i := 1) (vs := [(.int .i64 x0.2.2.1)]) (v := (.int .i64 x0.2.2.1)) tf_3 rfl rfl hS163 rfl rfl rfl (by simp) ?_
  refine WH.takex (i := 5) rfl (by kernel_rfl) (by kernel_rfl) (by kernel_rfl) hP hSW164 ?_
  refine pr_field (o := 3) (off' := 3) ff_42_3 rfl rfl rfl ?_
  refine WH.takex (i := 6) rfl (by kernel_rfl) (by kernel_rfl) (by kernel_rfl) hP hSW164 ?_
  refine pr_load_blk (i := 1) (vs := [(.int .i64 x0.2.2.2)]) (v := (.int .i64 x0.2.2.2)) tf_3 rfl rfl hS163 rfl rfl rfl (by simp) ?_
  refine WH.many (is := [2, 8]) (by kernel_rfl) rfl ?_
  refine List.forall_mem_cons.2 ⟨⟨_, rfl, ?_⟩, List.forall_mem_cons.2 ⟨⟨_, rfl, ?_⟩, fun _ h => by cases h⟩⟩
  ·
    obtain ⟨u165, hu165, hF⟩ := bindE hF
    refine wl_call rfl Try.call31 (C_spec_l1Own w160 x0.2.1 v0_1 (h0_1.ro hB162) _ hu165) rfl ?_
    rintro _ w168 ⟨v166, F167, rfl, hb169, hM172⟩
    refine ⟨_, rfl, ?_⟩
    have hB170 := hB162.trans (hb169.mono hB162.size)
    have hS171 := hS163.join hb169 hM172 hB162.size
    have hSW173 := hSW164.ext hb169
    refine WL.nil (WH.ret hSW173 ?_)
    refine WH.takex (i := 7) rfl (by kernel_rfl) (by kernel_rfl) (by kernel_rfl) hP hSW173 ?_
    refine pr_build (zs := [(.slice none 0 0), (.slice none 0 0), (.int .i64 0), (.int .i64 0)]) (out := [(.slice none 0 0), v166, (.int .i64 x0.2.2.1), (.int .i64 x0.2.2.2)]) (vs := [v166, (.int .i64 x0.2.2.1), (.int .i64 x0.2.2.2)]) (css := [[v166], [(.int .i64 x0.2.2.1)], [(.int .i64 x0.2.2.2)]]) tf_42 pl_42 rfl rfl (by simp only [List.map_cons, List.map_nil, cells_one ((hS171.own_ro (i := 0) rfl).one)]; rfl) rfl rfl ?_
    refine WH.one (i := 8) (by kernel_rfl) rfl ?_
    refine wl_alloc (cs := [(.slice none 0 0), (.slice none 0 0), (.int .i64 0), (.int .i64 0)]) tf_42 rfl rfl (Below.self w168) (Sep.nil _ _) ?_
    intro b174 w175 hb176 hB179 hM180
    have hB177 := hB170.trans (hb176.mono hB170.size)
    have hS178 := hS171.join hb176 hM180 hB170.size
    have hn181 : ∀ b ∈ [b174], w160.heap.size ≤ b := fun b hb => Nat.le_trans hSW173.size ((hM180.1 _ (List.mem_cons_self ..)).2.1 b hb).1
    have hSW182 := hSW173.ext hb176
    refine WL.nil (WH.ret hSW182 ?_)
    refine WH.one (i := 9) (by kernel_rfl) rfl ?_
    refine wl_store_blk (i := 0) (vs := [(.slice none 0 0), v166, (.int .i64 x0.2.2.1), (.int .i64 x0.2.2.2)]) (cs' := [(.slice none 0 0), v166, (.int .i64 x0.2.2.1), (.int .i64 x0.2.2.2)]) tf_42 rfl rfl rfl rfl hB177 hS178 rfl rfl ⟨rfl, (hS178.own_ro (i := 1) rfl).one, rfl, rfl, trivial⟩ rfl ?_
    intro w183 hk186 hB184 hS185
    have hSW187 := hSW182.wr' hk186.1 hk186.2.1 (fun b hlt hb => absurd hlt (Nat.not_lt.2 (hn181 b hb)))
    have hn188 : ∀ b ∈ [b174], w160.heap.size ≤ b := fun b hb => (hk186.2.2 b hb).elim (hn181 b) fun h => Nat.le_trans hSW182.size h
    refine WL.nil (WH.ret hSW187 ?_)
    refine WH.done (by kernel_rfl) ?_
    exact fun a ha => hJ23 (u165) (x0.2.2.1) (x0.2.2.2) (v166) (F167) (b174) _ hF hB184 (hS185.sel [3, 2, 1, 0] rfl) a (ha.sub ⟨rfl, rfl, rfl, trivial⟩)
  ·
    refine wl_alloc (cs := [(.slice none 0 0), (.slice none 0 0), (.int .i64 0), (.int .i64 0)]) tf_42 rfl rfl (Below.self w160) (Sep.nil _ _) ?_
    intro b189 w190 hb191 hB194 hM195
    have hB192 := hB162.trans (hb191.mono hB162.size)
    have hS193 := hS163.join hb191 hM195 hB162.size
    have hn196 : ∀ b ∈ [b189], w160.heap.size ≤ b := fun b hb => Nat.le_trans hSW164.size ((hM195.1 _ (List.mem_cons_self ..)).2.1 b hb).1
    have hSW197 := hSW164.ext hb191
    refine WL.nil (WH.ret hSW197 ?_)
    refine WH.one (i := 2) (by kernel_rfl) rfl ?_
    obtain ⟨u198, hu198, hF⟩ := bindE hF
    refine wl_call rfl Try.call31 (C_spec_l1Own w190 x0.2.1 v0_1 (h0_1.ro hB192) _ hu198) rfl ?_
    rintro _ w201 ⟨v199, F200, rfl, hb202, hM205⟩
    refine ⟨_, rfl, ?_⟩
    have hB203 := hB192.trans (hb202.mono hB192.size)
    have hS204 := hS193.join hb202 hM205 hB192.size
    have hSW206 := hSW197.ext hb202
    refine WL.nil (WH.ret hSW206 ?_)
    refine WH.takex (i := 7) rfl (by kernel_rfl) (by kernel_rfl) (by kernel_rfl) hP hSW206 ?_
    refine pr_build (zs := [(.slice none 0 0), (.slice none 0 0), (.int .i64 0), (.int .i64 0)]) (out := [(.slice none 0 0), v199, (.int .i64 x0.2.2.1), (.int .i64 x0.2.2.2)]) (vs := [v199, (.int .i64 x0.2.2.1), (.int .i64 x0.2.2.2)]) (css := [[v199], [(.int .i64 x0.2.2.1)], [(.int .i64 x0.2.2.2)]]) tf_42 pl_42 rfl rfl (by simp only [List.map_cons, List.map_nil, cells_one ((hS204.own_ro (i := 0) rfl).one)]; rfl) rfl rfl ?_
    refine WH.one (i := 9) (by kernel_rfl) rfl ?_
    refine wl_store_blk (i := 1) (vs := [(.slice none 0 0), v199, (.int .i64 x0.2.2.1), (.int .i64 x0.2.2.2)]) (cs' := [(.slice none 0 0), v199, (.int .i64 x0.2.2.1), (.int .i64 x0.2.2.2)]) tf_42 rfl rfl rfl rfl hB203 hS204 rfl rfl ⟨rfl, (hS204.own_ro (i := 0) rfl).one, rfl, rfl, trivial⟩ rfl ?_
    intro w207 hk210 hB208 hS209
    have hSW211 := hSW206.wr' hk210.1 hk210.2.1 (fun b hlt hb => absurd hlt (Nat.not_lt.2 (hn196 b hb)))
    have hn212 : ∀ b ∈ [b189], w160.heap.size ≤ b := fun b hb => (hk210.2.2 b hb).elim (hn196 b) fun h => Nat.le_trans hSW206.size h
    refine WL.nil (WH.ret hSW211 ?_)
    refine WH.done (by kernel_rfl) ?_
    exact fun a ha => hJ23 (u198) (x0.2.2.1) (x0.2.2.2) (v199) (F200) (b189) _ hF hB208 (hS209.sel [3, 2, 0, 1] rfl) a (ha.sub ⟨rfl, rfl, rfl, trivial⟩)
theorem C_spec_mnOwn (w0 : World) (x0 : (((List (List (Int × Int))) × (List Int) × Int × Int) × Int × (List Int) × (List Int))) (v0_0 : Value) (h0_0 : rdS ty_82 (· < w0.heap.size) w0 v0_0 x0.1.1) (v0_1 : Value) (h0_1 : rdS ty_3 (· < w0.heap.size) w0 v0_1 x0.1.2.1) (v0_2 : Value) (h0_2 : rdS ty_3 (· < w0.heap.size) w0 v0_2 x0.2.2.1) (v0_3 : Value) (h0_3 : rdS ty_3 (· < w0.heap.size) w0 v0_3 x0.2.2.2) (r : (((List (List (Int × Int))) × (List Int) × Int × Int) × Int × (List Int) × (List Int))) (hF : F_spec_mnOwn x0 = some r) :
    Calls Try.prog 49 [(.agg #[v0_0, v0_1, (.int .i64 x0.1.2.2.1), (.int .i64 x0.1.2.2.2), (.int .i64 x0.2.1), v0_2, v0_3])].toArray w0 fun e w' => ∃ (q0 : Value) (G0 : List Nat) (q1 : Value) (G1 : List Nat) (q2 : Value) (G2 : List Nat) (q3 : Value) (G3 : List Nat), e = .returned (.agg #[q0, q1, (.int .i64 r.1.2.2.1), (.int .i64 r.1.2.2.2), (.int .i64 r.2.1), q2, q3]) ∧ Below w0.heap.size w0 w' ∧ Sep w0.heap.size w' [R.own ty_82 G0 q0 r.1.1, R.own ty_3 G1 q1 r.1.2.1, R.own ty_3 G2 q2 r.2.2.1, R.own ty_3 G3 q3 r.2.2.2] := by
  refine calls_mk' Try.func49 rfl Try.ntmps49 rfl rfl fun Q hQ hP => ?_
  have hB : Below w0.heap.size w0 w0 := Below.refl _ _
  have hS : Sep w0.heap.size w0 [] := Sep.nil _ _
  unfold F_spec_mnOwn at hF
  refine W.seq fun K1 hK1 => ?_
  refine W.region ?_
  refine wl_box (cs := [v0_0, v0_1, (.int .i64 x0.1.2.2.1), (.int .i64 x0.1.2.2.2), (.int .i64 x0.2.1), v0_2, v0_3]) rfl rfl rfl hB hS ?_
  intro b2 w3 hb4 hB5 hS6
  refine wl_alloc (cs := [(.slice none 0 0), (.slice none 0 0), (.int .i64 0), (.int .i64 0), (.int .i64 0), (.slice none 0 0), (.slice none 0 0)]) tf_44 rfl rfl hB5 hS6 ?_
  intro b7 w8 hb9 hB10 hS11
  refine WL.nil ?_
  refine fun a ha => hK1 _ _ ?_ a ha
  refine W.seq fun K12 hK12 => ?_
  refine W.regionH mixed_ [b7] hB10 hS11 ?_
  intro w13 hb14 hB15 hS16
  have hSW17 := KeepX.refl w13 [b7]
  refine WH.takex (i := 0) rfl (by kernel_rfl) (by kernel_rfl) (by kernel_rfl) hP hSW17 ?_
  refine pr_field (o := 0) (off' := 0) ff_44_0 rfl rfl rfl ?_
  refine WH.takex (i := 1) rfl (by kernel_rfl) (by kernel_rfl) (by kernel_rfl) hP hSW17 ?_
  refine pr_load_blk (i := 1) (vs := [v0_0, v0_1, (.int .i64 x0.1.2.2.1), (.int .i64 x0.1.2.2.2)]) (v := (.agg #[v0_0, v0_1, (.int .i64 x0.1.2.2.1), (.int .i64 x0.1.2.2.2)])) tf_42 rfl rfl hS16 rfl rfl rfl (hS16.disj (i := 1) (j := 0) rfl rfl rfl b2 (by simp [R.blk])) ?_
  refine WH.takex (i := 3) rfl (by kernel_rfl) (by kernel_rfl) (by kernel_rfl) hP hSW17 ?_
  refine pr_field (o := 4) (off' := 4) ff_44_1 rfl rfl rfl ?_
  refine WH.takex (i := 4) rfl (by kernel_rfl) (by kernel_rfl) (by kernel_rfl) hP hSW17 ?_
  refine pr_load_blk (i := 1) (vs := [(.int .i64 x0.2.1)]) (v := (.int .i64 x0.2.1)) tf_3 rfl rfl hS16 rfl rfl rfl (hS16.disj (i := 1) (j := 0) rfl rfl rfl b2 (by simp [R.blk])) ?_
  refine WH.takex (i := 5) rfl (by kernel_rfl) (by kernel_rfl) (by kernel_rfl) hP hSW17 ?_
  refine pr_field (o := 5) (off' := 5) ff_44_2 rfl rfl rfl ?_
  refine WH.takex (i := 6) rfl (by kernel_rfl) (by kernel_rfl) (by kernel_rfl) hP hSW17 ?_
  refine pr_load_blk (i := 1) (vs := [v0_2]) (v := v0_2) tf_24 rfl rfl hS16 rfl rfl rfl (hS16.disj (i := 1) (j := 0) rfl rfl rfl b2 (by simp [R.blk])) ?_
  refine WH.takex (i := 8) rfl (by kernel_rfl) (by kernel_rfl) (by kernel_rfl) hP hSW17 ?_
  refine pr_field (o := 6) (off' := 6) ff_44_3 rfl rfl rfl ?_
  refine WH.takex (i := 9) rfl (by kernel_rfl) (by kernel_rfl) (by kernel_rfl) hP hSW17 ?_
  refine pr_load_blk (i := 1) (vs := [v0_3]) (v := v0_3) tf_24 rfl rfl hS16 rfl rfl rfl (hS16.disj (i := 1) (j := 0) rfl rfl rfl b2 (by simp [R.blk])) ?_
  refine WH.one (i := 2) (by kernel_rfl) rfl ?_
  obtain ⟨u18, hu18, hF⟩ := bindE hF
  refine wl_call rfl Try.call84 (C_spec_swOwn w13 x0.1 v0_0 (h0_0.ro hB15) v0_1 (h0_1.ro hB15) _ hu18) rfl ?_
  rintro _ w23 ⟨v19, F20, v21, F22, rfl, hb24, hM27⟩
  refine ⟨_, rfl, ?_⟩
  have hB25 := hB15.trans (hb24.mono hB15.size)
  have hS26 := hS16.join hb24 hM27 hB15.size
  have hSW28 := hSW17.ext hb24
  have hbS29 : Below w13.heap.size w13 w23 := hb24
  refine WL.nil (WH.ret hSW28 ?_)
  refine WH.one (i := 7) (by kernel_rfl) rfl ?_
  obtain ⟨u30, hu30, hF⟩ := bindE hF
  refine wl_call rfl Try.call31 (C_spec_l1Own w23 x0.2.2.1 v0_2 (h0_2.ro hB25) _ hu30) rfl ?_
  rintro _ w33 ⟨v31, F32, rfl, hb34, hM37⟩
  refine ⟨_, rfl, ?_⟩
  have hB35 := hB25.trans (hb34.mono hB25.size)
  have hS36 := hS26.join hb34 hM37 hB25.size
  have hSW38 := hSW28.ext hb34
  have hbS39 : Below w13.heap.size w13 w33 := hbS29.trans (hb34.mono hbS29.size)
  refine WL.nil (WH.ret hSW38 ?_)
  refine WH.one (i := 10) (by kernel_rfl) rfl ?_
  obtain ⟨u40, hu40, hF⟩ := bindE hF
  refine wl_call rfl Try.call31 (C_spec_l1Own w33 x0.2.2.2 v0_3 (h0_3.ro hB35) _ hu40) rfl ?_
  rintro _ w43 ⟨v41, F42, rfl, hb44, hM47⟩
  refine ⟨_, rfl, ?_⟩
  have hB45 := hB35.trans (hb44.mono hB35.size)
  have hS46 := hS36.join hb44 hM47 hB35.size
  have hSW48 := hSW38.ext hb44
  have hbS49 : Below w13.heap.size w13 w43 := hbS39.trans (hb44.mono hbS39.size)
  refine WL.nil (WH.ret hSW48 ?_)
  refine WH.takex (i := 11) rfl (by kernel_rfl) (by kernel_rfl) (by kernel_rfl) hP hSW48 ?_
  refine pr_build (zs := [(.slice none 0 0), (.slice none 0 0), (.int .i64 0), (.int .i64 0), (.int .i64 0), (.slice none 0 0), (.slice none 0 0)]) (out := [v19, v21, (.int .i64 u18.2.2.1), (.int .i64 u18.2.2.2), (.int .i64 x0.2.1), v31, v41]) (vs := [(.agg #[v19, v21, (.int .i64 u18.2.2.1), (.int .i64 u18.2.2.2)]), (.int .i64 x0.2.1), v31, v41]) (css := [[v19, v21, (.int .i64 u18.2.2.1), (.int .i64 u18.2.2.2)], [(.int .i64 x0.2.1)], [v31], [v41]]) tf_44 pl_44 rfl rfl (by simp only [List.map_cons, List.map_nil, cells_one ((hS46.own_ro (i := 1) rfl).one), cells_one ((hS46.own_ro (i := 0) rfl).one)]; rfl) rfl rfl ?_
  refine WH.one (i := 12) (by kernel_rfl) rfl ?_
  refine wl_store_blk (i := 4) (vs := [v19, v21, (.int .i64 u18.2.2.1), (.int .i64 u18.2.2.2), (.int .i64 x0.2.1), v31, v41]) (cs' := [v19, v21, (.int .i64 u18.2.2.1), (.int .i64 u18.2.2.2), (.int .i64 x0.2.1), v31, v41]) tf_44 rfl rfl rfl rfl hB45 hS46 rfl rfl ⟨(hS46.own_ro (i := 2) rfl).one, (hS46.own_ro (i := 3) rfl).one, rfl, rfl, rfl, (hS46.own_ro (i := 1) rfl).one, (hS46.own_ro (i := 0) rfl).one, trivial⟩ rfl ?_
  intro w50 hk53 hB51 hS52
  have hSW54 := hSW48.wr' hk53.1 hk53.2.1 (fun _ _ h => h)
  refine WL.nil (WH.ret hSW54 ?_)
  refine WH.done (by kernel_rfl) ?_
  refine fun a ha => hK12 _ _ ?_ a ha
  refine W.ret ?_
  have hr := Option.some.inj hF
  subst hr
  exact rets (vs := [(.agg #[v19, v21, (.int .i64 u18.2.2.1), (.int .i64 u18.2.2.2), (.int .i64 x0.2.1), v31, v41])]) hQ rfl ⟨rv_cell (i := 4) tf_44 rfl hS52 rfl rfl rfl, trivial⟩ ⟨v19, F20, v21, F22, v31, F32, v41, F42, rfl, hB51, hS52.sel [2, 3, 1, 0] rfl⟩
theorem C_spec_l1Has (w0 : World) (x0 : (List Int)) (v0_0 : Value) (h0_0 : rdS ty_3 (· < w0.heap.size) w0 v0_0 x0) (x1 : Int) (r : Bool) (hF : F_spec_l1Has x0 x1 = some r) :
    Calls Try.prog 85 [v0_0, (.int .i64 x1)].toArray w0 fun e w' => e = .returned (.bool r) ∧ Below w0.heap.size w0 w' := by
  refine calls_mk' Try.func85 rfl Try.ntmps85 rfl rfl fun Q hQ hP => ?_
  have hB : Below w0.heap.size w0 w0 := Below.refl _ _
  have hS : Sep w0.heap.size w0 [] := Sep.nil _ _
  unfold F_spec_l1Has at hF
  refine W.seq fun K1 hK1 => ?_
  refine W.region ?_
  refine wl_assign rfl rfl ?_
  refine WL.nil ?_
  refine fun a ha => hK1 _ _ ?_ a ha
  refine W.seq fun K2 hK2 => ?_
  refine W.seq fun K3 hK3 => ?_
  refine W.region ?_
  refine wl_move rfl rfl ?_
  refine wl_lenr (e := ty_3) (l := x0) Try.underlying24 rfl rfl h0_0 ?_
  refine wl_move rfl rfl ?_
  refine WL.nil ?_
  refine fun a ha => hK3 _ _ ?_ a ha
  refine W.block ?_
  refine W.loopk (fun m a w4 => ∃ (y7 : Int), St 17 [(1, (.int .i64 x1)), (7, v0_0), (8, (.int .i64 (List.length x0 : Int))), (9, (.int .i64 y7))] a ∧ Below w0.heap.size w0 w4 ∧ Sep w0.heap.size w4 [] ∧ F_spec_l1Has_L1 x0 x1 m y7 = some r) FU ?_ ?_
  ·
    exact fun a ha => ⟨0, ha.sub ⟨rfl, rfl, rfl, rfl, trivial⟩, hB, (hS.sel [] rfl), hF⟩
  ·
    rintro m10 a w4 ⟨y7, ha, hB5, hS6, hF⟩ KL9 hKL9
    refine W.at ?_ ha
    cases m10 with
    | zero => exact noneE hF
    | succ m10 =>
      obtain ⟨nx8, hnx8⟩ : ∃ k, k = F_spec_l1Has_L1 x0 x1 m10 := ⟨_, rfl⟩
      rw [F_spec_l1Has_L1, ← hnx8] at hF
      refine W.seq fun K11 hK11 => ?_
      refine W.region ?_
      refine wl_lss rfl rfl rfl ?_
      refine WL.nil ?_
      refine fun a ha => hK11 _ _ ?_ a ha
      refine W.seq fun K12 hK12 => ?_
      refine W.cond rfl (fun h13 => ?_) (fun h13 => ?_)
      · replace hF := ifP h13 hF
        refine W.skip ?_
        refine fun a ha => hK12 _ _ ?_ a ha
        refine W.seq fun K14 hK14 => ?_
        refine W.block ?_
        refine W.seq fun K15 hK15 => ?_
        refine W.region ?_
        obtain ⟨u16, hu16, hF⟩ := bindE hF
        refine wl_index (e := ty_3) Try.underlying24 rfl rfl rfl h0_0 hu16 ?_
        rintro p17 _ rfl hp18
        refine wl_load_p (vs := [(.int .i64 u16)]) (v := (.int .i64 u16)) tf_3 rfl rfl (hp18.ro hB5) rfl rfl ?_
        refine wl_assign rfl rfl ?_
        refine WL.nil ?_
        refine fun a ha => hK15 _ _ ?_ a ha
        refine W.seq fun K19 hK19 => ?_
        refine W.region ?_
        refine wl_move rfl rfl ?_
        refine wl_move rfl rfl ?_
        refine wl_eql rfl rfl rfl ?_
        refine WL.nil ?_
        refine fun a ha => hK19 _ _ ?_ a ha
        refine W.cond rfl (fun h20 => ?_) (fun h20 => ?_)
        · replace hF := ifP h20 hF
          refine W.seq fun K21 hK21 => ?_
          refine W.region ?_
          refine wl_assign rfl rfl ?_
          refine WL.nil ?_
          refine fun a ha => hK21 _ _ ?_ a ha
          refine W.ret ?_
          have hr := Option.some.inj hF
          subst hr
          exact rets (vs := [(.bool true)]) hQ rfl ⟨rv_tmp rfl, trivial⟩ ⟨rfl, hB5⟩
        · replace hF := ifN h20 hF
          refine W.skip ?_
          refine fun a ha => hK14 _ _ ?_ a ha
          refine W.region ?_
          refine wl_add rfl rfl rfl ?_
          refine wl_move rfl rfl ?_
          refine WL.nil ?_
          rw [hnx8] at hF
          exact fun a ha => hKL9 a _ m10 (Nat.lt_succ_self m10) ⟨(w64 (y7 + 1)), ha.sub ⟨rfl, rfl, rfl, rfl, trivial⟩, hB5, (hS6.sel [] rfl), hF⟩
      · replace hF := ifN h13 hF
        refine W.exit ?_
        refine fun a ha => hK2 _ _ ?_ a ha
        refine W.seq fun K22 hK22 => ?_
        refine W.region ?_
        refine wl_assign rfl rfl ?_
        refine WL.nil ?_
        refine fun a ha => hK22 _ _ ?_ a ha
        refine W.ret ?_
        have hr := Option.some.inj hF
        subst hr
        exact rets (vs := [(.bool false)]) hQ rfl ⟨rv_tmp rfl, trivial⟩ ⟨rfl, hB5⟩
theorem C_spec_l1Put__take (w0 : World) (x0 : (List Int)) (v0_0 : Value) (B0_0 : List Nat) (x1 : Int) (hS0 : Sep 0 w0 [R.own ty_3 B0_0 v0_0 x0]) (r : (List Int)) (hF : F_spec_l1Put__take x0 x1 = some r) :
    Calls Try.prog 86 [v0_0, (.int .i64 x1)].toArray w0 fun e w' => ∃ (q0 : Value) (G0 : List Nat), e = .returned q0 ∧ Below 0 (wE w0) w' ∧ Sep 0 w' [R.rest w0 (fps [R.own ty_3 B0_0 v0_0 x0]), R.own ty_3 G0 q0 r] := by
  refine calls_mk' Try.func86 rfl Try.ntmps86 rfl rfl fun Q hQ hP => ?_
  have hB : Below (wE w0).heap.size (wE w0) w0 := wE_below w0
  have hS : Sep (wE w0).heap.size w0 [R.rest w0 (fps [R.own ty_3 B0_0 v0_0 x0]), R.own ty_3 B0_0 v0_0 x0] := hS0.rest
  unfold F_spec_l1Put__take at hF
  refine W.seq fun K1 hK1 => ?_
  refine W.region ?_
  refine wl_assign rfl rfl ?_
  refine WL.nil ?_
  refine fun a ha => hK1 _ _ ?_ a ha
  refine W.seq fun K2 hK2 => ?_
  refine W.region ?_
  refine wl_assign rfl rfl ?_
  refine WL.nil ?_
  refine fun a ha => hK2 _ _ ?_ a ha
  refine W.seq fun K3 hK3 => ?_
  refine W.block ?_
  refine W.loopk (fun m a w4 => ∃ (y7 : Int), St 48 [(0, v0_0), (1, (.int .i64 x1)), (5, (.int .i64 y7))] a ∧ Below (wE w0).heap.size (wE w0) w4 ∧ Sep (wE w0).heap.size w4 [R.rest w0 (fps [R.own ty_3 B0_0 v0_0 x0]), R.own ty_3 B0_0 v0_0 x0] ∧ F_spec_l1Put__take_L1 x0 x1 m y7 = some r) FU ?_ ?_
  ·
    exact fun a ha => ⟨0, ha.sub ⟨rfl, rfl, rfl, trivial⟩, hB, (hS.sel [0, 1] rfl), hF⟩
  ·
    rintro m10 a w4 ⟨y7, ha, hB5, hS6, hF⟩ KL9 hKL9
    refine W.at ?_ ha
    cases m10 with
    | zero => exact noneE hF
    | succ m10 =>
      obtain ⟨nx8, hnx8⟩ : ∃ k, k = F_spec_l1Put__take_L1 x0 x1 m10 := ⟨_, rfl⟩
      rw [F_spec_l1Put__take_L1, ← hnx8] at hF
      refine W.seq fun K11 hK11 => ?_
      refine W.seq fun K12 hK12 => ?_
      obtain ⟨k17, hk17, hF⟩ := jE1 hF
      have hJ18 : ∀ (y16 : Bool) (w13 : World) (_ : k17 y16 = some r) (_ : Below (wE w0).heap.size (wE w0) w13) (_ : Sep (wE w0).heap.size w13 [R.rest w0 (fps [R.own ty_3 B0_0 v0_0 x0]), R.own ty_3 B0_0 v0_0 x0]), ∀ a, St 48 [(0, v0_0), (1, (.int .i64 x1)), (5, (.int .i64 y7)), (18, (.bool y16))] a → K12 a w13 := by
        intro y16 w13 hF hB14 hS15
        subst hk17
        refine fun a ha => hK12 _ _ ?_ a ha
        refine W.cond rfl (fun h19 => ?_) (fun h19 => ?_)
        · replace hF := ifP h19 hF
          refine W.skip ?_
          refine fun a ha => hK11 _ _ ?_ a ha
          refine W.block ?_
          refine W.region ?_
          refine wl_move rfl rfl ?_
          refine wl_add rfl rfl rfl ?_
          refine wl_assign rfl rfl ?_
          refine WL.nil ?_
          rw [hnx8] at hF
          exact fun a ha => hKL9 a _ m10 (Nat.lt_succ_self m10) ⟨(w64 (y7 + 1)), ha.sub ⟨rfl, rfl, rfl, trivial⟩, hB14, (hS15.sel [0, 1] rfl), hF⟩
        · replace hF := ifN h19 hF
          refine W.exit ?_
          refine fun a ha => hK3 _ _ ?_ a ha
          refine W.seq fun K20 hK20 => ?_
          refine W.seq fun K21 hK21 => ?_
          obtain ⟨k26, hk26, hF⟩ := jE1 hF
          have hJ27 : ∀ (y25 : Bool) (w22 : World) (_ : k26 y25 = some r) (_ : Below (wE w0).heap.size (wE w0) w22) (_ : Sep (wE w0).heap.size w22 [R.rest w0 (fps [R.own ty_3 B0_0 v0_0 x0]), R.own ty_3 B0_0 v0_0 x0]), ∀ a, St 48 [(0, v0_0), (1, (.int .i64 x1)), (5, (.int .i64 y7)), (32, (.bool y25))] a → K21 a w22 := by
            intro y25 w22 hF hB23 hS24
            subst hk26
            refine fun a ha => hK21 _ _ ?_ a ha
            refine W.cond rfl (fun h28 => ?_) (fun h28 => ?_)
            · replace hF := ifP h28 hF
              refine W.seq fun K29 hK29 => ?_
              refine W.region ?_
              refine wl_move rfl rfl ?_
              refine wl_assign rfl rfl ?_
              refine WL.nil ?_
              refine fun a ha => hK29 _ _ ?_ a ha
              refine W.ret ?_
              have hr := Option.some.inj hF
              subst hr
              exact rets (vs := [v0_0]) hQ rfl ⟨rv_tmp rfl, trivial⟩ ⟨v0_0, B0_0, rfl, hB23, hS24.sel [0, 1] rfl⟩
            · replace hF := ifN h28 hF
              refine W.skip ?_
              refine fun a ha => hK20 _ _ ?_ a ha
              refine W.seq fun K30 hK30 => ?_
              refine W.region ?_
              refine wl_lit (vs := []) (l := []) fl_3 Try.underlying24 rfl rfl rfl rfl rfl rfl hB23 hS24 ?_
              intro v31 F32 w33 hb34 hB35 hS36
              refine wl_move rfl rfl ?_
              refine wl_move rfl rfl ?_
              obtain ⟨u37, hu37, hF⟩ := bindE hF
              refine wl_sliceof (e := ty_3) Try.underlying24 rfl rfl (hS36.ok (i := 2) rfl : ownS ty_3 _ _ _ _).rd hu37 (.inl ⟨rfl, rfl⟩) (.inr ⟨_, _, rfl, rfl⟩) ?_
              intro v38 hv41 hs40
              have hv39 := hv41.mono fun b hb => ((hS36.get (i := 2) rfl).2.1 b hb).2
              obtain ⟨u42, hu42, hF⟩ := bindE hF
              refine wl_append (i := 0) (S := (· < w33.heap.size)) fl_3 Try.underlying24 rfl rfl rfl hB35 hS36 rfl hv39 hu42 ?_
              intro v43 F44 w45 hk46 hB47 hS48
              refine wl_assign rfl rfl ?_
              refine WL.nil ?_
              refine fun a ha => hK30 _ _ ?_ a ha
              refine W.seq fun K49 hK49 => ?_
              refine W.region ?_
              refine wl_move rfl rfl ?_
              refine wl_move rfl rfl ?_
              refine wl_lit (vs := [(.int .i64 x1)]) (l := [x1]) fl_3 Try.underlying24 rfl rfl rfl rfl rfl rfl hB47 hS48 ?_
              intro v50 F51 w52 hb53 hB54 hS55
              obtain ⟨u56, hu56, hF⟩ := bindE hF
              refine wl_append (i := 1) (S := (· < w52.heap.size)) fl_3 Try.underlying24 rfl rfl rfl hB54 hS55 rfl (hS55.own_ro (i := 0) rfl) hu56 ?_
              intro v57 F58 w59 hk60 hB61 hS62
              refine wl_assign rfl rfl ?_
              refine WL.nil ?_
              refine fun a ha => hK49 _ _ ?_ a ha
              refine W.seq fun K63 hK63 => ?_
              refine W.region ?_
              refine wl_move rfl rfl ?_
              refine wl_move rfl rfl ?_
              refine wl_move rfl rfl ?_
              obtain ⟨u64, hu64, hF⟩ := bindE hF
              refine wl_sliceof (e := ty_3) Try.underlying24 rfl rfl (hS62.ok (i := 3) rfl : ownS ty_3 _ _ _ _).rd hu64 (.inr ⟨_, _, rfl, rfl⟩) (.inl ⟨rfl, rfl⟩) ?_
              intro v65 hv68 hs67
              have hv66 := hv68.mono fun b hb => ((hS62.get (i := 3) rfl).2.1 b hb).2
              obtain ⟨u69, hu69, hF⟩ := bindE hF
              refine wl_append (i := 1) (S := (· < w59.heap.size)) fl_3 Try.underlying24 rfl rfl rfl hB61 hS62 rfl hv66 hu69 ?_
              intro v70 F71 w72 hk73 hB74 hS75
              refine wl_assign rfl rfl ?_
              refine WL.nil ?_
              refine fun a ha => hK63 _ _ ?_ a ha
              refine W.ret ?_
              have hr := Option.some.inj hF
              subst hr
              exact rets (vs := [v70]) hQ rfl ⟨rv_tmp rfl, trivial⟩ ⟨v70, F71, rfl, hB74, hS75.sel [2, 1] rfl⟩
          refine W.region ?_
          refine wl_move rfl rfl ?_
          refine wl_move rfl rfl ?_
          refine wl_lenr (e := ty_3) (l := x0) Try.underlying24 rfl rfl (hS15.own_ro (i := 1) rfl) ?_
          refine wl_lss rfl rfl rfl ?_
          refine wl_move rfl rfl ?_
          rcases bE (decide (y7 < (List.length x0 : Int))) with h76 | h76
          · replace hF := ifP h76 hF
            refine wl_on rfl rfl h76 ?_
            refine wl_move rfl rfl ?_
            refine wl_on rfl rfl h76 ?_
            refine wl_move rfl rfl ?_
            refine wl_on rfl rfl h76 ?_
            obtain ⟨u77, hu77, hF⟩ := bindE hF
            refine wl_indexo (e := ty_3) (i := 1) Try.underlying24 rfl rfl rfl hS15 rfl hu77 ?_
            rintro p78 _ rfl hp79 ho80
            refine wl_on rfl rfl h76 ?_
            refine wl_load_p (vs := [(.int .i64 u77)]) (v := (.int .i64 u77)) tf_3 rfl rfl hp79 rfl rfl ?_
            refine wl_on rfl rfl h76 ?_
            refine wl_move rfl rfl ?_
            refine wl_on rfl rfl h76 ?_
            refine wl_eql rfl rfl rfl ?_
            refine wl_pick_t rfl rfl h76 rfl ?_
            refine WL.nil ?_
            exact fun a ha => hJ27 ((u77 == x1)) _ hF hB14 (hS15.sel [0, 1] rfl) a (ha.sub ⟨rfl, rfl, rfl, rfl, trivial⟩)
          · replace hF := ifN h76 hF
            refine wl_off rfl rfl rfl h76 ?_
            refine wl_off rfl rfl rfl h76 ?_
            refine wl_off rfl rfl rfl h76 ?_
            refine wl_off rfl rfl rfl h76 ?_
            refine wl_off rfl rfl rfl h76 ?_
            refine wl_off rfl rfl rfl h76 ?_
            refine wl_pick_f rfl rfl h76 rfl ?_
            refine WL.nil ?_
            exact fun a ha => hJ27 (false) _ hF hB14 (hS15.sel [0, 1] rfl) a (ha.sub ⟨rfl, rfl, rfl, rfl, trivial⟩)
      refine W.region ?_
      refine wl_move rfl rfl ?_
      refine wl_move rfl rfl ?_
      refine wl_lenr (e := ty_3) (l := x0) Try.underlying24 rfl rfl (hS6.own_ro (i := 1) rfl) ?_
      refine wl_lss rfl rfl rfl ?_
      refine wl_move rfl rfl ?_
      rcases bE (decide (y7 < (List.length x0 : Int))) with h81 | h81
      · replace hF := ifP h81 hF
        refine wl_on rfl rfl h81 ?_
        refine wl_move rfl rfl ?_
        refine wl_on rfl rfl h81 ?_
        refine wl_move rfl rfl ?_
        refine wl_on rfl rfl h81 ?_
        obtain ⟨u82, hu82, hF⟩ := bindE hF
        refine wl_indexo (e := ty_3) (i := 1) Try.underlying24 rfl rfl rfl hS6 rfl hu82 ?_
        rintro p83 _ rfl hp84 ho85
        refine wl_on rfl rfl h81 ?_
        refine wl_load_p (vs := [(.int .i64 u82)]) (v := (.int .i64 u82)) tf_3 rfl rfl hp84 rfl rfl ?_
        refine wl_on rfl rfl h81 ?_
        refine wl_move rfl rfl ?_
        refine wl_on rfl rfl h81 ?_
        refine wl_lss rfl rfl rfl ?_
        refine wl_pick_t rfl rfl h81 rfl ?_
        refine WL.nil ?_
        exact fun a ha => hJ18 ((decide (u82 < x1))) _ hF hB5 (hS6.sel [0, 1] rfl) a (ha.sub ⟨rfl, rfl, rfl, rfl, trivial⟩)
      · replace hF := ifN h81 hF
        refine wl_off rfl rfl rfl h81 ?_
        refine wl_off rfl rfl rfl h81 ?_
        refine wl_off rfl rfl rfl h81 ?_
        refine wl_off rfl rfl rfl h81 ?_
        refine wl_off rfl rfl rfl h81 ?_
        refine wl_off rfl rfl rfl h81 ?_
        refine wl_pick_f rfl rfl h81 rfl ?_
        refine WL.nil ?_
        exact fun a ha => hJ18 (false) _ hF hB5 (hS6.sel [0, 1] rfl) a (ha.sub ⟨rfl, rfl, rfl, rfl, trivial⟩)
theorem C_spec_mnStep (w0 : World) (x0 : (((List (List (Int × Int))) × (List Int) × Int × Int) × Int × (List Int) × (List Int))) (v0_0 : Value) (h0_0 : rdS ty_82 (· < w0.heap.size) w0 v0_0 x0.1.1) (v0_1 : Value) (h0_1 : rdS ty_3 (· < w0.heap.size) w0 v0_1 x0.1.2.1) (v0_2 : Value) (h0_2 : rdS ty_3 (· < w0.heap.size) w0 v0_2 x0.2.2.1) (v0_3 : Value) (h0_3 : rdS ty_3 (· < w0.heap.size) w0 v0_3 x0.2.2.2) (x1 : (Int × Int)) (r : ((((List (List (Int × Int))) × (List Int) × Int × Int) × Int × (List Int) × (List Int)) × Bool)) (hF : F_spec_mnStep x0 x1 = some r) :
    Calls Try.prog 50 [(.agg #[v0_0, v0_1, (.int .i64 x0.1.2.2.1), (.int .i64 x0.1.2.2.2), (.int .i64 x0.2.1), v0_2, v0_3]), (.agg #[(.int .i64 x1.1), (.int .i64 x1.2)])].toArray w0 fun e w' => ∃ (q0 : Value) (G0 : List Nat) (q1 : Value) (G1 : List Nat) (q2 : Value) (G2 : List Nat) (q3 : Value) (G3 : List Nat), e = .returned (.tuple #[(.agg #[q0, q1, (.int .i64 r.1.1.2.2.1), (.int .i64 r.1.1.2.2.2), (.int .i64 r.1.2.1), q2, q3]), (.bool r.2)]) ∧ Below w0.heap.size w0 w' ∧ Sep w0.heap.size w' [R.own ty_82 G0 q0 r.1.1.1, R.own ty_3 G1 q1 r.1.1.2.1, R.own ty_3 G2 q2 r.1.2.2.1, R.own ty_3 G3 q3 r.1.2.2.2] := by
  refine calls_mk' Try.func50 rfl Try.ntmps50 rfl rfl fun Q hQ hP => ?_
  have hB : Below w0.heap.size w0 w0 := Below.refl _ _
  have hS : Sep w0.heap.size w0 [] := Sep.nil _ _
  unfold F_spec_mnStep at hF
  refine W.seq fun K1 hK1 => ?_
  refine W.region ?_
  refine wl_box (cs := [v0_0, v0_1, (.int .i64 x0.1.2.2.1), (.int .i64 x0.1.2.2.2), (.int .i64 x0.2.1), v0_2, v0_3]) rfl rfl rfl hB hS ?_
  intro b2 w3 hb4 hB5 hS6
  refine wl_box (cs := [(.int .i64 x1.1), (.int .i64 x1.2)]) rfl rfl rfl hB5 hS6 ?_
  intro b7 w8 hb9 hB10 hS11
  refine wl_alloc (cs := [(.slice none 0 0), (.slice none 0 0), (.int .i64 0), (.int .i64 0), (.int .i64 0), (.slice none 0 0), (.slice none 0 0)]) tf_44 rfl rfl hB10 hS11 ?_
  intro b12 w13 hb14 hB15 hS16
  refine wl_assign rfl rfl ?_
  refine WL.nil ?_
  refine fun a ha => hK1 _ _ ?_ a ha
  refine W.seq fun K17 hK17 => ?_
  refine W.seq fun K18 hK18 => ?_
  refine W.region ?_
  refine wl_field (o := 1) (off' := 1) ff_71_1 rfl rfl rfl ?_
  refine wl_load_blk (i := 1) (vs := [(.int .i64 x1.2)]) (v := (.int .i64 x1.2)) tf_3 rfl rfl hS16 rfl rfl rfl ?_
  refine wl_field (o := 6) (off' := 6) ff_44_3 rfl rfl rfl ?_
  refine wl_load_blk (i := 2) (vs := [v0_3]) (v := v0_3) tf_24 rfl rfl hS16 rfl rfl rfl ?_
  refine wl_lenr (e := ty_3) (l := x0.2.2.2) Try.underlying24 rfl rfl h0_3 ?_
  refine wl_sub rfl rfl rfl ?_
  obtain ⟨u19, hu19, hF⟩ := bindE hF
  refine wl_call rfl Try.call57 (C_spec_l1In w13 x1.2 0 (w64 ((List.length x0.2.2.2 : Int) - 1)) _ hu19) rfl ?_
  rintro _ w20 ⟨rfl, hb21⟩
  refine ⟨_, rfl, ?_⟩
  have hB22 := hB15.trans (hb21.mono hB15.size)
  have hS23 := hS16.below hb21
  refine wl_not rfl rfl ?_
  refine WL.nil ?_
  refine fun a ha => hK18 _ _ ?_ a ha
  refine W.cond rfl (fun h25 => ?_) (fun h25 => ?_)
  · replace hF := ifP h25 hF
    refine W.seq fun K26 hK26 => ?_
    refine W.region ?_
    refine wl_build (zs := [(.slice none 0 0), (.slice none 0 0), (.int .i64 0), (.int .i64 0), (.int .i64 0), (.slice none 0 0), (.slice none 0 0)]) (out := [(.slice none 0 0), (.slice none 0 0), (.int .i64 0), (.int .i64 0), (.int .i64 0), (.slice none 0 0), (.slice none 0 0)]) (vs := []) (css := []) tf_44 pl_44 rfl rfl rfl rfl rfl ?_
    refine wl_store_blk (i := 0) (vs := [(.slice none 0 0), (.slice none 0 0), (.int .i64 0), (.int .i64 0), (.int .i64 0), (.slice none 0 0), (.slice none 0 0)]) (cs' := [(.slice none 0 0), (.slice none 0 0), (.int .i64 0), (.int .i64 0), (.int .i64 0), (.slice none 0 0), (.slice none 0 0)]) tf_44 rfl rfl rfl rfl hB22 hS23 rfl rfl ⟨rfl, rfl, rfl, rfl, rfl, rfl, rfl, trivial⟩ rfl ?_
    intro w27 hk30 hB28 hS29
    refine wl_assign rfl rfl ?_
    refine WL.nil ?_
    refine fun a ha => hK26 _ _ ?_ a ha
    refine W.ret ?_
    have hS31 := hS29.push0 (r := R.own ty_82 [] (.slice none 0 0) []) rfl fun _ => .inl ⟨rfl, rfl, rfl⟩
    have hS32 := hS31.push0 (r := R.own ty_3 [] (.slice none 0 0) []) rfl fun _ => .inl ⟨rfl, rfl, rfl⟩
    have hS33 := hS32.push0 (r := R.own ty_3 [] (.slice none 0 0) []) rfl fun _ => .inl ⟨rfl, rfl, rfl⟩
    have hS34 := hS33.push0 (r := R.own ty_3 [] (.slice none 0 0) []) rfl fun _ => .inl ⟨rfl, rfl, rfl⟩
    have hr := Option.some.inj hF
    subst hr
    exact rets (vs := [(.agg #[(.slice none 0 0), (.slice none 0 0), (.int .i64 0), (.int .i64 0), (.int .i64 0), (.slice none 0 0), (.slice none 0 0)]), (.bool false)]) hQ rfl ⟨rv_cell (i := 0) tf_44 rfl hS29 rfl rfl rfl, rv_tmp rfl, trivial⟩ ⟨(.slice none 0 0), [], (.slice none 0 0), [], (.slice none 0 0), [], (.slice none 0 0), [], rfl, hB28, hS34.sel [3, 2, 1, 0] rfl⟩
  · replace hF := ifN h25 hF
    refine W.skip ?_
    refine fun a ha => hK17 _ _ ?_ a ha
    refine W.seq fun K35 hK35 => ?_
    refine W.region ?_
    refine wl_load_blk (i := 2) (vs := [v0_0, v0_1, (.int .i64 x0.1.2.2.1), (.int .i64 x0.1.2.2.2), (.int .i64 x0.2.1), v0_2, v0_3]) (v := (.agg #[v0_0, v0_1, (.int .i64 x0.1.2.2.1), (.int .i64 x0.1.2.2.2), (.int .i64 x0.2.1), v0_2, v0_3])) tf_44 rfl rfl hS23 rfl rfl rfl ?_
    obtain ⟨u36, hu36, hF⟩ := bindE hF
    refine wl_call rfl Try.call49 (C_spec_mnOwn w20 x0 v0_0 (h0_0.ro hB22) v0_1 (h0_1.ro hB22) v0_2 (h0_2.ro hB22) v0_3 (h0_3.ro hB22) _ hu36) rfl ?_
    rintro _ w45 ⟨v37, F38, v39, F40, v41, F42, v43, F44, rfl, hb46, hM49⟩
    refine ⟨_, rfl, ?_⟩
    have hB47 := hB22.trans (hb46.mono hB22.size)
    have hS48 := hS23.join hb46 hM49 hB22.size
    refine wl_alloc (cs := [(.slice none 0 0), (.slice none 0 0), (.int .i64 0), (.int .i64 0), (.int .i64 0), (.slice none 0 0), (.slice none 0 0)]) tf_44 rfl rfl hB47 hS48 ?_
    intro b50 w51 hb52 hB53 hS54
    refine wl_store_blk (i := 0) (vs := [v37, v39, (.int .i64 u36.1.2.2.1), (.int .i64 u36.1.2.2.2), (.int .i64 u36.2.1), v41, v43]) (cs' := [v37, v39, (.int .i64 u36.1.2.2.1), (.int .i64 u36.1.2.2.2), (.int .i64 u36.2.1), v41, v43]) tf_44 rfl rfl rfl rfl hB53 hS54 rfl rfl ⟨(hS54.own_ro (i := 1) rfl).one, (hS54.own_ro (i := 2) rfl).one, rfl, rfl, rfl, (hS54.own_ro (i := 3) rfl).one, (hS54.own_ro (i := 4) rfl).one, trivial⟩ rfl ?_
    intro w55 hk58 hB56 hS57
    refine WL.nil ?_
    refine fun a ha => hK35 _ _ ?_ a ha
    refine W.seq fun K59 hK59 => ?_
    refine W.region ?_
    refine wl_field (o := 5) (off' := 5) ff_44_2 rfl rfl rfl ?_
    refine wl_load_blk (i := 7) (vs := [v0_2]) (v := v0_2) tf_24 rfl rfl hS57 rfl rfl rfl ?_
    refine wl_field (o := 1) (off' := 1) ff_71_1 rfl rfl rfl ?_
    refine wl_load_blk (i := 6) (vs := [(.int .i64 x1.2)]) (v := (.int .i64 x1.2)) tf_3 rfl rfl hS57 rfl rfl rfl ?_
    obtain ⟨u60, hu60, hF⟩ := bindE hF
    refine wl_call rfl Try.call85 (C_spec_l1Has w55 x0.2.2.1 v0_2 (h0_2.ro hB56) x1.2 _ hu60) rfl ?_
    rintro _ w61 ⟨rfl, hb62⟩
    refine ⟨_, rfl, ?_⟩
    have hB63 := hB56.trans (hb62.mono hB56.size)
    have hS64 := hS57.below hb62
    refine wl_assign rfl rfl ?_
    refine WL.nil ?_
    refine fun a ha => hK59 _ _ ?_ a ha
    refine W.seq fun K66 hK66 => ?_
    obtain ⟨k77, hk77, hF⟩ := jE3 hF
    have hJ78 : ∀ (y70 : Int) (l71 : (List Int)) (l74 : (List Int)) (v72 : Value) (F73 : List Nat) (v75 : Value) (F76 : List Nat) (w67 : World) (_ : k77 y70 l71 l74 = some r) (_ : Below w0.heap.size w0 w67) (_ : Sep w0.heap.size w67 [R.blk b12 44 [(.slice none 0 0), (.slice none 0 0), (.int .i64 0), (.int .i64 0), (.int .i64 0), (.slice none 0 0), (.slice none 0 0)], R.own ty_82 F38 v37 u36.1.1, R.own ty_3 F40 v39 u36.1.2.1, R.own ty_3 F73 v72 l71, R.own ty_3 F76 v75 l74, R.blk b50 44 [v37, v39, (.int .i64 u36.1.2.2.1), (.int .i64 u36.1.2.2.2), (.int .i64 y70), v72, v75]]), ∀ a, St 103 [(4, (.pointer (some ⟨b12, 0, none⟩))), (6, (.pointer (some ⟨b50, 0, none⟩)))] a → K66 a w67 := by
      intro y70 l71 l74 v72 F73 v75 F76 w67 hF hB68 hS69
      subst hk77
      refine fun a ha => hK66 _ _ ?_ a ha
      refine W.seq fun K79 hK79 => ?_
      refine W.region ?_
      refine wl_load_blk (i := 5) (vs := [v37, v39, (.int .i64 u36.1.2.2.1), (.int .i64 u36.1.2.2.2), (.int .i64 y70), v72, v75]) (v := (.agg #[v37, v39, (.int .i64 u36.1.2.2.1), (.int .i64 u36.1.2.2.2), (.int .i64 y70), v72, v75])) tf_44 rfl rfl hS69 rfl rfl rfl ?_
      refine wl_store_blk (i := 0) (vs := [v37, v39, (.int .i64 u36.1.2.2.1), (.int .i64 u36.1.2.2.2), (.int .i64 y70), v72, v75]) (cs' := [v37, v39, (.int .i64 u36.1.2.2.1), (.int .i64 u36.1.2.2.2), (.int .i64 y70), v72, v75]) tf_44 rfl rfl rfl rfl hB68 hS69 rfl rfl ⟨(hS69.own_ro (i := 1) rfl).one, (hS69.own_ro (i := 2) rfl).one, rfl, rfl, rfl, (hS69.own_ro (i := 3) rfl).one, (hS69.own_ro (i := 4) rfl).one, trivial⟩ rfl ?_
      intro w80 hk83 hB81 hS82
      refine wl_assign rfl rfl ?_
      refine WL.nil ?_
      refine fun a ha => hK79 _ _ ?_ a ha
      refine W.ret ?_
      have hr := Option.some.inj hF
      subst hr
      exact rets (vs := [(.agg #[v37, v39, (.int .i64 u36.1.2.2.1), (.int .i64 u36.1.2.2.2), (.int .i64 y70), v72, v75]), (.bool true)]) hQ rfl ⟨rv_cell (i := 0) tf_44 rfl hS82 rfl rfl rfl, rv_tmp rfl, trivial⟩ ⟨v37, F38, v39, F40, v72, F73, v75, F76, rfl, hB81, hS82.sel [1, 2, 3, 4] rfl⟩
    refine W.block ?_
    refine W.seq fun K84 hK84 => ?_
    obtain ⟨k89, hk89, hF⟩ := jE1 hF
    have hJ90 : ∀ (y88 : Bool) (w85 : World) (_ : k89 y88 = some r) (_ : Below w0.heap.size w0 w85) (_ : Sep w0.heap.size w85 [R.blk b2 44 [v0_0, v0_1, (.int .i64 x0.1.2.2.1), (.int .i64 x0.1.2.2.2), (.int .i64 x0.2.1), v0_2, v0_3], R.blk b7 71 [(.int .i64 x1.1), (.int .i64 x1.2)], R.blk b12 44 [(.slice none 0 0), (.slice none 0 0), (.int .i64 0), (.int .i64 0), (.int .i64 0), (.slice none 0 0), (.slice none 0 0)], R.own ty_82 F38 v37 u36.1.1, R.own ty_3 F40 v39 u36.1.2.1, R.own ty_3 F42 v41 u36.2.2.1, R.own ty_3 F44 v43 u36.2.2.2, R.blk b50 44 [v37, v39, (.int .i64 u36.1.2.2.1), (.int .i64 u36.1.2.2.2), (.int .i64 u36.2.1), v41, v43]]), ∀ a, St 103 [(2, (.pointer (some ⟨b2, 0, none⟩))), (3, (.pointer (some ⟨b7, 0, none⟩))), (4, (.pointer (some ⟨b12, 0, none⟩))), (6, (.pointer (some ⟨b50, 0, none⟩))), (7, (.bool u60)), (29, (.bool y88))] a → K84 a w85 := by
      intro y88 w85 hF hB86 hS87
      subst hk89
      refine fun a ha => hK84 _ _ ?_ a ha
      refine W.cond rfl (fun h91 => ?_) (fun h91 => ?_)
      · replace hF := ifP h91 hF
        refine W.seq fun K92 hK92 => ?_
        refine W.region ?_
        refine wl_field (o := 4) (off' := 4) ff_44_1 rfl rfl rfl ?_
        refine wl_load_blk (i := 7) (vs := [(.int .i64 u36.2.1)]) (v := (.int .i64 u36.2.1)) tf_3 rfl rfl hS87 rfl rfl rfl ?_
        refine wl_add rfl rfl rfl ?_
        refine wl_field (o := 4) (off' := 4) ff_44_1 rfl rfl rfl ?_
        refine wl_store_blk (i := 7) (vs := [(.int .i64 (w64 (u36.2.1 + 1)))]) (cs' := [v37, v39, (.int .i64 u36.1.2.2.1), (.int .i64 u36.1.2.2.2), (.int .i64 (w64 (u36.2.1 + 1))), v41, v43]) tf_3 rfl rfl rfl rfl hB86 hS87 rfl rfl ⟨rfl, trivial⟩ rfl ?_
        intro w93 hk96 hB94 hS95
        refine WL.nil ?_
        refine fun a ha => hK92 _ _ ?_ a ha
        refine W.seq fun K97 hK97 => ?_
        refine W.region ?_
        refine wl_field (o := 5) (off' := 5) ff_44_2 rfl rfl rfl ?_
        refine wl_load_blk (i := 0) (vs := [v0_2]) (v := v0_2) tf_24 rfl rfl hS95 rfl rfl rfl ?_
        refine wl_lenr (e := ty_3) (l := x0.2.2.1) Try.underlying24 rfl rfl h0_2 ?_
        refine wl_move rfl rfl ?_
        refine WL.nil ?_
        refine fun a ha => hK97 _ _ ?_ a ha
        refine W.block ?_
        refine W.loopk (fun m a w98 => ∃ (l101 : (List Int)) (y104 : Int) (v102 : Value) (F103 : List Nat), St 103 [(4, (.pointer (some ⟨b12, 0, none⟩))), (6, (.pointer (some ⟨b50, 0, none⟩))), (48, v0_2), (49, (.int .i64 (List.length x0.2.2.1 : Int))), (50, (.int .i64 y104))] a ∧ Below w0.heap.size w0 w98 ∧ Sep w0.heap.size w98 [R.blk b12 44 [(.slice none 0 0), (.slice none 0 0), (.int .i64 0), (.int .i64 0), (.int .i64 0), (.slice none 0 0), (.slice none 0 0)], R.own ty_82 F38 v37 u36.1.1, R.own ty_3 F40 v39 u36.1.2.1, R.own ty_3 F42 v41 u36.2.2.1, R.own ty_3 F103 v102 l101, R.blk b50 44 [v37, v39, (.int .i64 u36.1.2.2.1), (.int .i64 u36.1.2.2.2), (.int .i64 (w64 (u36.2.1 + 1))), v41, v102]] ∧ F_spec_mnStep_L1 x0 k77 u36 m l101 y104 = some r) FU ?_ ?_
        ·
          exact fun a ha => ⟨u36.2.2.2, 0, v43, F44, ha.sub ⟨rfl, rfl, rfl, rfl, rfl, trivial⟩, hB94, (hS95.sel [2, 3, 4, 5, 6, 7] rfl), hF⟩
        ·
          rintro m107 a w98 ⟨l101, y104, v102, F103, ha, hB99, hS100, hF⟩ KL106 hKL106
          refine W.at ?_ ha
          cases m107 with
          | zero => exact noneE hF
          | succ m107 =>
            obtain ⟨nx105, hnx105⟩ : ∃ k, k = F_spec_mnStep_L1 x0 k77 u36 m107 := ⟨_, rfl⟩
            rw [F_spec_mnStep_L1, ← hnx105] at hF
            refine W.seq fun K108 hK108 => ?_
            refine W.region ?_
            refine wl_lss rfl rfl rfl ?_
            refine WL.nil ?_
            refine fun a ha => hK108 _ _ ?_ a ha
            refine W.seq fun K109 hK109 => ?_
            refine W.cond rfl (fun h110 => ?_) (fun h110 => ?_)
            · replace hF := ifP h110 hF
              refine W.skip ?_
              refine fun a ha => hK109 _ _ ?_ a ha
              refine W.seq fun K111 hK111 => ?_
              refine W.block ?_
              refine W.seq fun K112 hK112 => ?_
              refine W.region ?_
              obtain ⟨u113, hu113, hF⟩ := bindE hF
              refine wl_index (e := ty_3) Try.underlying24 rfl rfl rfl h0_2 hu113 ?_
              rintro p114 _ rfl hp115
              refine wl_load_p (vs := [(.int .i64 u113)]) (v := (.int .i64 u113)) tf_3 rfl rfl (hp115.ro hB99) rfl rfl ?_
              refine wl_assign rfl rfl ?_
              refine WL.nil ?_
              refine fun a ha => hK112 _ _ ?_ a ha
              refine W.region ?_
              refine wl_field (o := 6) (off' := 6) ff_44_3 rfl rfl rfl ?_
              refine wl_load_blk (i := 5) (vs := [v102]) (v := v102) tf_24 rfl rfl hS100 rfl rfl rfl ?_
              refine wl_move rfl rfl ?_
              obtain ⟨u116, hu116, hF⟩ := bindE hF
              refine wl_indexo (e := ty_3) (i := 4) Try.underlying24 rfl rfl rfl hS100 rfl hu116 ?_
              rintro p117 _ rfl hp118 ho119
              refine wl_load_p (vs := [(.int .i64 u116)]) (v := (.int .i64 u116)) tf_3 rfl rfl hp118 rfl rfl ?_
              refine wl_add rfl rfl rfl ?_
              obtain ⟨u120, hu120, hF⟩ := bindE hF
              refine wl_indexo (e := ty_3) (i := 4) Try.underlying24 rfl rfl rfl hS100 rfl hu120 ?_
              rintro p121 _ rfl hp122 ho123
              refine wl_storeo (i := 4) (o := 0) (vs := [(.int .i64 (w64 (u116 + 1)))]) (u' := (w64 (u116 + 1))) fl_3 tf_3 rfl rfl rfl rfl ho123 hu120 hB99 hS100 rfl rfl ⟨rfl, trivial⟩ rfl ?_
              intro w124 hk127 hB125 hS126
              refine WL.nil ?_
              refine fun a ha => hK111 _ _ ?_ a ha
              refine W.region ?_
              refine wl_add rfl rfl rfl ?_
              refine wl_move rfl rfl ?_
              refine WL.nil ?_
              rw [hnx105] at hF
              exact fun a ha => hKL106 a _ m107 (Nat.lt_succ_self m107) ⟨(seti l101 u113 (w64 (u116 + 1))), (w64 (y104 + 1)), v102, F103, ha.sub ⟨rfl, rfl, rfl, rfl, rfl, trivial⟩, hB125, (hS126.sel [0, 1, 2, 3, 4, 5] rfl), hF⟩
            · replace hF := ifN h110 hF
              refine W.exit ?_
              exact fun a ha => hJ78 ((w64 (u36.2.1 + 1))) (u36.2.2.1) (l101) (v41) (F42) (v102) (F103) _ hF hB99 (hS100.sel [0, 1, 2, 3, 4, 5] rfl) a (ha.sub ⟨rfl, rfl, trivial⟩)
      · replace hF := ifN h91 hF
        refine W.seq fun K128 hK128 => ?_
        obtain ⟨k133, hk133, hF⟩ := jE1 hF
        have hJ134 : ∀ (y132 : Bool) (w129 : World) (_ : k133 y132 = some r) (_ : Below w0.heap.size w0 w129) (_ : Sep w0.heap.size w129 [R.blk b2 44 [v0_0, v0_1, (.int .i64 x0.1.2.2.1), (.int .i64 x0.1.2.2.2), (.int .i64 x0.2.1), v0_2, v0_3], R.blk b7 71 [(.int .i64 x1.1), (.int .i64 x1.2)], R.blk b12 44 [(.slice none 0 0), (.slice none 0 0), (.int .i64 0), (.int .i64 0), (.int .i64 0), (.slice none 0 0), (.slice none 0 0)], R.own ty_82 F38 v37 u36.1.1, R.own ty_3 F40 v39 u36.1.2.1, R.own ty_3 F42 v41 u36.2.2.1, R.own ty_3 F44 v43 u36.2.2.2, R.blk b50 44 [v37, v39, (.int .i64 u36.1.2.2.1), (.int .i64 u36.1.2.2.2), (.int .i64 u36.2.1), v41, v43]]), ∀ a, St 103 [(2, (.pointer (some ⟨b2, 0, none⟩))), (3, (.pointer (some ⟨b7, 0, none⟩))), (4, (.pointer (some ⟨b12, 0, none⟩))), (6, (.pointer (some ⟨b50, 0, none⟩))), (7, (.bool u60)), (62, (.bool y132))] a → K128 a w129 := by
          intro y132 w129 hF hB130 hS131
          subst hk133
          refine fun a ha => hK128 _ _ ?_ a ha
          refine W.cond rfl (fun h135 => ?_) (fun h135 => ?_)
          · replace hF := ifP h135 hF
            refine W.region ?_
            refine wl_field (o := 5) (off' := 5) ff_44_2 rfl rfl rfl ?_
            refine wl_load_blk (i := 7) (vs := [v41]) (v := v41) tf_24 rfl rfl hS131 rfl rfl rfl ?_
            refine wl_field (o := 1) (off' := 1) ff_71_1 rfl rfl rfl ?_
            refine wl_load_blk (i := 1) (vs := [(.int .i64 x1.2)]) (v := (.int .i64 x1.2)) tf_3 rfl rfl hS131 rfl rfl rfl ?_
            obtain ⟨u136, hu136, hF⟩ := bindE hF
            refine wl_call rfl Try.call86 (C_spec_l1Put__take w129 u36.2.2.1 v41 F42 x1.2 (hS131.sel [5] rfl).base0 _ hu136) rfl ?_
            rintro _ w137 ⟨v142, F143, rfl, hE138, hM139⟩
            refine ⟨_, rfl, ?_⟩
            have hB140 := hS131.takeB [5] rfl (M := [R.own ty_3 F42 v41 u36.2.2.1]) rfl hB130 hE138 hM139
            have hS141 : Sep w0.heap.size w137 [R.own ty_3 F143 v142 u136, R.blk b2 44 [v0_0, v0_1, (.int .i64 x0.1.2.2.1), (.int .i64 x0.1.2.2.2), (.int .i64 x0.2.1), v0_2, v0_3], R.blk b7 71 [(.int .i64 x1.1), (.int .i64 x1.2)], R.blk b12 44 [(.slice none 0 0), (.slice none 0 0), (.int .i64 0), (.int .i64 0), (.int .i64 0), (.slice none 0 0), (.slice none 0 0)], R.own ty_82 F38 v37 u36.1.1, R.own ty_3 F40 v39 u36.1.2.1, R.own ty_3 F44 v43 u36.2.2.2, R.blk b50 44 [v37, v39, (.int .i64 u36.1.2.2.1), (.int .i64 u36.1.2.2.2), (.int .i64 u36.2.1), v41, v43]] := hS131.take [5] [0, 1, 2, 3, 4, 6, 7] rfl (M := [R.own ty_3 F42 v41 u36.2.2.1]) rfl hM139 hB130.size
            refine wl_field (o := 5) (off' := 5) ff_44_2 rfl rfl rfl ?_
            refine wl_store_blk (i := 7) (vs := [v142]) (cs' := [v37, v39, (.int .i64 u36.1.2.2.1), (.int .i64 u36.1.2.2.2), (.int .i64 u36.2.1), v142, v43]) tf_24 rfl rfl (cells_one (hS141.own_ro (i := 0) rfl).one) rfl hB140 hS141 rfl rfl ⟨(hS141.own_ro (i := 0) rfl).one, trivial⟩ rfl ?_
            intro w144 hk147 hB145 hS146
            refine WL.nil ?_
            exact fun a ha => hJ78 (u36.2.1) (u136) (u36.2.2.2) (v142) (F143) (v43) (F44) _ hF hB145 (hS146.sel [3, 4, 5, 0, 6, 7] rfl) a (ha.sub ⟨rfl, rfl, trivial⟩)
          · replace hF := ifN h135 hF
            refine W.seq fun K148 hK148 => ?_
            obtain ⟨k153, hk153, hF⟩ := jE1 hF
            have hJ154 : ∀ (y152 : Bool) (w149 : World) (_ : k153 y152 = some r) (_ : Below w0.heap.size w0 w149) (_ : Sep w0.heap.size w149 [R.blk b2 44 [v0_0, v0_1, (.int .i64 x0.1.2.2.1), (.int .i64 x0.1.2.2.2), (.int .i64 x0.2.1), v0_2, v0_3], R.blk b7 71 [(.int .i64 x1.1), (.int .i64 x1.2)], R.blk b12 44 [(.slice none 0 0), (.slice none 0 0), (.int .i64 0), (.int .i64 0), (.int .i64 0), (.slice none 0 0), (.slice none 0 0)], R.own ty_82 F38 v37 u36.1.1, R.own ty_3 F40 v39 u36.1.2.1, R.own ty_3 F42 v41 u36.2.2.1, R.own ty_3 F44 v43 u36.2.2.2, R.blk b50 44 [v37, v39, (.int .i64 u36.1.2.2.1), (.int .i64 u36.1.2.2.2), (.int .i64 u36.2.1), v41, v43]]), ∀ a, St 103 [(2, (.pointer (some ⟨b2, 0, none⟩))), (3, (.pointer (some ⟨b7, 0, none⟩))), (4, (.pointer (some ⟨b12, 0, none⟩))), (6, (.pointer (some ⟨b50, 0, none⟩))), (76, (.bool y152))] a → K148 a w149 := by
              intro y152 w149 hF hB150 hS151
              subst hk153
              refine fun a ha => hK148 _ _ ?_ a ha
              refine W.cond rfl (fun h155 => ?_) (fun h155 => ?_)
              · replace hF := ifP h155 hF
                refine W.seq fun K156 hK156 => ?_
                refine W.region ?_
                refine wl_field (o := 5) (off' := 5) ff_44_2 rfl rfl rfl ?_
                refine wl_store_blk (i := 7) (vs := [(.slice none 0 0)]) (cs' := [v37, v39, (.int .i64 u36.1.2.2.1), (.int .i64 u36.1.2.2.2), (.int .i64 u36.2.1), (.slice none 0 0), v43]) tf_24 rfl rfl rfl rfl hB150 hS151 rfl rfl ⟨rfl, trivial⟩ rfl ?_
                intro w157 hk160 hB158 hS159
                refine WL.nil ?_
                refine fun a ha => hK156 _ _ ?_ a ha
                refine W.seq fun K161 hK161 => ?_
                refine W.region ?_
                refine wl_field (o := 5) (off' := 5) ff_44_2 rfl rfl rfl ?_
                refine wl_load_blk (i := 0) (vs := [v0_2]) (v := v0_2) tf_24 rfl rfl hS159 rfl rfl rfl ?_
                refine wl_lenr (e := ty_3) (l := x0.2.2.1) Try.underlying24 rfl rfl h0_2 ?_
                refine wl_move rfl rfl ?_
                refine WL.nil ?_
                refine fun a ha => hK161 _ _ ?_ a ha
                refine W.block ?_
                refine W.loopk (fun m a w162 => ∃ (l165 : (List Int)) (y168 : Int) (v166 : Value) (F167 : List Nat), St 103 [(3, (.pointer (some ⟨b7, 0, none⟩))), (4, (.pointer (some ⟨b12, 0, none⟩))), (6, (.pointer (some ⟨b50, 0, none⟩))), (85, v0_2), (86, (.int .i64 (List.length x0.2.2.1 : Int))), (87, (.int .i64 y168))] a ∧ Below w0.heap.size w0 w162 ∧ Sep w0.heap.size w162 [R.blk b7 71 [(.int .i64 x1.1), (.int .i64 x1.2)], R.blk b12 44 [(.slice none 0 0), (.slice none 0 0), (.int .i64 0), (.int .i64 0), (.int .i64 0), (.slice none 0 0), (.slice none 0 0)], R.own ty_82 F38 v37 u36.1.1, R.own ty_3 F40 v39 u36.1.2.1, R.own ty_3 F167 v166 l165, R.own ty_3 F44 v43 u36.2.2.2, R.blk b50 44 [v37, v39, (.int .i64 u36.1.2.2.1), (.int .i64 u36.1.2.2.2), (.int .i64 u36.2.1), v166, v43]] ∧ F_spec_mnStep_L2 x0 x1 k77 u36 m l165 y168 = some r) FU ?_ ?_
                ·
                  have hS170 := hS159.push0 (r := R.own ty_3 [] (.slice none 0 0) []) rfl fun _ => .inl ⟨rfl, rfl, rfl⟩
                  exact fun a ha => ⟨[], 0, (.slice none 0 0), [], ha.sub ⟨rfl, rfl, rfl, rfl, rfl, rfl, trivial⟩, hB158, (hS170.sel [2, 3, 4, 5, 0, 7, 8] rfl), hF⟩
                ·
                  rintro m172 a w162 ⟨l165, y168, v166, F167, ha, hB163, hS164, hF⟩ KL171 hKL171
                  refine W.at ?_ ha
                  cases m172 with
                  | zero => exact noneE hF
                  | succ m172 =>
                    obtain ⟨nx169, hnx169⟩ : ∃ k, k = F_spec_mnStep_L2 x0 x1 k77 u36 m172 := ⟨_, rfl⟩
                    rw [F_spec_mnStep_L2, ← hnx169] at hF
                    refine W.seq fun K173 hK173 => ?_
                    refine W.region ?_
                    refine wl_lss rfl rfl rfl ?_
                    refine WL.nil ?_
                    refine fun a ha => hK173 _ _ ?_ a ha
                    refine W.seq fun K174 hK174 => ?_
                    refine W.cond rfl (fun h175 => ?_) (fun h175 => ?_)
                    · replace hF := ifP h175 hF
                      refine W.skip ?_
                      refine fun a ha => hK174 _ _ ?_ a ha
                      refine W.seq fun K176 hK176 => ?_
                      obtain ⟨k183, hk183, hF⟩ := jE1 hF
                      have hJ184 : ∀ (l180 : (List Int)) (v181 : Value) (F182 : List Nat) (w177 : World) (_ : k183 l180 = some r) (_ : Below w0.heap.size w0 w177) (_ : Sep w0.heap.size w177 [R.blk b7 71 [(.int .i64 x1.1), (.int .i64 x1.2)], R.blk b12 44 [(.slice none 0 0), (.slice none 0 0), (.int .i64 0), (.int .i64 0), (.int .i64 0), (.slice none 0 0), (.slice none 0 0)], R.own ty_82 F38 v37 u36.1.1, R.own ty_3 F40 v39 u36.1.2.1, R.own ty_3 F182 v181 l180, R.own ty_3 F44 v43 u36.2.2.2, R.blk b50 44 [v37, v39, (.int .i64 u36.1.2.2.1), (.int .i64 u36.1.2.2.2), (.int .i64 u36.2.1), v181, v43]]), ∀ a, St 103 [(3, (.pointer (some ⟨b7, 0, none⟩))), (4, (.pointer (some ⟨b12, 0, none⟩))), (6, (.pointer (some ⟨b50, 0, none⟩))), (85, v0_2), (86, (.int .i64 (List.length x0.2.2.1 : Int))), (87, (.int .i64 y168))] a → K176 a w177 := by
                        intro l180 v181 F182 w177 hF hB178 hS179
                        subst hk183
                        refine fun a ha => hK176 _ _ ?_ a ha
                        refine W.region ?_
                        refine wl_add rfl rfl rfl ?_
                        refine wl_move rfl rfl ?_
                        refine WL.nil ?_
                        rw [hnx169] at hF
                        exact fun a ha => hKL171 a _ m172 (Nat.lt_succ_self m172) ⟨l180, (w64 (y168 + 1)), v181, F182, ha.sub ⟨rfl, rfl, rfl, rfl, rfl, rfl, trivial⟩, hB178, (hS179.sel [0, 1, 2, 3, 4, 5, 6] rfl), hF⟩
                      refine W.block ?_
                      refine W.seq fun K185 hK185 => ?_
                      refine W.region ?_
                      obtain ⟨u186, hu186, hF⟩ := bindE hF
                      refine wl_index (e := ty_3) Try.underlying24 rfl rfl rfl h0_2 hu186 ?_
                      rintro p187 _ rfl hp188
                      refine wl_load_p (vs := [(.int .i64 u186)]) (v := (.int .i64 u186)) tf_3 rfl rfl (hp188.ro hB163) rfl rfl ?_
                      refine wl_assign rfl rfl ?_
                      refine WL.nil ?_
                      refine fun a ha => hK185 _ _ ?_ a ha
                      refine W.seq fun K189 hK189 => ?_
                      refine W.region ?_
                      refine wl_move rfl rfl ?_
                      refine wl_field (o := 1) (off' := 1) ff_71_1 rfl rfl rfl ?_
                      refine wl_load_blk (i := 0) (vs := [(.int .i64 x1.2)]) (v := (.int .i64 x1.2)) tf_3 rfl rfl hS164 rfl rfl rfl ?_
                      refine wl_neq rfl rfl rfl ?_
                      refine WL.nil ?_
                      refine fun a ha => hK189 _ _ ?_ a ha
                      refine W.cond rfl (fun h190 => ?_) (fun h190 => ?_)
                      · replace hF := ifP h190 hF
                        refine W.region ?_
                        refine wl_field (o := 5) (off' := 5) ff_44_2 rfl rfl rfl ?_
                        refine wl_load_blk (i := 6) (vs := [v166]) (v := v166) tf_24 rfl rfl hS164 rfl rfl rfl ?_
                        refine wl_move rfl rfl ?_
                        refine wl_lit (vs := [(.int .i64 u186)]) (l := [u186]) fl_3 Try.underlying24 rfl rfl rfl rfl rfl rfl hB163 hS164 ?_
                        intro v191 F192 w193 hb194 hB195 hS196
                        obtain ⟨u197, hu197, hF⟩ := bindE hF
                        refine wl_append (i := 5) (S := (· < w193.heap.size)) fl_3 Try.underlying24 rfl rfl rfl hB195 hS196 rfl (hS196.own_ro (i := 0) rfl) hu197 ?_
                        intro v198 F199 w200 hk201 hB202 hS203
                        refine wl_field (o := 5) (off' := 5) ff_44_2 rfl rfl rfl ?_
                        refine wl_store_blk (i := 7) (vs := [v198]) (cs' := [v37, v39, (.int .i64 u36.1.2.2.1), (.int .i64 u36.1.2.2.2), (.int .i64 u36.2.1), v198, v43]) tf_24 rfl rfl (cells_one (hS203.own_ro (i := 5) rfl).one) rfl hB202 hS203 rfl rfl ⟨(hS203.own_ro (i := 5) rfl).one, trivial⟩ rfl ?_
                        intro w204 hk207 hB205 hS206
                        refine WL.nil ?_
                        exact fun a ha => hJ184 (u197) (v198) (F199) _ hF hB205 (hS206.sel [1, 2, 3, 4, 5, 6, 7] rfl) a (ha.sub ⟨rfl, rfl, rfl, rfl, rfl, rfl, trivial⟩)
                      · replace hF := ifN h190 hF
                        refine W.skip ?_
                        exact fun a ha => hJ184 (l165) (v166) (F167) _ hF hB163 (hS164.sel [0, 1, 2, 3, 4, 5, 6] rfl) a (ha.sub ⟨rfl, rfl, rfl, rfl, rfl, rfl, trivial⟩)
                    · replace hF := ifN h175 hF
                      refine W.exit ?_
                      exact fun a ha => hJ78 (u36.2.1) (l165) (u36.2.2.2) (v166) (F167) (v43) (F44) _ hF hB163 (hS164.sel [1, 2, 3, 4, 5, 6] rfl) a (ha.sub ⟨rfl, rfl, trivial⟩)
              · replace hF := ifN h155 hF
                refine W.seq fun K208 hK208 => ?_
                refine W.region ?_
                refine wl_build (zs := [(.slice none 0 0), (.slice none 0 0), (.int .i64 0), (.int .i64 0), (.int .i64 0), (.slice none 0 0), (.slice none 0 0)]) (out := [(.slice none 0 0), (.slice none 0 0), (.int .i64 0), (.int .i64 0), (.int .i64 0), (.slice none 0 0), (.slice none 0 0)]) (vs := []) (css := []) tf_44 pl_44 rfl rfl rfl rfl rfl ?_
                refine wl_store_blk (i := 2) (vs := [(.slice none 0 0), (.slice none 0 0), (.int .i64 0), (.int .i64 0), (.int .i64 0), (.slice none 0 0), (.slice none 0 0)]) (cs' := [(.slice none 0 0), (.slice none 0 0), (.int .i64 0), (.int .i64 0), (.int .i64 0), (.slice none 0 0), (.slice none 0 0)]) tf_44 rfl rfl rfl rfl hB150 hS151 rfl rfl ⟨rfl, rfl, rfl, rfl, rfl, rfl, rfl, trivial⟩ rfl ?_
                intro w209 hk212 hB210 hS211
                refine wl_assign rfl rfl ?_
                refine WL.nil ?_
                refine fun a ha => hK208 _ _ ?_ a ha
                refine W.ret ?_
                have hS213 := hS211.push0 (r := R.own ty_82 [] (.slice none 0 0) []) rfl fun _ => .inl ⟨rfl, rfl, rfl⟩
                have hS214 := hS213.push0 (r := R.own ty_3 [] (.slice none 0 0) []) rfl fun _ => .inl ⟨rfl, rfl, rfl⟩
                have hS215 := hS214.push0 (r := R.own ty_3 [] (.slice none 0 0) []) rfl fun _ => .inl ⟨rfl, rfl, rfl⟩
                have hS216 := hS215.push0 (r := R.own ty_3 [] (.slice none 0 0) []) rfl fun _ => .inl ⟨rfl, rfl, rfl⟩
                have hr := Option.some.inj hF
                subst hr
                exact rets (vs := [(.agg #[(.slice none 0 0), (.slice none 0 0), (.int .i64 0), (.int .i64 0), (.int .i64 0), (.slice none 0 0), (.slice none 0 0)]), (.bool false)]) hQ rfl ⟨rv_cell (i := 2) tf_44 rfl hS211 rfl rfl rfl, rv_tmp rfl, trivial⟩ ⟨(.slice none 0 0), [], (.slice none 0 0), [], (.slice none 0 0), [], (.slice none 0 0), [], rfl, hB210, hS216.sel [3, 2, 1, 0] rfl⟩
            refine W.region ?_
            refine wl_field (o := 0) (off' := 0) ff_71_0 rfl rfl rfl ?_
            refine wl_load_blk (i := 1) (vs := [(.int .i64 x1.1)]) (v := (.int .i64 x1.1)) tf_3 rfl rfl hS131 rfl rfl rfl ?_
            refine wl_eql rfl rfl rfl ?_
            refine wl_move rfl rfl ?_
            rcases bE (x1.1 == 3) with h217 | h217
            · replace hF := ifP h217 hF
              refine wl_on rfl rfl h217 ?_
              refine wl_move rfl rfl ?_
              refine wl_pick_t rfl rfl h217 rfl ?_
              refine wl_assign rfl rfl ?_
              refine WL.nil ?_
              exact fun a ha => hJ154 (u60) _ hF hB130 (hS131.sel [0, 1, 2, 3, 4, 5, 6, 7] rfl) a (ha.sub ⟨rfl, rfl, rfl, rfl, rfl, trivial⟩)
            · replace hF := ifN h217 hF
              refine wl_off rfl rfl rfl h217 ?_
              refine wl_pick_f rfl rfl h217 rfl ?_
              refine wl_assign rfl rfl ?_
              refine WL.nil ?_
              exact fun a ha => hJ154 (false) _ hF hB130 (hS131.sel [0, 1, 2, 3, 4, 5, 6, 7] rfl) a (ha.sub ⟨rfl, rfl, rfl, rfl, rfl, trivial⟩)
        refine W.region ?_
        refine wl_field (o := 0) (off' := 0) ff_71_0 rfl rfl rfl ?_
        refine wl_load_blk (i := 1) (vs := [(.int .i64 x1.1)]) (v := (.int .i64 x1.1)) tf_3 rfl rfl hS87 rfl rfl rfl ?_
        refine wl_eql rfl rfl rfl ?_
        refine wl_move rfl rfl ?_
        rcases bE (x1.1 == 2) with h218 | h218
        · replace hF := ifP h218 hF
          refine wl_on rfl rfl h218 ?_
          refine wl_move rfl rfl ?_
          refine wl_on rfl rfl h218 ?_
          refine wl_not rfl rfl ?_
          refine wl_pick_t rfl rfl h218 rfl ?_
          refine wl_assign rfl rfl ?_
          refine WL.nil ?_
          exact fun a ha => hJ134 ((!u60)) _ hF hB86 (hS87.sel [0, 1, 2, 3, 4, 5, 6, 7] rfl) a (ha.sub ⟨rfl, rfl, rfl, rfl, rfl, rfl, trivial⟩)
        · replace hF := ifN h218 hF
          refine wl_off rfl rfl rfl h218 ?_
          refine wl_off rfl rfl rfl h218 ?_
          refine wl_pick_f rfl rfl h218 rfl ?_
          refine wl_assign rfl rfl ?_
          refine WL.nil ?_
          exact fun a ha => hJ134 (false) _ hF hB86 (hS87.sel [0, 1, 2, 3, 4, 5, 6, 7] rfl) a (ha.sub ⟨rfl, rfl, rfl, rfl, rfl, rfl, trivial⟩)
    refine W.region ?_
    refine wl_field (o := 0) (off' := 0) ff_71_0 rfl rfl rfl ?_
    refine wl_load_blk (i := 6) (vs := [(.int .i64 x1.1)]) (v := (.int .i64 x1.1)) tf_3 rfl rfl hS64 rfl rfl rfl ?_
    refine wl_eql rfl rfl rfl ?_
    refine wl_move rfl rfl ?_
    rcases bE (x1.1 == 1) with h219 | h219
    · replace hF := ifP h219 hF
      refine wl_on rfl rfl h219 ?_
      refine wl_field (o := 1) (off' := 1) ff_71_1 rfl rfl rfl ?_
      refine wl_on rfl rfl h219 ?_
      refine wl_load_blk (i := 6) (vs := [(.int .i64 x1.2)]) (v := (.int .i64 x1.2)) tf_3 rfl rfl hS64 rfl rfl rfl ?_
      refine wl_on rfl rfl h219 ?_
      refine wl_eql rfl rfl rfl ?_
      refine wl_pick_t rfl rfl h219 rfl ?_
      refine wl_move rfl rfl ?_
      rcases bE (x1.2 == 0) with h220 | h220
      · replace hF := ifP h220 hF
        refine wl_on rfl rfl h220 ?_
        refine wl_field (o := 4) (off' := 4) ff_44_1 rfl rfl rfl ?_
        refine wl_on rfl rfl h220 ?_
        refine wl_load_blk (i := 7) (vs := [(.int .i64 x0.2.1)]) (v := (.int .i64 x0.2.1)) tf_3 rfl rfl hS64 rfl rfl rfl ?_
        refine wl_on rfl rfl h220 ?_
        refine wl_lss rfl rfl rfl ?_
        refine wl_pick_t rfl rfl h220 rfl ?_
        refine wl_assign rfl rfl ?_
        refine WL.nil ?_
        exact fun a ha => hJ90 ((decide (x0.2.1 < 1000))) _ hF hB63 (hS64.sel [7, 6, 5, 1, 2, 3, 4, 0] rfl) a (ha.sub ⟨rfl, rfl, rfl, rfl, rfl, rfl, trivial⟩)
      · replace hF := ifN h220 hF
        refine wl_off rfl rfl rfl h220 ?_
        refine wl_off rfl rfl rfl h220 ?_
        refine wl_off rfl rfl rfl h220 ?_
        refine wl_pick_f rfl rfl h220 rfl ?_
        refine wl_assign rfl rfl ?_
        refine WL.nil ?_
        exact fun a ha => hJ90 (false) _ hF hB63 (hS64.sel [7, 6, 5, 1, 2, 3, 4, 0] rfl) a (ha.sub ⟨rfl, rfl, rfl, rfl, rfl, rfl, trivial⟩)
    · replace hF := ifN h219 hF
      refine wl_off rfl rfl rfl h219 ?_
      refine wl_off rfl rfl rfl h219 ?_
      refine wl_off rfl rfl rfl h219 ?_
      refine wl_pick_f rfl rfl h219 rfl ?_
      refine wl_move rfl rfl ?_
      refine wl_off rfl rfl rfl rfl ?_
      refine wl_off rfl rfl rfl rfl ?_
      refine wl_off rfl rfl rfl rfl ?_
      refine wl_pick_f rfl rfl rfl rfl ?_
      refine wl_assign rfl rfl ?_
      refine WL.nil ?_
      exact fun a ha => hJ90 (false) _ hF hB63 (hS64.sel [7, 6, 5, 1, 2, 3, 4, 0] rfl) a (ha.sub ⟨rfl, rfl, rfl, rfl, rfl, rfl, trivial⟩)
theorem C_impl_arePerformers (w0 : World) (x0 : (List Int)) (v0_0 : Value) (h0_0 : rdS ty_3 (· < w0.heap.size) w0 v0_0 x0) (x1 : Int) (r : Bool) (hF : F_impl_arePerformers x0 x1 = some r) :
    Calls Try.prog 87 [v0_0, (.int .i64 x1)].toArray w0 fun e w' => e = .returned (.bool r) ∧ Below w0.heap.size w0 w' := by
  refine calls_mk' Try.func87 rfl Try.ntmps87 rfl rfl fun Q hQ hP => ?_
  have hB : Below w0.heap.size w0 w0 := Below.refl _ _
  have hS : Sep w0.heap.size w0 [] := Sep.nil _ _
  unfold F_impl_arePerformers at hF
  refine W.seq fun K1 hK1 => ?_
  refine W.region ?_
  refine wl_assign rfl rfl ?_
  refine WL.nil ?_
  refine fun a ha => hK1 _ _ ?_ a ha
  refine W.seq fun K2 hK2 => ?_
  refine W.seq fun K3 hK3 => ?_
  refine W.region ?_
  refine wl_move rfl rfl ?_
  refine wl_lenr (e := ty_3) (l := x0) Try.underlying24 rfl rfl h0_0 ?_
  refine wl_move rfl rfl ?_
  refine WL.nil ?_
  refine fun a ha => hK3 _ _ ?_ a ha
  refine W.block ?_
  refine W.loopk (fun m a w4 => ∃ (y7 : Int), St 33 [(0, v0_0), (1, (.int .i64 x1)), (7, v0_0), (8, (.int .i64 (List.length x0 : Int))), (9, (.int .i64 y7))] a ∧ Below w0.heap.size w0 w4 ∧ Sep w0.heap.size w4 [] ∧ F_impl_arePerformers_L1 x0 x1 m y7 = some r) FU ?_ ?_
  ·
    exact fun a ha => ⟨0, ha.sub ⟨rfl, rfl, rfl, rfl, rfl, trivial⟩, hB, (hS.sel [] rfl), hF⟩
  ·
    rintro m10 a w4 ⟨y7, ha, hB5, hS6, hF⟩ KL9 hKL9
    refine W.at ?_ ha
    cases m10 with
    | zero => exact noneE hF
    | succ m10 =>
      obtain ⟨nx8, hnx8⟩ : ∃ k, k = F_impl_arePerformers_L1 x0 x1 m10 := ⟨_, rfl⟩
      rw [F_impl_arePerformers_L1, ← hnx8] at hF
      refine W.seq fun K11 hK11 => ?_
      refine W.region ?_
      refine wl_lss rfl rfl rfl ?_
      refine WL.nil ?_
      refine fun a ha => hK11 _ _ ?_ a ha
      refine W.seq fun K12 hK12 => ?_
      refine W.cond rfl (fun h13 => ?_) (fun h13 => ?_)
      · replace hF := ifP h13 hF
        refine W.skip ?_
        refine fun a ha => hK12 _ _ ?_ a ha
        refine W.seq fun K14 hK14 => ?_
        refine W.block ?_
        refine W.seq fun K15 hK15 => ?_
        refine W.region ?_
        refine wl_move rfl rfl ?_
        obtain ⟨u16, hu16, hF⟩ := bindE hF
        refine wl_index (e := ty_3) Try.underlying24 rfl rfl rfl h0_0 hu16 ?_
        rintro p17 _ rfl hp18
        refine wl_load_p (vs := [(.int .i64 u16)]) (v := (.int .i64 u16)) tf_3 rfl rfl (hp18.ro hB5) rfl rfl ?_
        refine wl_assign rfl rfl ?_
        refine wl_assign rfl rfl ?_
        refine WL.nil ?_
        refine fun a ha => hK15 _ _ ?_ a ha
        refine W.seq fun K19 hK19 => ?_
        obtain ⟨k24, hk24, hF⟩ := jE1 hF
        have hJ25 : ∀ (y23 : Bool) (w20 : World) (_ : k24 y23 = some r) (_ : Below w0.heap.size w0 w20) (_ : Sep w0.heap.size w20 []), ∀ a, St 33 [(0, v0_0), (1, (.int .i64 x1)), (7, v0_0), (8, (.int .i64 (List.length x0 : Int))), (9, (.int .i64 y7)), (31, (.bool y23))] a → K19 a w20 := by
          intro y23 w20 hF hB21 hS22
          subst hk24
          refine fun a ha => hK19 _ _ ?_ a ha
          refine W.cond rfl (fun h26 => ?_) (fun h26 => ?_)
          · replace hF := ifP h26 hF
            refine W.seq fun K27 hK27 => ?_
            refine W.region ?_
            refine wl_assign rfl rfl ?_
            refine WL.nil ?_
            refine fun a ha => hK27 _ _ ?_ a ha
            refine W.ret ?_
            have hr := Option.some.inj hF
            subst hr
            exact rets (vs := [(.bool false)]) hQ rfl ⟨rv_tmp rfl, trivial⟩ ⟨rfl, hB21⟩
          · replace hF := ifN h26 hF
            refine W.skip ?_
            refine fun a ha => hK14 _ _ ?_ a ha
            refine W.region ?_
            refine wl_add rfl rfl rfl ?_
            refine wl_move rfl rfl ?_
            refine WL.nil ?_
            rw [hnx8] at hF
            exact fun a ha => hKL9 a _ m10 (Nat.lt_succ_self m10) ⟨(w64 (y7 + 1)), ha.sub ⟨rfl, rfl, rfl, rfl, rfl, trivial⟩, hB21, (hS22.sel [] rfl), hF⟩
        refine W.region ?_
        refine wl_move rfl rfl ?_
        refine wl_move rfl rfl ?_
        refine wl_sub rfl rfl rfl ?_
        obtain ⟨u28, hu28, hF⟩ := bindE hF
        refine wl_call rfl Try.call67 (C_impl_within w4 u16 0 (w64 (x1 - 1)) _ hu28) rfl ?_
        rintro _ w29 ⟨rfl, hb30⟩
        refine ⟨_, rfl, ?_⟩
        have hB31 := hB5.trans (hb30.mono hB5.size)
        have hS32 := hS6.below hb30
        refine wl_not rfl rfl ?_
        refine wl_move rfl rfl ?_
        rcases bE (!u28) with h34 | h34
        · replace hF := ifP h34 hF
          refine wl_off rfl rfl rfl h34 ?_
          refine wl_off rfl rfl rfl h34 ?_
          refine wl_off rfl rfl rfl h34 ?_
          refine wl_offu rfl rfl rfl ?_
          refine wl_offu rfl rfl rfl ?_
          refine wl_offu rfl rfl rfl ?_
          refine wl_offu rfl rfl rfl ?_
          refine wl_offu rfl rfl rfl ?_
          refine wl_offu rfl rfl rfl ?_
          refine wl_offu rfl rfl rfl ?_
          refine wl_off rfl rfl rfl h34 ?_
          refine wl_pick_t rfl rfl h34 rfl ?_
          refine WL.nil ?_
          exact fun a ha => hJ25 (true) _ hF hB31 (hS32.sel [] rfl) a (ha.sub ⟨rfl, rfl, rfl, rfl, rfl, rfl, trivial⟩)
        · replace hF := ifN h34 hF
          refine wl_on rfl rfl h34 ?_
          refine wl_move rfl rfl ?_
          refine wl_on rfl rfl h34 ?_
          refine wl_gtr rfl rfl rfl ?_
          refine wl_on rfl rfl h34 ?_
          refine wl_move rfl rfl ?_
          rcases bE (decide (0 < y7)) with h35 | h35
          · replace hF := ifP h35 hF
            refine wl_on rfl rfl h35 ?_
            refine wl_move rfl rfl ?_
            refine wl_on rfl rfl h35 ?_
            refine wl_move rfl rfl ?_
            refine wl_on rfl rfl h35 ?_
            refine wl_sub rfl rfl rfl ?_
            refine wl_on rfl rfl h35 ?_
            obtain ⟨u36, hu36, hF⟩ := bindE hF
            refine wl_index (e := ty_3) Try.underlying24 rfl rfl rfl h0_0 hu36 ?_
            rintro p37 _ rfl hp38
            refine wl_on rfl rfl h35 ?_
            refine wl_load_p (vs := [(.int .i64 u36)]) (v := (.int .i64 u36)) tf_3 rfl rfl (hp38.ro hB31) rfl rfl ?_
            refine wl_on rfl rfl h35 ?_
            refine wl_move rfl rfl ?_
            refine wl_on rfl rfl h35 ?_
            refine wl_geq rfl rfl rfl ?_
            refine wl_on rfl rfl h34 ?_
            refine wl_pick_t rfl rfl h35 rfl ?_
            refine wl_pick_f rfl rfl h34 rfl ?_
            refine WL.nil ?_
            exact fun a ha => hJ25 ((decide (u16 ≤ u36))) _ hF hB31 (hS32.sel [] rfl) a (ha.sub ⟨rfl, rfl, rfl, rfl, rfl, rfl, trivial⟩)
          · replace hF := ifN h35 hF
            refine wl_off rfl rfl rfl h35 ?_
            refine wl_off rfl rfl rfl h35 ?_
            refine wl_off rfl rfl rfl h35 ?_
            refine wl_off rfl rfl rfl h35 ?_
            refine wl_off rfl rfl rfl h35 ?_
            refine wl_off rfl rfl rfl h35 ?_
            refine wl_off rfl rfl rfl h35 ?_
            refine wl_on rfl rfl h34 ?_
            refine wl_pick_f rfl rfl h35 rfl ?_
            refine wl_pick_f rfl rfl h34 rfl ?_
            refine WL.nil ?_
            exact fun a ha => hJ25 (false) _ hF hB31 (hS32.sel [] rfl) a (ha.sub ⟨rfl, rfl, rfl, rfl, rfl, rfl, trivial⟩)
      · replace hF := ifN h13 hF
        refine W.exit ?_
        refine fun a ha => hK2 _ _ ?_ a ha
        refine W.seq fun K39 hK39 => ?_
        refine W.region ?_
        refine wl_assign rfl rfl ?_
        refine WL.nil ?_
        refine fun a ha => hK39 _ _ ?_ a ha
        refine W.ret ?_
        have hr := Option.some.inj hF
        subst hr
        exact rets (vs := [(.bool true)]) hQ rfl ⟨rv_tmp rfl, trivial⟩ ⟨rfl, hB5⟩
theorem C_impl_IsMarch (w0 : World) (x0 : (((List (List (Int × Int))) × (List Int) × Int × Int) × Int × (List Int) × (List Int))) (v0_0 : Value) (h0_0 : rdS ty_82 (· < w0.heap.size) w0 v0_0 x0.1.1) (v0_1 : Value) (h0_1 : rdS ty_3 (· < w0.heap.size) w0 v0_1 x0.1.2.1) (v0_2 : Value) (h0_2 : rdS ty_3 (· < w0.heap.size) w0 v0_2 x0.2.2.1) (v0_3 : Value) (h0_3 : rdS ty_3 (· < w0.heap.size) w0 v0_3 x0.2.2.2) (r : Bool) (hF : F_impl_IsMarch x0 = some r) :
    Calls Try.prog 52 [(.agg #[v0_0, v0_1, (.int .i64 x0.1.2.2.1), (.int .i64 x0.1.2.2.2), (.int .i64 x0.2.1), v0_2, v0_3])].toArray w0 fun e w' => e = .returned (.bool r) ∧ Below w0.heap.size w0 w' := by
  refine calls_mk' Try.func52 rfl Try.ntmps52 rfl rfl fun Q hQ hP => ?_
  have hB : Below w0.heap.size w0 w0 := Below.refl _ _
  have hS : Sep w0.heap.size w0 [] := Sep.nil _ _
  unfold F_impl_IsMarch at hF
  refine W.seq fun K1 hK1 => ?_
  refine W.region ?_
  refine wl_box (cs := [v0_0, v0_1, (.int .i64 x0.1.2.2.1), (.int .i64 x0.1.2.2.2), (.int .i64 x0.2.1), v0_2, v0_3]) rfl rfl rfl hB hS ?_
  intro b2 w3 hb4 hB5 hS6
  refine wl_assign rfl rfl ?_
  refine WL.nil ?_
  refine fun a ha => hK1 _ _ ?_ a ha
  refine W.seq fun K7 hK7 => ?_
  refine W.seq fun K8 hK8 => ?_
  obtain ⟨k13, hk13, hF⟩ := jE1 hF
  have hJ14 : ∀ (y12 : Bool) (w9 : World) (_ : k13 y12 = some r) (_ : Below w0.heap.size w0 w9) (_ : Sep w0.heap.size w9 [R.blk b2 44 [v0_0, v0_1, (.int .i64 x0.1.2.2.1), (.int .i64 x0.1.2.2.2), (.int .i64 x0.2.1), v0_2, v0_3]]), ∀ a, St 52 [(1, (.pointer (some ⟨b2, 0, none⟩))), (38, (.bool y12))] a → K8 a w9 := by
    intro y12 w9 hF hB10 hS11
    subst hk13
    refine fun a ha => hK8 _ _ ?_ a ha
    refine W.cond rfl (fun h15 => ?_) (fun h15 => ?_)
    · replace hF := ifP h15 hF
      refine W.seq fun K16 hK16 => ?_
      refine W.region ?_
      refine wl_assign rfl rfl ?_
      refine WL.nil ?_
      refine fun a ha => hK16 _ _ ?_ a ha
      refine W.ret ?_
      have hr := Option.some.inj hF
      subst hr
      exact rets (vs := [(.bool false)]) hQ rfl ⟨rv_tmp rfl, trivial⟩ ⟨rfl, hB10⟩
    · replace hF := ifN h15 hF
      refine W.skip ?_
      refine fun a ha => hK7 _ _ ?_ a ha
      refine W.seq fun K17 hK17 => ?_
      refine W.seq fun K18 hK18 => ?_
      refine W.region ?_
      refine wl_field (o := 6) (off' := 6) ff_44_3 rfl rfl rfl ?_
      refine wl_load_blk (i := 0) (vs := [v0_3]) (v := v0_3) tf_24 rfl rfl hS11 rfl rfl rfl ?_
      refine wl_lenr (e := ty_3) (l := x0.2.2.2) Try.underlying24 rfl rfl h0_3 ?_
      refine wl_move rfl rfl ?_
      refine WL.nil ?_
      refine fun a ha => hK18 _ _ ?_ a ha
      refine W.block ?_
      refine W.loopk (fun m a w19 => ∃ (y22 : Int), St 52 [(1, (.pointer (some ⟨b2, 0, none⟩))), (40, v0_3), (41, (.int .i64 (List.length x0.2.2.2 : Int))), (42, (.int .i64 y22))] a ∧ Below w0.heap.size w0 w19 ∧ Sep w0.heap.size w19 [R.blk b2 44 [v0_0, v0_1, (.int .i64 x0.1.2.2.1), (.int .i64 x0.1.2.2.2), (.int .i64 x0.2.1), v0_2, v0_3]] ∧ F_impl_IsMarch_L1 x0 m y22 = some r) FU ?_ ?_
      ·
        exact fun a ha => ⟨0, ha.sub ⟨rfl, rfl, rfl, rfl, trivial⟩, hB10, (hS11.sel [0] rfl), hF⟩
      ·
        rintro m25 a w19 ⟨y22, ha, hB20, hS21, hF⟩ KL24 hKL24
        refine W.at ?_ ha
        cases m25 with
        | zero => exact noneE hF
        | succ m25 =>
          obtain ⟨nx23, hnx23⟩ : ∃ k, k = F_impl_IsMarch_L1 x0 m25 := ⟨_, rfl⟩
          rw [F_impl_IsMarch_L1, ← hnx23] at hF
          refine W.seq fun K26 hK26 => ?_
          refine W.region ?_
          refine wl_lss rfl rfl rfl ?_
          refine WL.nil ?_
          refine fun a ha => hK26 _ _ ?_ a ha
          refine W.seq fun K27 hK27 => ?_
          refine W.cond rfl (fun h28 => ?_) (fun h28 => ?_)
          · replace hF := ifP h28 hF
            refine W.skip ?_
            refine fun a ha => hK27 _ _ ?_ a ha
            refine W.seq fun K29 hK29 => ?_
            refine W.block ?_
            refine W.seq fun K30 hK30 => ?_
            refine W.region ?_
            obtain ⟨u31, hu31, hF⟩ := bindE hF
            refine wl_index (e := ty_3) Try.underlying24 rfl rfl rfl h0_3 hu31 ?_
            rintro p32 _ rfl hp33
            refine wl_load_p (vs := [(.int .i64 u31)]) (v := (.int .i64 u31)) tf_3 rfl rfl (hp33.ro hB20) rfl rfl ?_
            refine wl_assign rfl rfl ?_
            refine WL.nil ?_
            refine fun a ha => hK30 _ _ ?_ a ha
            refine W.seq fun K34 hK34 => ?_
            refine W.region ?_
            refine wl_move rfl rfl ?_
            refine wl_field (o := 4) (off' := 4) ff_44_1 rfl rfl rfl ?_
            refine wl_load_blk (i := 0) (vs := [(.int .i64 x0.2.1)]) (v := (.int .i64 x0.2.1)) tf_3 rfl rfl hS21 rfl rfl rfl ?_
            obtain ⟨u35, hu35, hF⟩ := bindE hF
            refine wl_call rfl Try.call67 (C_impl_within w19 u31 0 x0.2.1 _ hu35) rfl ?_
            rintro _ w36 ⟨rfl, hb37⟩
            refine ⟨_, rfl, ?_⟩
            have hB38 := hB20.trans (hb37.mono hB20.size)
            have hS39 := hS21.below hb37
            refine wl_not rfl rfl ?_
            refine WL.nil ?_
            refine fun a ha => hK34 _ _ ?_ a ha
            refine W.cond rfl (fun h41 => ?_) (fun h41 => ?_)
            · replace hF := ifP h41 hF
              refine W.seq fun K42 hK42 => ?_
              refine W.region ?_
              refine wl_assign rfl rfl ?_
              refine WL.nil ?_
              refine fun a ha => hK42 _ _ ?_ a ha
              refine W.ret ?_
              have hr := Option.some.inj hF
              subst hr
              exact rets (vs := [(.bool false)]) hQ rfl ⟨rv_tmp rfl, trivial⟩ ⟨rfl, hB38⟩
            · replace hF := ifN h41 hF
              refine W.skip ?_
              refine fun a ha => hK29 _ _ ?_ a ha
              refine W.region ?_
              refine wl_add rfl rfl rfl ?_
              refine wl_move rfl rfl ?_
              refine WL.nil ?_
              rw [hnx23] at hF
              exact fun a ha => hKL24 a _ m25 (Nat.lt_succ_self m25) ⟨(w64 (y22 + 1)), ha.sub ⟨rfl, rfl, rfl, rfl, trivial⟩, hB38, (hS39.sel [0] rfl), hF⟩
          · replace hF := ifN h28 hF
            refine W.exit ?_
            refine fun a ha => hK17 _ _ ?_ a ha
            refine W.seq fun K43 hK43 => ?_
            refine W.region ?_
            refine wl_assign rfl rfl ?_
            refine WL.nil ?_
            refine fun a ha => hK43 _ _ ?_ a ha
            refine W.ret ?_
            have hr := Option.some.inj hF
            subst hr
            exact rets (vs := [(.bool true)]) hQ rfl ⟨rv_tmp rfl, trivial⟩ ⟨rfl, hB20⟩
  refine W.regionH mixed_ [] hB5 hS6 ?_
  intro w44 hb45 hB46 hS47
  have hSW48 := KeepX.refl w44 []
  refine WH.takex (i := 0) rfl (by kernel_rfl) (by kernel_rfl) (by kernel_rfl) hP hSW48 ?_
  refine pr_field (o := 0) (off' := 0) ff_44_0 rfl rfl rfl ?_
  refine WH.takex (i := 1) rfl (by kernel_rfl) (by kernel_rfl) (by kernel_rfl) hP hSW48 ?_
  refine pr_load_blk (i := 0) (vs := [v0_0, v0_1, (.int .i64 x0.1.2.2.1), (.int .i64 x0.1.2.2.2)]) (v := (.agg #[v0_0, v0_1, (.int .i64 x0.1.2.2.1), (.int .i64 x0.1.2.2.2)])) tf_42 rfl rfl hS47 rfl rfl rfl (by simp) ?_
  refine WH.one (i := 2) (by kernel_rfl) rfl ?_
  obtain ⟨u49, hu49, hF⟩ := bindE hF
  refine wl_call rfl Try.call33 (C_impl_IsShow w44 x0.1 v0_0 (h0_0.ro hB46) v0_1 (h0_1.ro hB46) _ hu49) rfl ?_
  rintro _ w50 ⟨rfl, hb51⟩
  refine ⟨_, rfl, ?_⟩
  have hB52 := hB46.trans (hb51.mono hB46.size)
  have hS53 := hS47.below hb51
  have hSW55 := hSW48.ext hb51
  refine WL.nil (WH.ret hSW55 ?_)
  refine WH.takex (i := 3) rfl (by kernel_rfl) (by kernel_rfl) (by kernel_rfl) hP hSW55 ?_
  refine pr_not rfl rfl ?_
  refine WH.takex (i := 4) rfl (by kernel_rfl) (by kernel_rfl) (by kernel_rfl) hP hSW55 ?_
  refine pr_move rfl rfl ?_
  rcases bE (!u49) with h56 | h56
  · replace hF := ifP h56 hF
    refine WH.off (i := 5) rfl (by kernel_rfl) (by kernel_rfl) (by kernel_rfl) hP rfl rfl h56 rfl hSW55 ?_
    refine WH.off (i := 6) rfl (by kernel_rfl) (by kernel_rfl) (by kernel_rfl) hP rfl rfl h56 rfl hSW55 ?_
    refine WH.off (i := 7) rfl (by kernel_rfl) (by kernel_rfl) (by kernel_rfl) hP rfl rfl h56 rfl hSW55 ?_
    refine WH.off (i := 8) rfl (by kernel_rfl) (by kernel_rfl) (by kernel_rfl) hP rfl rfl h56 rfl hSW55 ?_
    refine WH.takex (i := 9) rfl (by kernel_rfl) (by kernel_rfl) (by kernel_rfl) hP hSW55 ?_
    refine pr_pick_t rfl rfl h56 rfl ?_
    refine WH.takex (i := 10) rfl (by kernel_rfl) (by kernel_rfl) (by kernel_rfl) hP hSW55 ?_
    refine pr_move rfl rfl ?_
    refine WH.off (i := 11) rfl (by kernel_rfl) (by kernel_rfl) (by kernel_rfl) hP rfl rfl rfl rfl hSW55 ?_
    refine WH.off (i := 12) rfl (by kernel_rfl) (by kernel_rfl) (by kernel_rfl) hP rfl rfl rfl rfl hSW55 ?_
    refine WH.off (i := 13) rfl (by kernel_rfl) (by kernel_rfl) (by kernel_rfl) hP rfl rfl rfl rfl hSW55 ?_
    refine WH.off (i := 14) rfl (by kernel_rfl) (by kernel_rfl) (by kernel_rfl) hP rfl rfl rfl rfl hSW55 ?_
    refine WH.off (i := 15) rfl (by kernel_rfl) (by kernel_rfl) (by kernel_rfl) hP rfl rfl rfl rfl hSW55 ?_
    refine WH.off (i := 16) rfl (by kernel_rfl) (by kernel_rfl) (by kernel_rfl) hP rfl rfl rfl rfl hSW55 ?_
    refine WH.off (i := 17) rfl (by kernel_rfl) (by kernel_rfl) (by kernel_rfl) hP rfl rfl rfl rfl hSW55 ?_
    refine WH.off (i := 18) rfl (by kernel_rfl) (by kernel_rfl) (by kernel_rfl) hP rfl rfl rfl rfl hSW55 ?_
    refine WH.off (i := 19) rfl (by kernel_rfl) (by kernel_rfl) (by kernel_rfl) hP rfl rfl rfl rfl hSW55 ?_
    refine WH.off (i := 20) rfl (by kernel_rfl) (by kernel_rfl) (by kernel_rfl) hP rfl rfl rfl rfl hSW55 ?_
    refine WH.takex (i := 21) rfl (by kernel_rfl) (by kernel_rfl) (by kernel_rfl) hP hSW55 ?_
    refine pr_pick_t rfl rfl rfl rfl ?_
    refine WH.takex (i := 22) rfl (by kernel_rfl) (by kernel_rfl) (by kernel_rfl) hP hSW55 ?_
    refine pr_move rfl rfl ?_
    refine WH.off (i := 23) rfl (by kernel_rfl) (by kernel_rfl) (by kernel_rfl) hP rfl rfl rfl rfl hSW55 ?_
    refine WH.off (i := 24) rfl (by kernel_rfl) (by kernel_rfl) (by kernel_rfl) hP rfl rfl rfl rfl hSW55 ?_
    refine WH.off (i := 25) rfl (by kernel_rfl) (by kernel_rfl) (by kernel_rfl) hP rfl rfl rfl rfl hSW55 ?_
    refine WH.off (i := 26) rfl (by kernel_rfl) (by kernel_rfl) (by kernel_rfl) hP rfl rfl rfl rfl hSW55 ?_
    refine WH.off (i := 27) rfl (by kernel_rfl) (by kernel_rfl) (by kernel_rfl) hP rfl rfl rfl rfl hSW55 ?_
    refine WH.off (i := 28) rfl (by kernel_rfl) (by kernel_rfl) (by kernel_rfl) hP rfl rfl rfl rfl hSW55 ?_
    refine WH.off (i := 29) rfl (by kernel_rfl) (by kernel_rfl) (by kernel_rfl) hP rfl rfl rfl rfl hSW55 ?_
    refine WH.off (i := 30) rfl (by kernel_rfl) (by kernel_rfl) (by kernel_rfl) hP rfl rfl rfl rfl hSW55 ?_
    refine WH.off (i := 31) rfl (by kernel_rfl) (by kernel_rfl) (by kernel_rfl) hP rfl rfl rfl rfl hSW55 ?_
    refine WH.off (i := 32) rfl (by kernel_rfl) (by kernel_rfl) (by kernel_rfl) hP rfl rfl rfl rfl hSW55 ?_
    refine WH.takex (i := 33) rfl (by kernel_rfl) (by kernel_rfl) (by kernel_rfl) hP hSW55 ?_
    refine pr_pick_t rfl rfl rfl rfl ?_
    refine WH.done (by kernel_rfl) ?_
    exact fun a ha => hJ14 (true) _ hF hB52 (hS53.sel [0] rfl) a (ha.sub ⟨rfl, rfl, trivial⟩)
  · replace hF := ifN h56 hF
    refine WH.takexg (i := 5) rfl (by kernel_rfl) (by kernel_rfl) (by kernel_rfl) hP rfl rfl h56 hSW55 ?_
    refine pr_field (o := 4) (off' := 4) ff_44_1 rfl rfl rfl ?_
    refine WH.takexg (i := 6) rfl (by kernel_rfl) (by kernel_rfl) (by kernel_rfl) hP rfl rfl h56 hSW55 ?_
    refine pr_load_blk (i := 0) (vs := [(.int .i64 x0.2.1)]) (v := (.int .i64 x0.2.1)) tf_3 rfl rfl hS47 rfl rfl rfl (by simp) ?_
    refine WH.one (i := 7) (by kernel_rfl) rfl ?_
    refine wl_on rfl rfl h56 ?_
    obtain ⟨u57, hu57, hF⟩ := bindE hF
    refine wl_call rfl Try.call67 (C_impl_within w50 x0.2.1 0 1000 _ hu57) rfl ?_
    rintro _ w58 ⟨rfl, hb59⟩
    refine ⟨_, rfl, ?_⟩
    have hB60 := hB52.trans (hb59.mono hB52.size)
    have hS61 := hS53.below hb59
    have hSW63 := hSW55.ext hb59
    refine WL.nil (WH.ret hSW63 ?_)
    refine WH.takexg (i := 8) rfl (by kernel_rfl) (by kernel_rfl) (by kernel_rfl) hP rfl rfl h56 hSW63 ?_
    refine pr_not rfl rfl ?_
    refine WH.takex (i := 9) rfl (by kernel_rfl) (by kernel_rfl) (by kernel_rfl) hP hSW63 ?_
    refine pr_pick_f rfl rfl h56 rfl ?_
    refine WH.takex (i := 10) rfl (by kernel_rfl) (by kernel_rfl) (by kernel_rfl) hP hSW63 ?_
    refine pr_move rfl rfl ?_
    rcases bE (!u57) with h64 | h64
    · replace hF := ifP h64 hF
      refine WH.off (i := 11) rfl (by kernel_rfl) (by kernel_rfl) (by kernel_rfl) hP rfl rfl h64 rfl hSW63 ?_
      refine WH.off (i := 12) rfl (by kernel_rfl) (by kernel_rfl) (by kernel_rfl) hP rfl rfl h64 rfl hSW63 ?_
      refine WH.off (i := 13) rfl (by kernel_rfl) (by kernel_rfl) (by kernel_rfl) hP rfl rfl h64 rfl hSW63 ?_
      refine WH.off (i := 14) rfl (by kernel_rfl) (by kernel_rfl) (by kernel_rfl) hP rfl rfl h64 rfl hSW63 ?_
      refine WH.off (i := 15) rfl (by kernel_rfl) (by kernel_rfl) (by kernel_rfl) hP rfl rfl h64 rfl hSW63 ?_
      refine WH.off (i := 16) rfl (by kernel_rfl) (by kernel_rfl) (by kernel_rfl) hP rfl rfl h64 rfl hSW63 ?_
      refine WH.off (i := 17) rfl (by kernel_rfl) (by kernel_rfl) (by kernel_rfl) hP rfl rfl h64 rfl hSW63 ?_
      refine WH.off (i := 18) rfl (by kernel_rfl) (by kernel_rfl) (by kernel_rfl) hP rfl rfl h64 rfl hSW63 ?_
      refine WH.off (i := 19) rfl (by kernel_rfl) (by kernel_rfl) (by kernel_rfl) hP rfl rfl h64 rfl hSW63 ?_
      refine WH.off (i := 20) rfl (by kernel_rfl) (by kernel_rfl) (by kernel_rfl) hP rfl rfl h64 rfl hSW63 ?_
      refine WH.takex (i := 21) rfl (by kernel_rfl) (by kernel_rfl) (by kernel_rfl) hP hSW63 ?_
      refine pr_pick_t rfl rfl h64 rfl ?_
      refine WH.takex (i := 22) rfl (by kernel_rfl) (by kernel_rfl) (by kernel_rfl) hP hSW63 ?_
      refine pr_move rfl rfl ?_
      refine WH.off (i := 23) rfl (by kernel_rfl) (by kernel_rfl) (by kernel_rfl) hP rfl rfl rfl rfl hSW63 ?_
      refine WH.off (i := 24) rfl (by kernel_rfl) (by kernel_rfl) (by kernel_rfl) hP rfl rfl rfl rfl hSW63 ?_
      refine WH.off (i := 25) rfl (by kernel_rfl) (by kernel_rfl) (by kernel_rfl) hP rfl rfl rfl rfl hSW63 ?_
      refine WH.off (i := 26) rfl (by kernel_rfl) (by kernel_rfl) (by kernel_rfl) hP rfl rfl rfl rfl hSW63 ?_
      refine WH.off (i := 27) rfl (by kernel_rfl) (by kernel_rfl) (by kernel_rfl) hP rfl rfl rfl rfl hSW63 ?_
      refine WH.off (i := 28) rfl (by kernel_rfl) (by kernel_rfl) (by kernel_rfl) hP rfl rfl rfl rfl hSW63 ?_
      refine WH.off (i := 29) rfl (by kernel_rfl) (by kernel_rfl) (by kernel_rfl) hP rfl rfl rfl rfl hSW63 ?_
      refine WH.off (i := 30) rfl (by kernel_rfl) (by kernel_rfl) (by kernel_rfl) hP rfl rfl rfl rfl hSW63 ?_
      refine WH.off (i := 31) rfl (by kernel_rfl) (by kernel_rfl) (by kernel_rfl) hP rfl rfl rfl rfl hSW63 ?_
      refine WH.off (i := 32) rfl (by kernel_rfl) (by kernel_rfl) (by kernel_rfl) hP rfl rfl rfl rfl hSW63 ?_
      refine WH.takex (i := 33) rfl (by kernel_rfl) (by kernel_rfl) (by kernel_rfl) hP hSW63 ?_
      refine pr_pick_t rfl rfl rfl rfl ?_
      refine WH.done (by kernel_rfl) ?_
      exact fun a ha => hJ14 (true) _ hF hB60 (hS61.sel [0] rfl) a (ha.sub ⟨rfl, rfl, trivial⟩)
    · replace hF := ifN h64 hF
      refine WH.takexg (i := 11) rfl (by kernel_rfl) (by kernel_rfl) (by kernel_rfl) hP rfl rfl h64 hSW63 ?_
      refine pr_field (o := 5) (off' := 5) ff_44_2 rfl rfl rfl ?_
      refine WH.takexg (i := 12) rfl (by kernel_rfl) (by kernel_rfl) (by kernel_rfl) hP rfl rfl h64 hSW63 ?_
      refine pr_load_blk (i := 0) (vs := [v0_2]) (v := v0_2) tf_24 rfl rfl hS47 rfl rfl rfl (by simp) ?_
      refine WH.takexg (i := 13) rfl (by kernel_rfl) (by kernel_rfl) (by kernel_rfl) hP rfl rfl h64 hSW63 ?_
      refine pr_field (o := 0) (off' := 0) ff_44_0 rfl rfl rfl ?_
      refine WH.takexg (i := 14) rfl (by kernel_rfl) (by kernel_rfl) (by kernel_rfl) hP rfl rfl h64 hSW63 ?_
      refine pr_field (o := 0) (off' := 0) ff_42_0 rfl rfl rfl ?_
      refine WH.takexg (i := 15) rfl (by kernel_rfl) (by kernel_rfl) (by kernel_rfl) hP rfl rfl h64 hSW63 ?_
      refine pr_load_blk (i := 0) (vs := [v0_0]) (v := v0_0) tf_40 rfl rfl hS47 rfl rfl rfl (by simp) ?_
      obtain ⟨u65, hu65, hF⟩ := bindE hF
      refine WH.takexg (i := 16) rfl (by kernel_rfl) (by kernel_rfl) (by kernel_rfl) hP rfl rfl h64 hSW63 ?_
      refine pr_index (e := ty_82) Try.underlying40 rfl rfl rfl h0_0 hu65 ?_
      rintro p66 _ ⟨v68, rfl, hv69⟩ hp67
      refine WH.takexg (i := 17) rfl (by kernel_rfl) (by kernel_rfl) (by kernel_rfl) hP rfl rfl h64 hSW63 ?_
      refine pr_load_p (vs := [v68]) (v := v68) tf_82 rfl rfl (hp67.kx hB46 (by simp)) rfl rfl ?_
      refine WH.takexg (i := 18) rfl (by kernel_rfl) (by kernel_rfl) (by kernel_rfl) hP rfl rfl h64 hSW63 ?_
      refine pr_lenr (e := ty_106) (l := u65) Try.underlying82 rfl rfl hv69 ?_
      refine WH.one (i := 19) (by kernel_rfl) rfl ?_
      refine wl_on rfl rfl h64 ?_
      obtain ⟨u70, hu70, hF⟩ := bindE hF
      refine wl_call rfl Try.call87 (C_impl_arePerformers w58 x0.2.2.1 v0_2 (h0_2.ro hB60) (List.length u65 : Int) _ hu70) rfl ?_
      rintro _ w71 ⟨rfl, hb72⟩
      refine ⟨_, rfl, ?_⟩
      have hB73 := hB60.trans (hb72.mono hB60.size)
      have hS74 := hS61.below hb72
      have hSW76 := hSW63.ext hb72
      refine WL.nil (WH.ret hSW76 ?_)
      refine WH.takexg (i := 20) rfl (by kernel_rfl) (by kernel_rfl) (by kernel_rfl) hP rfl rfl h64 hSW76 ?_
      refine pr_not rfl rfl ?_
      refine WH.takex (i := 21) rfl (by kernel_rfl) (by kernel_rfl) (by kernel_rfl) hP hSW76 ?_
      refine pr_pick_f rfl rfl h64 rfl ?_
      refine WH.takex (i := 22) rfl (by kernel_rfl) (by kernel_rfl) (by kernel_rfl) hP hSW76 ?_
      refine pr_move rfl rfl ?_
      rcases bE (!u70) with h77 | h77
      · replace hF := ifP h77 hF
        refine WH.off (i := 23) rfl (by kernel_rfl) (by kernel_rfl) (by kernel_rfl) hP rfl rfl h77 rfl hSW76 ?_
        refine WH.off (i := 24) rfl (by kernel_rfl) (by kernel_rfl) (by kernel_rfl) hP rfl rfl h77 rfl hSW76 ?_
        refine WH.off (i := 25) rfl (by kernel_rfl) (by kernel_rfl) (by kernel_rfl) hP rfl rfl h77 rfl hSW76 ?_
        refine WH.off (i := 26) rfl (by kernel_rfl) (by kernel_rfl) (by kernel_rfl) hP rfl rfl h77 rfl hSW76 ?_
        refine WH.off (i := 27) rfl (by kernel_rfl) (by kernel_rfl) (by kernel_rfl) hP rfl rfl h77 rfl hSW76 ?_
        refine WH.off (i := 28) rfl (by kernel_rfl) (by kernel_rfl) (by kernel_rfl) hP rfl rfl h77 rfl hSW76 ?_
        refine WH.off (i := 29) rfl (by kernel_rfl) (by kernel_rfl) (by kernel_rfl) hP rfl rfl h77 rfl hSW76 ?_
        refine WH.off (i := 30) rfl (by kernel_rfl) (by kernel_rfl) (by kernel_rfl) hP rfl rfl h77 rfl hSW76 ?_
        refine WH.off (i := 31) rfl (by kernel_rfl) (by kernel_rfl) (by kernel_rfl) hP rfl rfl h77 rfl hSW76 ?_
        refine WH.off (i := 32) rfl (by kernel_rfl) (by kernel_rfl) (by kernel_rfl) hP rfl rfl h77 rfl hSW76 ?_
        refine WH.takex (i := 33) rfl (by kernel_rfl) (by kernel_rfl) (by kernel_rfl) hP hSW76 ?_
        refine pr_pick_t rfl rfl h77 rfl ?_
        refine WH.done (by kernel_rfl) ?_
        exact fun a ha => hJ14 (true) _ hF hB73 (hS74.sel [0] rfl) a (ha.sub ⟨rfl, rfl, trivial⟩)
      · replace hF := ifN h77 hF
        refine WH.takexg (i := 23) rfl (by kernel_rfl) (by kernel_rfl) (by kernel_rfl) hP rfl rfl h77 hSW76 ?_
        refine pr_field (o := 6) (off' := 6) ff_44_3 rfl rfl rfl ?_
        refine WH.takexg (i := 24) rfl (by kernel_rfl) (by kernel_rfl) (by kernel_rfl) hP rfl rfl h77 hSW76 ?_
        refine pr_load_blk (i := 0) (vs := [v0_3]) (v := v0_3) tf_24 rfl rfl hS47 rfl rfl rfl (by simp) ?_
        refine WH.takexg (i := 25) rfl (by kernel_rfl) (by kernel_rfl) (by kernel_rfl) hP rfl rfl h77 hSW76 ?_
        refine pr_lenr (e := ty_3) (l := x0.2.2.2) Try.underlying24 rfl rfl h0_3 ?_
        refine WH.takexg (i := 26) rfl (by kernel_rfl) (by kernel_rfl) (by kernel_rfl) hP rfl rfl h77 hSW76 ?_
        refine pr_field (o := 0) (off' := 0) ff_44_0 rfl rfl rfl ?_
        refine WH.takexg (i := 27) rfl (by kernel_rfl) (by kernel_rfl) (by kernel_rfl) hP rfl rfl h77 hSW76 ?_
        refine pr_field (o := 0) (off' := 0) ff_42_0 rfl rfl rfl ?_
        refine WH.takexg (i := 28) rfl (by kernel_rfl) (by kernel_rfl) (by kernel_rfl) hP rfl rfl h77 hSW76 ?_
        refine pr_load_blk (i := 0) (vs := [v0_0]) (v := v0_0) tf_40 rfl rfl hS47 rfl rfl rfl (by simp) ?_
        obtain ⟨u78, hu78, hF⟩ := bindE hF
        refine WH.takexg (i := 29) rfl (by kernel_rfl) (by kernel_rfl) (by kernel_rfl) hP rfl rfl h77 hSW76 ?_
        refine pr_index (e := ty_82) Try.underlying40 rfl rfl rfl h0_0 hu78 ?_
        rintro p79 _ ⟨v81, rfl, hv82⟩ hp80
        refine WH.takexg (i := 30) rfl (by kernel_rfl) (by kernel_rfl) (by kernel_rfl) hP rfl rfl h77 hSW76 ?_
        refine pr_load_p (vs := [v81]) (v := v81) tf_82 rfl rfl (hp80.kx hB46 (by simp)) rfl rfl ?_
        refine WH.takexg (i := 31) rfl (by kernel_rfl) (by kernel_rfl) (by kernel_rfl) hP rfl rfl h77 hSW76 ?_
        refine pr_lenr (e := ty_106) (l := u78) Try.underlying82 rfl rfl hv82 ?_
        refine WH.takexg (i := 32) rfl (by kernel_rfl) (by kernel_rfl) (by kernel_rfl) hP rfl rfl h77 hSW76 ?_
        refine pr_neq rfl rfl rfl ?_
        refine WH.takex (i := 33) rfl (by kernel_rfl) (by kernel_rfl) (by kernel_rfl) hP hSW76 ?_
        refine pr_pick_f rfl rfl h77 rfl ?_
        refine WH.done (by kernel_rfl) ?_
        exact fun a ha => hJ14 (((List.length x0.2.2.2 : Int) != (List.length u78 : Int))) _ hF hB73 (hS74.sel [0] rfl) a (ha.sub ⟨rfl, rfl, trivial⟩)
theorem C_impl_hasPerformer (w0 : World) (x0 : (((List (List (Int × Int))) × (List Int) × Int × Int) × Int × (List Int) × (List Int))) (v0_0 : Value) (h0_0 : rdS ty_82 (· < w0.heap.size) w0 v0_0 x0.1.1) (v0_1 : Value) (h0_1 : rdS ty_3 (· < w0.heap.size) w0 v0_1 x0.1.2.1) (v0_2 : Value) (h0_2 : rdS ty_3 (· < w0.heap.size) w0 v0_2 x0.2.2.1) (v0_3 : Value) (h0_3 : rdS ty_3 (· < w0.heap.size) w0 v0_3 x0.2.2.2) (x1 : Int) (r : Bool) (hF : F_impl_hasPerformer x0 x1 = some r) :
    Calls Try.prog 42 [(.agg #[v0_0, v0_1, (.int .i64 x0.1.2.2.1), (.int .i64 x0.1.2.2.2), (.int .i64 x0.2.1), v0_2, v0_3]), (.int .i64 x1)].toArray w0 fun e w' => e = .returned (.bool r) ∧ Below w0.heap.size w0 w' := by
  refine calls_mk' Try.func42 rfl Try.ntmps42 rfl rfl fun Q hQ hP => ?_
  have hB : Below w0.heap.size w0 w0 := Below.refl _ _
  have hS : Sep w0.heap.size w0 [] := Sep.nil _ _
  unfold F_impl_hasPerformer at hF
  refine W.seq fun K1 hK1 => ?_
  refine W.region ?_
  refine wl_box (cs := [v0_0, v0_1, (.int .i64 x0.1.2.2.1), (.int .i64 x0.1.2.2.2), (.int .i64 x0.2.1), v0_2, v0_3]) rfl rfl rfl hB hS ?_
  intro b2 w3 hb4 hB5 hS6
  refine wl_assign rfl rfl ?_
  refine WL.nil ?_
  refine fun a ha => hK1 _ _ ?_ a ha
  refine W.seq fun K7 hK7 => ?_
  obtain ⟨k12, hk12, hF⟩ := jE1 hF
  have hJ13 : ∀ (y11 : Bool) (w8 : World) (_ : k12 y11 = some r) (_ : Below w0.heap.size w0 w8) (_ : Sep w0.heap.size w8 []), ∀ a, St 15 [(4, (.bool y11))] a → K7 a w8 := by
    intro y11 w8 hF hB9 hS10
    subst hk12
    refine fun a ha => hK7 _ _ ?_ a ha
    refine W.ret ?_
    have hr := Option.some.inj hF
    subst hr
    exact rets (vs := [(.bool y11)]) hQ rfl ⟨rv_tmp rfl, trivial⟩ ⟨rfl, hB9⟩
  refine W.region ?_
  refine wl_load_blk (i := 0) (vs := [v0_0, v0_1, (.int .i64 x0.1.2.2.1), (.int .i64 x0.1.2.2.2), (.int .i64 x0.2.1), v0_2, v0_3]) (v := (.agg #[v0_0, v0_1, (.int .i64 x0.1.2.2.1), (.int .i64 x0.1.2.2.2), (.int .i64 x0.2.1), v0_2, v0_3])) tf_44 rfl rfl hS6 rfl rfl rfl ?_
  obtain ⟨u14, hu14, hF⟩ := bindE hF
  refine wl_call rfl Try.call52 (C_impl_IsMarch w3 x0 v0_0 (h0_0.ro hB5) v0_1 (h0_1.ro hB5) v0_2 (h0_2.ro hB5) v0_3 (h0_3.ro hB5) _ hu14) rfl ?_
  rintro _ w15 ⟨rfl, hb16⟩
  refine ⟨_, rfl, ?_⟩
  have hB17 := hB5.trans (hb16.mono hB5.size)
  have hS18 := hS6.below hb16
  refine wl_move rfl rfl ?_
  rcases bE u14 with h20 | h20
  · replace hF := ifP h20 hF
    refine wl_on rfl rfl h20 ?_
    refine wl_move rfl rfl ?_
    refine wl_on rfl rfl h20 ?_
    refine wl_field (o := 6) (off' := 6) ff_44_3 rfl rfl rfl ?_
    refine wl_on rfl rfl h20 ?_
    refine wl_load_blk (i := 0) (vs := [v0_3]) (v := v0_3) tf_24 rfl rfl hS18 rfl rfl rfl ?_
    refine wl_on rfl rfl h20 ?_
    refine wl_lenr (e := ty_3) (l := x0.2.2.2) Try.underlying24 rfl rfl h0_3 ?_
    refine wl_on rfl rfl h20 ?_
    refine wl_sub rfl rfl rfl ?_
    refine wl_on rfl rfl h20 ?_
    obtain ⟨u21, hu21, hF⟩ := bindE hF
    refine wl_call rfl Try.call67 (C_impl_within w15 x1 0 (w64 ((List.length x0.2.2.2 : Int) - 1)) _ hu21) rfl ?_
    rintro _ w22 ⟨rfl, hb23⟩
    refine ⟨_, rfl, ?_⟩
    have hB24 := hB17.trans (hb23.mono hB17.size)
    have hS25 := hS18.below hb23
    refine wl_pick_t rfl rfl h20 rfl ?_
    refine wl_assign rfl rfl ?_
    refine WL.nil ?_
    exact fun a ha => hJ13 (u21) _ hF hB24 (hS25.sel [] rfl) a (ha.sub ⟨rfl, trivial⟩)
  · replace hF := ifN h20 hF
    refine wl_off rfl rfl rfl h20 ?_
    refine wl_off rfl rfl rfl h20 ?_
    refine wl_off rfl rfl rfl h20 ?_
    refine wl_off rfl rfl rfl h20 ?_
    refine wl_off rfl rfl rfl h20 ?_
    refine wl_off rfl rfl rfl h20 ?_
    refine wl_pick_f rfl rfl h20 rfl ?_
    refine wl_assign rfl rfl ?_
    refine WL.nil ?_
    exact fun a ha => hJ13 (false) _ hF hB17 (hS18.sel [] rfl) a (ha.sub ⟨rfl, trivial⟩)
theorem C_slices_Index_int_int (w0 : World) (x0 : (List Int)) (v0_0 : Value) (h0_0 : rdS ty_3 (· < w0.heap.size) w0 v0_0 x0) (x1 : Int) (r : Int) (hF : F_slices_Index_int_int x0 x1 = some r) :
    Calls Try.prog 77 [v0_0, (.int .i64 x1)].toArray w0 fun e w' => e = .returned (.int .i64 r) ∧ Below w0.heap.size w0 w' := by
  refine calls_mk' Try.func77 rfl Try.ntmps77 rfl rfl fun Q hQ hP => ?_
  have hB : Below w0.heap.size w0 w0 := Below.refl _ _
  have hS : Sep w0.heap.size w0 [] := Sep.nil _ _
  unfold F_slices_Index_int_int at hF
  refine W.seq fun K1 hK1 => ?_
  refine W.region ?_
  refine wl_assign rfl rfl ?_
  refine WL.nil ?_
  refine fun a ha => hK1 _ _ ?_ a ha
  refine W.seq fun K2 hK2 => ?_
  refine W.seq fun K3 hK3 => ?_
  refine W.region ?_
  refine wl_move rfl rfl ?_
  refine wl_lenr (e := ty_3) (l := x0) Try.underlying24 rfl rfl h0_0 ?_
  refine wl_move rfl rfl ?_
  refine WL.nil ?_
  refine fun a ha => hK3 _ _ ?_ a ha
  refine W.block ?_
  refine W.loopk (fun m a w4 => ∃ (y7 : Int), St 19 [(0, v0_0), (1, (.int .i64 x1)), (7, (.int .i64 (List.length x0 : Int))), (8, (.int .i64 y7))] a ∧ Below w0.heap.size w0 w4 ∧ Sep w0.heap.size w4 [] ∧ F_slices_Index_int_int_L1 x0 x1 m y7 = some r) FU ?_ ?_
  ·
    exact fun a ha => ⟨0, ha.sub ⟨rfl, rfl, rfl, rfl, trivial⟩, hB, (hS.sel [] rfl), hF⟩
  ·
    rintro m10 a w4 ⟨y7, ha, hB5, hS6, hF⟩ KL9 hKL9
    refine W.at ?_ ha
    cases m10 with
    | zero => exact noneE hF
    | succ m10 =>
      obtain ⟨nx8, hnx8⟩ : ∃ k, k = F_slices_Index_int_int_L1 x0 x1 m10 := ⟨_, rfl⟩
      rw [F_slices_Index_int_int_L1, ← hnx8] at hF
      refine W.seq fun K11 hK11 => ?_
      refine W.region ?_
      refine wl_lss rfl rfl rfl ?_
      refine WL.nil ?_
      refine fun a ha => hK11 _ _ ?_ a ha
      refine W.seq fun K12 hK12 => ?_
      refine W.cond rfl (fun h13 => ?_) (fun h13 => ?_)
      · replace hF := ifP h13 hF
        refine W.skip ?_
        refine fun a ha => hK12 _ _ ?_ a ha
        refine W.seq fun K14 hK14 => ?_
        refine W.block ?_
        refine W.seq fun K15 hK15 => ?_
        refine W.region ?_
        refine wl_move rfl rfl ?_
        refine wl_assign rfl rfl ?_
        refine WL.nil ?_
        refine fun a ha => hK15 _ _ ?_ a ha
        refine W.seq fun K16 hK16 => ?_
        refine W.region ?_
        refine wl_move rfl rfl ?_
        refine wl_move rfl rfl ?_
        refine wl_move rfl rfl ?_
        obtain ⟨u17, hu17, hF⟩ := bindE hF
        refine wl_index (e := ty_3) Try.underlying24 rfl rfl rfl h0_0 hu17 ?_
        rintro p18 _ rfl hp19
        refine wl_load_p (vs := [(.int .i64 u17)]) (v := (.int .i64 u17)) tf_3 rfl rfl (hp19.ro hB5) rfl rfl ?_
        refine wl_eql rfl rfl rfl ?_
        refine WL.nil ?_
        refine fun a ha => hK16 _ _ ?_ a ha
        refine W.cond rfl (fun h20 => ?_) (fun h20 => ?_)
        · replace hF := ifP h20 hF
          refine W.seq fun K21 hK21 => ?_
          refine W.region ?_
          refine wl_move rfl rfl ?_
          refine wl_assign rfl rfl ?_
          refine WL.nil ?_
          refine fun a ha => hK21 _ _ ?_ a ha
          refine W.ret ?_
          have hr := Option.some.inj hF
          subst hr
          exact rets (vs := [(.int .i64 y7)]) hQ rfl ⟨rv_tmp rfl, trivial⟩ ⟨rfl, hB5⟩
        · replace hF := ifN h20 hF
          refine W.skip ?_
          refine fun a ha => hK14 _ _ ?_ a ha
          refine W.region ?_
          refine wl_add rfl rfl rfl ?_
          refine wl_move rfl rfl ?_
          refine WL.nil ?_
          rw [hnx8] at hF
          exact fun a ha => hKL9 a _ m10 (Nat.lt_succ_self m10) ⟨(w64 (y7 + 1)), ha.sub ⟨rfl, rfl, rfl, rfl, trivial⟩, hB5, (hS6.sel [] rfl), hF⟩
      · replace hF := ifN h13 hF
        refine W.exit ?_
        refine fun a ha => hK2 _ _ ?_ a ha
        refine W.seq fun K22 hK22 => ?_
        refine W.region ?_
        refine wl_assign rfl rfl ?_
        refine WL.nil ?_
        refine fun a ha => hK22 _ _ ?_ a ha
        refine W.ret ?_
        have hr := Option.some.inj hF
        subst hr
        exact rets (vs := [(.int .i64 (-1))]) hQ rfl ⟨rv_tmp rfl, trivial⟩ ⟨rfl, hB5⟩
theorem C_slices_Contains_int_int (w0 : World) (x0 : (List Int)) (v0_0 : Value) (h0_0 : rdS ty_3 (· < w0.heap.size) w0 v0_0 x0) (x1 : Int) (r : Bool) (hF : F_slices_Contains_int_int x0 x1 = some r) :
    Calls Try.prog 43 [v0_0, (.int .i64 x1)].toArray w0 fun e w' => e = .returned (.bool r) ∧ Below w0.heap.size w0 w' := by
  refine calls_mk' Try.func43 rfl Try.ntmps43 rfl rfl fun Q hQ hP => ?_
  have hB : Below w0.heap.size w0 w0 := Below.refl _ _
  have hS : Sep w0.heap.size w0 [] := Sep.nil _ _
  unfold F_slices_Contains_int_int at hF
  refine W.seq fun K1 hK1 => ?_
  refine W.region ?_
  refine wl_assign rfl rfl ?_
  refine WL.nil ?_
  refine fun a ha => hK1 _ _ ?_ a ha
  refine W.seq fun K2 hK2 => ?_
  refine W.region ?_
  refine wl_move rfl rfl ?_
  refine wl_move rfl rfl ?_
  obtain ⟨u3, hu3, hF⟩ := bindE hF
  refine wl_call rfl Try.call77 (C_slices_Index_int_int w0 x0 v0_0 (h0_0.ro hB) x1 _ hu3) rfl ?_
  rintro _ w4 ⟨rfl, hb5⟩
  refine ⟨_, rfl, ?_⟩
  have hB6 := hB.trans (hb5.mono hB.size)
  have hS7 := hS.below hb5
  refine wl_geq rfl rfl rfl ?_
  refine wl_assign rfl rfl ?_
  refine WL.nil ?_
  refine fun a ha => hK2 _ _ ?_ a ha
  refine W.ret ?_
  have hr := Option.some.inj hF
  subst hr
  exact rets (vs := [(.bool (decide (0 ≤ u3)))]) hQ rfl ⟨rv_tmp rfl, trivial⟩ ⟨rfl, hB6⟩
theorem C_impl_copyInts (w0 : World) (x0 : (List Int)) (v0_0 : Value) (h0_0 : rdS ty_3 (· < w0.heap.size) w0 v0_0 x0) (r : (List Int)) (hF : F_impl_copyInts x0 = some r) :
    Calls Try.prog 79 [v0_0].toArray w0 fun e w' => ∃ (q0 : Value) (G0 : List Nat), e = .returned q0 ∧ Below w0.heap.size w0 w' ∧ Sep w0.heap.size w' [R.own ty_3 G0 q0 r] := by
  refine calls_mk' Try.func79 rfl Try.ntmps79 rfl rfl fun Q hQ hP => ?_
  have hB : Below w0.heap.size w0 w0 := Below.refl _ _
  have hS : Sep w0.heap.size w0 [] := Sep.nil _ _
  unfold F_impl_copyInts at hF
  refine W.seq fun K1 hK1 => ?_
  refine W.region ?_
  refine wl_assign rfl rfl ?_
  refine WL.nil ?_
  refine fun a ha => hK1 _ _ ?_ a ha
  refine W.seq fun K2 hK2 => ?_
  refine W.region ?_
  refine wl_lit (vs := []) (l := []) fl_3 Try.underlying24 rfl rfl rfl rfl rfl rfl hB hS ?_
  intro v3 F4 w5 hb6 hB7 hS8
  refine wl_move rfl rfl ?_
  obtain ⟨u9, hu9, hF⟩ := bindE hF
  refine wl_append (i := 0) (S := (· < w5.heap.size)) fl_3 Try.underlying24 rfl rfl rfl hB7 hS8 rfl (h0_0.ro hB7) hu9 ?_
  intro v10 F11 w12 hk13 hB14 hS15
  refine wl_assign rfl rfl ?_
  refine WL.nil ?_
  refine fun a ha => hK2 _ _ ?_ a ha
  refine W.ret ?_
  have hr := Option.some.inj hF
  subst hr
  exact rets (vs := [v10]) hQ rfl ⟨rv_tmp rfl, trivial⟩ ⟨v10, F11, rfl, hB14, hS15.sel [0] rfl⟩
theorem C_impl_copyShow (w0 : World) (x0 : ((List (List (Int × Int))) × (List Int) × Int × Int)) (v0_0 : Value) (h0_0 : rdS ty_82 (· < w0.heap.size) w0 v0_0 x0.1) (v0_1 : Value) (h0_1 : rdS ty_3 (· < w0.heap.size) w0 v0_1 x0.2.1) (r : ((List (List (Int × Int))) × (List Int) × Int × Int)) (hF : F_impl_copyShow x0 = some r) :
    Calls Try.prog 78 [(.agg #[v0_0, v0_1, (.int .i64 x0.2.2.1), (.int .i64 x0.2.2.2)])].toArray w0 fun e w' => ∃ (q0 : Value) (G0 : List Nat) (q1 : Value) (G1 : List Nat), e = .returned (.agg #[q0, q1, (.int .i64 r.2.2.1), (.int .i64 r.2.2.2)]) ∧ Below w0.heap.size w0 w' ∧ Sep w0.heap.size w' [R.own ty_82 G0 q0 r.1, R.own ty_3 G1 q1 r.2.1] := by
  refine calls_mk' Try.func78 rfl Try.ntmps78 rfl rfl fun Q hQ hP => ?_
  have hB : Below w0.heap.size w0 w0 := Below.refl _ _
  have hS : Sep w0.heap.size w0 [] := Sep.nil _ _
  unfold F_impl_copyShow at hF
  refine W.seq fun K1 hK1 => ?_
  refine W.region ?_
  refine wl_box (cs := [v0_0, v0_1, (.int .i64 x0.2.2.1), (.int .i64 x0.2.2.2)]) rfl rfl rfl hB hS ?_
  intro b2 w3 hb4 hB5 hS6
  refine wl_alloc (cs := [(.slice none 0 0), (.slice none 0 0), (.int .i64 0), (.int .i64 0)]) tf_42 rfl rfl hB5 hS6 ?_
  intro b7 w8 hb9 hB10 hS11
  refine WL.nil ?_
  refine fun a ha => hK1 _ _ ?_ a ha
  refine W.seq fun K12 hK12 => ?_
  obtain ⟨k25, hk25, hF⟩ := jE4 hF
  have hJ26 : ∀ (l17 : (List (List (Int × Int)))) (l20 : (List Int)) (y23 : Int) (y24 : Int) (v18 : Value) (F19 : List Nat) (v21 : Value) (F22 : List Nat) (b16 : Nat) (w13 : World) (_ : k25 l17 l20 y23 y24 = some r) (_ : Below w0.heap.size w0 w13) (_ : Sep w0.heap.size w13 [R.blk b2 42 [v0_0, v0_1, (.int .i64 x0.2.2.1), (.int .i64 x0.2.2.2)], R.blk b7 42 [(.slice none 0 0), (.slice none 0 0), (.int .i64 0), (.int .i64 0)], R.own ty_82 F19 v18 l17, R.own ty_3 F22 v21 l20, R.blk b16 42 [v18, v21, (.int .i64 y23), (.int .i64 y24)]]), ∀ a, St 32 [(1, (.pointer (some ⟨b2, 0, none⟩))), (2, (.pointer (some ⟨b7, 0, none⟩))), (3, (.pointer (some ⟨b16, 0, none⟩)))] a → K12 a w13 := by
    intro l17 l20 y23 y24 v18 F19 v21 F22 b16 w13 hF hB14 hS15
    subst hk25
    refine fun a ha => hK12 _ _ ?_ a ha
    refine W.seq fun K27 hK27 => ?_
    refine W.seq fun K28 hK28 => ?_
    refine W.region ?_
    refine wl_field (o := 0) (off' := 0) ff_42_0 rfl rfl rfl ?_
    refine wl_load_blk (i := 0) (vs := [v0_0]) (v := v0_0) tf_40 rfl rfl hS15 rfl rfl rfl ?_
    refine wl_lenr (e := ty_82) (l := x0.1) Try.underlying40 rfl rfl h0_0 ?_
    refine wl_move rfl rfl ?_
    refine WL.nil ?_
    refine fun a ha => hK28 _ _ ?_ a ha
    refine W.block ?_
    refine W.loopk (fun m a w29 => ∃ (l32 : (List (List (Int × Int)))) (y35 : Int) (v33 : Value) (F34 : List Nat), St 32 [(2, (.pointer (some ⟨b7, 0, none⟩))), (3, (.pointer (some ⟨b16, 0, none⟩))), (16, v0_0), (17, (.int .i64 (List.length x0.1 : Int))), (18, (.int .i64 y35))] a ∧ Below w0.heap.size w0 w29 ∧ Sep w0.heap.size w29 [R.blk b7 42 [(.slice none 0 0), (.slice none 0 0), (.int .i64 0), (.int .i64 0)], R.own ty_82 F34 v33 l32, R.own ty_3 F22 v21 l20, R.blk b16 42 [v33, v21, (.int .i64 y23), (.int .i64 y24)]] ∧ F_impl_copyShow_L1 x0 l20 y23 y24 m l32 y35 = some r) FU ?_ ?_
    ·
      exact fun a ha => ⟨l17, 0, v18, F19, ha.sub ⟨rfl, rfl, rfl, rfl, rfl, trivial⟩, hB14, (hS15.sel [1, 2, 3, 4] rfl), hF⟩
    ·
      rintro m38 a w29 ⟨l32, y35, v33, F34, ha, hB30, hS31, hF⟩ KL37 hKL37
      refine W.at ?_ ha
      cases m38 with
      | zero => exact noneE hF
      | succ m38 =>
        obtain ⟨nx36, hnx36⟩ : ∃ k, k = F_impl_copyShow_L1 x0 l20 y23 y24 m38 := ⟨_, rfl⟩
        rw [F_impl_copyShow_L1, ← hnx36] at hF
        refine W.seq fun K39 hK39 => ?_
        refine W.region ?_
        refine wl_lss rfl rfl rfl ?_
        refine WL.nil ?_
        refine fun a ha => hK39 _ _ ?_ a ha
        refine W.seq fun K40 hK40 => ?_
        refine W.cond rfl (fun h41 => ?_) (fun h41 => ?_)
        · replace hF := ifP h41 hF
          refine W.skip ?_
          refine fun a ha => hK40 _ _ ?_ a ha
          refine W.seq fun K42 hK42 => ?_
          obtain ⟨k49, hk49, hF⟩ := jE1 hF
          have hJ50 : ∀ (l46 : (List (List (Int × Int)))) (v47 : Value) (F48 : List Nat) (w43 : World) (_ : k49 l46 = some r) (_ : Below w0.heap.size w0 w43) (_ : Sep w0.heap.size w43 [R.blk b7 42 [(.slice none 0 0), (.slice none 0 0), (.int .i64 0), (.int .i64 0)], R.own ty_82 F48 v47 l46, R.own ty_3 F22 v21 l20, R.blk b16 42 [v47, v21, (.int .i64 y23), (.int .i64 y24)]]), ∀ a, St 32 [(2, (.pointer (some ⟨b7, 0, none⟩))), (3, (.pointer (some ⟨b16, 0, none⟩))), (16, v0_0), (17, (.int .i64 (List.length x0.1 : Int))), (18, (.int .i64 y35))] a → K42 a w43 := by
            intro l46 v47 F48 w43 hF hB44 hS45
            subst hk49
            refine fun a ha => hK42 _ _ ?_ a ha
            refine W.region ?_
            refine wl_add rfl rfl rfl ?_
            refine wl_move rfl rfl ?_
            refine WL.nil ?_
            rw [hnx36] at hF
            exact fun a ha => hKL37 a _ m38 (Nat.lt_succ_self m38) ⟨l46, (w64 (y35 + 1)), v47, F48, ha.sub ⟨rfl, rfl, rfl, rfl, rfl, trivial⟩, hB44, (hS45.sel [0, 1, 2, 3] rfl), hF⟩
          refine W.block ?_
          refine W.seq fun K51 hK51 => ?_
          refine W.region ?_
          obtain ⟨u52, hu52, hF⟩ := bindE hF
          refine wl_index (e := ty_82) Try.underlying40 rfl rfl rfl h0_0 hu52 ?_
          rintro p53 _ ⟨v55, rfl, hv56⟩ hp54
          refine wl_load_p (vs := [v55]) (v := v55) tf_82 rfl rfl (hp54.ro hB30) rfl rfl ?_
          refine wl_assign rfl rfl ?_
          refine WL.nil ?_
          refine fun a ha => hK51 _ _ ?_ a ha
          refine W.regionH mixed_ (F34 ++ [b16]) hB30 hS31 ?_
          intro w57 hb58 hB59 hS60
          have hSW61 := KeepX.refl w57 (F34 ++ [b16])
          refine WH.takex (i := 0) rfl (by kernel_rfl) (by kernel_rfl) (by kernel_rfl) hP hSW61 ?_
          refine pr_field (o := 0) (off' := 0) ff_42_0 rfl rfl rfl ?_
          refine WH.takex (i := 3) rfl (by kernel_rfl) (by kernel_rfl) (by kernel_rfl) hP hSW61 ?_
          refine pr_move rfl rfl ?_
          refine WH.many (is := [1, 2]) (by kernel_rfl) rfl ?_
          refine List.forall_mem_cons.2 ⟨⟨_, rfl, ?_⟩, List.forall_mem_cons.2 ⟨⟨_, rfl, ?_⟩, fun _ h => by cases h⟩⟩
          ·
            refine wl_load_blk (i := 3) (vs := [v33]) (v := v33) tf_40 rfl rfl hS60 rfl rfl rfl ?_
            refine WL.nil (WH.ret hSW61 ?_)
            refine WH.one (i := 2) (by kernel_rfl) rfl ?_
            refine wl_lit (vs := []) (l := []) fl_106 Try.underlying82 rfl rfl rfl rfl rfl rfl (Below.self w57) (Sep.nil _ _) ?_
            intro v62 F63 w65 hb66 hB69 hM70
            have hB67 := hB59.trans (hb66.mono hB59.size)
            have hS68 := hS60.join hb66 hM70 hB59.size
            have hn71 : ∀ b ∈ F63, w57.heap.size ≤ b := fun b hb => Nat.le_trans hSW61.size ((hM70.1 _ (List.mem_cons_self ..)).2.1 b hb).1
            have hSW72 := hSW61.ext hb66
            have hbS73 : Below w57.heap.size w57 w65 := hb66
            refine WL.nil (WH.ret hSW72 ?_)
            refine WH.one (i := 4) (by kernel_rfl) rfl ?_
            obtain ⟨u74, hu74, hF⟩ := bindE hF
            refine wl_append (i := 0) (S := (· < w65.heap.size)) fl_106 Try.underlying82 rfl rfl rfl hB67 hS68 rfl (hv56.ro hB67) hu74 ?_
            intro v75 F76 w77 hk78 hB79 hS80
            have hSW81 := hSW72.wr' hk78.1 hk78.2.1 (fun b hlt hb => absurd hlt (Nat.not_lt.2 (hn71 b hb)))
            have hn82 : ∀ b ∈ F76, w57.heap.size ≤ b := fun b hb => (hk78.2.2 b hb).elim (hn71 b) fun h => Nat.le_trans hSW72.size h
            refine WL.nil (WH.ret hSW81 ?_)
            refine WH.one (i := 5) (by kernel_rfl) rfl ?_
            have hq83 := hS80.sel [0, 1, 2, 3, 4] rfl
            have hq84 := hq83.head (r' := R.cel ty_82 F76 [v75] u74) (rfl) fun _ h0 => ⟨_, rfl, h0⟩
            refine wl_lit1 (e := ty_82) (vs := [v75]) Try.underlying40 rfl rfl (cells_one (hS80.own_ro (i := 0) rfl).one) rfl hB79 hq84 ?_
            intro v85 F86 w87 hb88 hf89 hB90 hS91
            have hn92 : ∀ b ∈ F86, w57.heap.size ≤ b := fun b hb => (hf89 b hb).elim (hn82 b) fun h => Nat.le_trans hSW81.size h
            have hSW93 := hSW81.ext hb88
            refine WL.nil (WH.ret hSW93 ?_)
            refine WH.one (i := 6) (by kernel_rfl) rfl ?_
            obtain ⟨u94, hu94, hF⟩ := bindE hF
            refine wl_appendn (e := ty_82) Try.underlying40 rfl rfl rfl hB90 (hS91.sel [2, 0, 1, 3, 4] rfl) hu94 ?_
            intro v95 F96 w97 hk98 hB99 hS100
            have hSW101 := hSW93.wr' hk98.1 hk98.2.1 (fun _ _ h => List.mem_append_left _ (h))
            refine WL.nil (WH.ret hSW101 ?_)
            refine WH.takex (i := 7) rfl (by kernel_rfl) (by kernel_rfl) (by kernel_rfl) hP hSW101 ?_
            refine pr_field (o := 0) (off' := 0) ff_42_0 rfl rfl rfl ?_
            refine WH.one (i := 8) (by kernel_rfl) rfl ?_
            refine wl_store_blk (i := 3) (vs := [v95]) (cs' := [v95, v21, (.int .i64 y23), (.int .i64 y24)]) tf_40 rfl rfl (cells_one (hS100.own_ro (i := 0) rfl).one) rfl hB99 hS100 rfl rfl ⟨(hS100.own_ro (i := 0) rfl).one, trivial⟩ rfl ?_
            intro w102 hk105 hB103 hS104
            have hSW106 := hSW101.wr' hk105.1 hk105.2.1 (fun _ _ h => List.mem_append_right _ h)
            refine WL.nil (WH.ret hSW106 ?_)
            refine WH.done (by kernel_rfl) ?_
            exact fun a ha => hJ50 (u94) (v95) (F96) _ hF hB103 (hS104.sel [1, 0, 2, 3] rfl) a (ha.sub ⟨rfl, rfl, rfl, rfl, rfl, trivial⟩)
          ·
            refine wl_lit (vs := []) (l := []) fl_106 Try.underlying82 rfl rfl rfl rfl rfl rfl (Below.self w57) (Sep.nil _ _) ?_
            intro v107 F108 w109 hb110 hB113 hM114
            have hB111 := hB59.trans (hb110.mono hB59.size)
            have hS112 := hS60.join hb110 hM114 hB59.size
            have hn115 : ∀ b ∈ F108, w57.heap.size ≤ b := fun b hb => Nat.le_trans hSW61.size ((hM114.1 _ (List.mem_cons_self ..)).2.1 b hb).1
            have hSW116 := hSW61.ext hb110
            have hbS117 : Below w57.heap.size w57 w109 := hb110
            refine WL.nil (WH.ret hSW116 ?_)
            refine WH.many (is := [1, 4]) (by kernel_rfl) rfl ?_
            refine List.forall_mem_cons.2 ⟨⟨_, rfl, ?_⟩, List.forall_mem_cons.2 ⟨⟨_, rfl, ?_⟩, fun _ h => by cases h⟩⟩
            ·
              refine wl_load_blk (i := 4) (vs := [v33]) (v := v33) tf_40 rfl rfl hS112 rfl rfl rfl ?_
              refine WL.nil (WH.ret hSW116 ?_)
              refine WH.one (i := 4) (by kernel_rfl) rfl ?_
              obtain ⟨u118, hu118, hF⟩ := bindE hF
              refine wl_append (i := 0) (S := (· < w109.heap.size)) fl_106 Try.underlying82 rfl rfl rfl hB111 hS112 rfl (hv56.ro hB111) hu118 ?_
              intro v119 F120 w121 hk122 hB123 hS124
              have hSW125 := hSW116.wr' hk122.1 hk122.2.1 (fun b hlt hb => absurd hlt (Nat.not_lt.2 (hn115 b hb)))
              have hn126 : ∀ b ∈ F120, w57.heap.size ≤ b := fun b hb => (hk122.2.2 b hb).elim (hn115 b) fun h => Nat.le_trans hSW116.size h
              refine WL.nil (WH.ret hSW125 ?_)
              refine WH.one (i := 5) (by kernel_rfl) rfl ?_
              have hq127 := hS124.sel [0, 1, 2, 3, 4] rfl
              have hq128 := hq127.head (r' := R.cel ty_82 F120 [v119] u118) (rfl) fun _ h0 => ⟨_, rfl, h0⟩
              refine wl_lit1 (e := ty_82) (vs := [v119]) Try.underlying40 rfl rfl (cells_one (hS124.own_ro (i := 0) rfl).one) rfl hB123 hq128 ?_
              intro v129 F130 w131 hb132 hf133 hB134 hS135
              have hn136 : ∀ b ∈ F130, w57.heap.size ≤ b := fun b hb => (hf133 b hb).elim (hn126 b) fun h => Nat.le_trans hSW125.size h
              have hSW137 := hSW125.ext hb132
              refine WL.nil (WH.ret hSW137 ?_)
              refine WH.one (i := 6) (by kernel_rfl) rfl ?_
              obtain ⟨u138, hu138, hF⟩ := bindE hF
              refine wl_appendn (e := ty_82) Try.underlying40 rfl rfl rfl hB134 (hS135.sel [2, 0, 1, 3, 4] rfl) hu138 ?_
              intro v139 F140 w141 hk142 hB143 hS144
              have hSW145 := hSW137.wr' hk142.1 hk142.2.1 (fun _ _ h => List.mem_append_left _ (h))
              refine WL.nil (WH.ret hSW145 ?_)
              refine WH.takex (i := 7) rfl (by kernel_rfl) (by kernel_rfl) (by kernel_rfl) hP hSW145 ?_
              refine pr_field (o := 0) (off' := 0) ff_42_0 rfl rfl rfl ?_
              refine WH.one (i := 8) (by kernel_rfl) rfl ?_
              refine wl_store_blk (i := 3) (vs := [v139]) (cs' := [v139, v21, (.int .i64 y23), (.int .i64 y24)]) tf_40 rfl rfl (cells_one (hS144.own_ro (i := 0) rfl).one) rfl hB143 hS144 rfl rfl ⟨(hS144.own_ro (i := 0) rfl).one, trivial⟩ rfl ?_
              intro w146 hk149 hB147 hS148
              have hSW150 := hSW145.wr' hk149.1 hk149.2.1 (fun _ _ h => List.mem_append_right _ h)
              refine WL.nil (WH.ret hSW150 ?_)
              refine WH.done (by kernel_rfl) ?_
              exact fun a ha => hJ50 (u138) (v139) (F140) _ hF hB147 (hS148.sel [1, 0, 2, 3] rfl) a (ha.sub ⟨rfl, rfl, rfl, rfl, rfl, trivial⟩)
            ·
              obtain ⟨u151, hu151, hF⟩ := bindE hF
              refine wl_append (i := 0) (S := (· < w109.heap.size)) fl_106 Try.underlying82 rfl rfl rfl hB111 hS112 rfl (hv56.ro hB111) hu151 ?_
              intro v152 F153 w154 hk155 hB156 hS157
              have hSW158 := hSW116.wr' hk155.1 hk155.2.1 (fun b hlt hb => absurd hlt (Nat.not_lt.2 (hn115 b hb)))
              have hn159 : ∀ b ∈ F153, w57.heap.size ≤ b := fun b hb => (hk155.2.2 b hb).elim (hn115 b) fun h => Nat.le_trans hSW116.size h
              refine WL.nil (WH.ret hSW158 ?_)
              refine WH.many (is := [1, 5]) (by kernel_rfl) rfl ?_
              refine List.forall_mem_cons.2 ⟨⟨_, rfl, ?_⟩, List.forall_mem_cons.2 ⟨⟨_, rfl, ?_⟩, fun _ h => by cases h⟩⟩
              ·
                refine wl_load_blk (i := 4) (vs := [v33]) (v := v33) tf_40 rfl rfl hS157 rfl rfl rfl ?_
                refine WL.nil (WH.ret hSW158 ?_)
                refine WH.one (i := 5) (by kernel_rfl) rfl ?_
                have hq160 := hS157.sel [0, 1, 2, 3, 4] rfl
                have hq161 := hq160.head (r' := R.cel ty_82 F153 [v152] u151) (rfl) fun _ h0 => ⟨_, rfl, h0⟩
                refine wl_lit1 (e := ty_82) (vs := [v152]) Try.underlying40 rfl rfl (cells_one (hS157.own_ro (i := 0) rfl).one) rfl hB156 hq161 ?_
                intro v162 F163 w164 hb165 hf166 hB167 hS168
                have hn169 : ∀ b ∈ F163, w57.heap.size ≤ b := fun b hb => (hf166 b hb).elim (hn159 b) fun h => Nat.le_trans hSW158.size h
                have hSW170 := hSW158.ext hb165
                refine WL.nil (WH.ret hSW170 ?_)
                refine WH.one (i := 6) (by kernel_rfl) rfl ?_
                obtain ⟨u171, hu171, hF⟩ := bindE hF
                refine wl_appendn (e := ty_82) Try.underlying40 rfl rfl rfl hB167 (hS168.sel [2, 0, 1, 3, 4] rfl) hu171 ?_
                intro v172 F173 w174 hk175 hB176 hS177
                have hSW178 := hSW170.wr' hk175.1 hk175.2.1 (fun _ _ h => List.mem_append_left _ (h))
                refine WL.nil (WH.ret hSW178 ?_)
                refine WH.takex (i := 7) rfl (by kernel_rfl) (by kernel_rfl) (by kernel_rfl) hP hSW178 ?_
                refine pr_field (o := 0) (off' := 0) ff_42_0 rfl rfl rfl ?_
                refine WH.one (i := 8) (by kernel_rfl) rfl ?_
                refine wl_store_blk (i := 3) (vs := [v172]) (cs' := [v172, v21, (.int .i64 y23), (.int .i64 y24)]) tf_40 rfl rfl (cells_one (hS177.own_ro (i := 0) rfl).one) rfl hB176 hS177 rfl rfl ⟨(hS177.own_ro (i := 0) rfl).one, trivial⟩ rfl ?_
                intro w179 hk182 hB180 hS181
                have hSW183 := hSW178.wr' hk182.1 hk182.2.1 (fun _ _ h => List.mem_append_right _ h)
                refine WL.nil (WH.ret hSW183 ?_)
                refine WH.done (by kernel_rfl) ?_
                exact fun a ha => hJ50 (u171) (v172) (F173) _ hF hB180 (hS181.sel [1, 0, 2, 3] rfl) a (ha.sub ⟨rfl, rfl, rfl, rfl, rfl, trivial⟩)
              ·
                have hq184 := hS157.sel [0, 1, 2, 3, 4] rfl
                have hq185 := hq184.head (r' := R.cel ty_82 F153 [v152] u151) (rfl) fun _ h0 => ⟨_, rfl, h0⟩
                refine wl_lit1 (e := ty_82) (vs := [v152]) Try.underlying40 rfl rfl (cells_one (hS157.own_ro (i := 0) rfl).one) rfl hB156 hq185 ?_
                intro v186 F187 w188 hb189 hf190 hB191 hS192
                have hn193 : ∀ b ∈ F187, w57.heap.size ≤ b := fun b hb => (hf190 b hb).elim (hn159 b) fun h => Nat.le_trans hSW158.size h
                have hSW194 := hSW158.ext hb189
                refine WL.nil (WH.ret hSW194 ?_)
                refine WH.one (i := 1) (by kernel_rfl) rfl ?_
                refine wl_load_blk (i := 4) (vs := [v33]) (v := v33) tf_40 rfl rfl hS192 rfl rfl rfl ?_
                refine WL.nil (WH.ret hSW194 ?_)
                refine WH.one (i := 6) (by kernel_rfl) rfl ?_
                obtain ⟨u195, hu195, hF⟩ := bindE hF
                refine wl_appendn (e := ty_82) Try.underlying40 rfl rfl rfl hB191 (hS192.sel [2, 0, 1, 3, 4] rfl) hu195 ?_
                intro v196 F197 w198 hk199 hB200 hS201
                have hSW202 := hSW194.wr' hk199.1 hk199.2.1 (fun _ _ h => List.mem_append_left _ (h))
                refine WL.nil (WH.ret hSW202 ?_)
                refine WH.takex (i := 7) rfl (by kernel_rfl) (by kernel_rfl) (by kernel_rfl) hP hSW202 ?_
                refine pr_field (o := 0) (off' := 0) ff_42_0 rfl rfl rfl ?_
                refine WH.one (i := 8) (by kernel_rfl) rfl ?_
                refine wl_store_blk (i := 3) (vs := [v196]) (cs' := [v196, v21, (.int .i64 y23), (.int .i64 y24)]) tf_40 rfl rfl (cells_one (hS201.own_ro (i := 0) rfl).one) rfl hB200 hS201 rfl rfl ⟨(hS201.own_ro (i := 0) rfl).one, trivial⟩ rfl ?_
                intro w203 hk206 hB204 hS205
                have hSW207 := hSW202.wr' hk206.1 hk206.2.1 (fun _ _ h => List.mem_append_right _ h)
                refine WL.nil (WH.ret hSW207 ?_)
                refine WH.done (by kernel_rfl) ?_
                exact fun a ha => hJ50 (u195) (v196) (F197) _ hF hB204 (hS205.sel [1, 0, 2, 3] rfl) a (ha.sub ⟨rfl, rfl, rfl, rfl, rfl, trivial⟩)
        · replace hF := ifN h41 hF
          refine W.exit ?_
          refine fun a ha => hK27 _ _ ?_ a ha
          refine W.seq fun K208 hK208 => ?_
          refine W.region ?_
          refine wl_load_blk (i := 3) (vs := [v33, v21, (.int .i64 y23), (.int .i64 y24)]) (v := (.agg #[v33, v21, (.int .i64 y23), (.int .i64 y24)])) tf_42 rfl rfl hS31 rfl rfl rfl ?_
          refine wl_store_blk (i := 0) (vs := [v33, v21, (.int .i64 y23), (.int .i64 y24)]) (cs' := [v33, v21, (.int .i64 y23), (.int .i64 y24)]) tf_42 rfl rfl rfl rfl hB30 hS31 rfl rfl ⟨(hS31.own_ro (i := 1) rfl).one, (hS31.own_ro (i := 2) rfl).one, rfl, rfl, trivial⟩ rfl ?_
          intro w209 hk212 hB210 hS211
          refine WL.nil ?_
          refine fun a ha => hK208 _ _ ?_ a ha
          refine W.ret ?_
          have hr := Option.some.inj hF
          subst hr
          exact rets (vs := [(.agg #[v33, v21, (.int .i64 y23), (.int .i64 y24)])]) hQ rfl ⟨rv_cell (i := 0) tf_42 rfl hS211 rfl rfl rfl, trivial⟩ ⟨v33, F34, v21, F22, rfl, hB210, hS211.sel [1, 2] rfl⟩
  refine W.regionH mixed_ [] hB10 hS11 ?_
  intro w213 hb214 hB215 hS216
  have hSW217 := KeepX.refl w213 []
  refine WH.takex (i := 1) rfl (by kernel_rfl) (by kernel_rfl) (by kernel_rfl) hP hSW217 ?_
  refine pr_field (o := 1) (off' := 1) ff_42_1 rfl rfl rfl ?_
  refine WH.takex (i := 2) rfl (by kernel_rfl) (by kernel_rfl) (by kernel_rfl) hP hSW217 ?_
  refine pr_load_blk (i := 1) (vs := [v0_1]) (v := v0_1) tf_24 rfl rfl hS216 rfl rfl rfl (by simp) ?_
  refine WH.takex (i := 4) rfl (by kernel_rfl) (by kernel_rfl) (by kernel_rfl) hP hSW217 ?_
  refine pr_field (o := 2) (off' := 2) ff_42_2 rfl rfl rfl ?_
  refine WH.takex (i := 5) rfl (by kernel_rfl) (by kernel_rfl) (by kernel_rfl) hP hSW217 ?_
  refine pr_load_blk (i := 1) (vs := [(.int .i64 x0.2.2.1)]) (v := (.int .i64 x0.2.2.1)) tf_3 rfl rfl hS216 rfl rfl rfl (by simp) ?_
  refine WH.takex (i := 6) rfl (by kernel_rfl) (by kernel_rfl) (by kernel_rfl) hP hSW217 ?_
  refine pr_field (o := 3) (off' := 3) ff_42_3 rfl rfl rfl ?_
  refine WH.takex (i := 7) rfl (by kernel_rfl) (by kernel_rfl) (by kernel_rfl) hP hSW217 ?_
  refine pr_load_blk (i := 1) (vs := [(.int .i64 x0.2.2.2)]) (v := (.int .i64 x0.2.2.2)) tf_3 rfl rfl hS216 rfl rfl rfl (by simp) ?_
  refine WH.many (is := [0, 3, 9]) (by kernel_rfl) rfl ?_
  refine List.forall_mem_cons.2 ⟨⟨_, rfl, ?_⟩, List.forall_mem_cons.2 ⟨⟨_, rfl, ?_⟩, List.forall_mem_cons.2 ⟨⟨_, rfl, ?_⟩, fun _ h => by cases h⟩⟩⟩
  ·
    refine wl_lit0 (e := ty_82) Try.underlying40 rfl (Below.self w213) (Sep.nil _ _) ?_
    intro v218 F219 w220 hb221 hB224 hM225
    have hB222 := hB215.trans (hb221.mono hB215.size)
    have hS223 := hS216.join hb221 hM225 hB215.size
    have hn226 : ∀ b ∈ F219, w213.heap.size ≤ b := fun b hb => Nat.le_trans hSW217.size ((hM225.1 _ (List.mem_cons_self ..)).2.1 b hb).1
    have hSW227 := hSW217.ext hb221
    refine WL.nil (WH.ret hSW227 ?_)
    refine WH.many (is := [3, 9]) (by kernel_rfl) rfl ?_
    refine List.forall_mem_cons.2 ⟨⟨_, rfl, ?_⟩, List.forall_mem_cons.2 ⟨⟨_, rfl, ?_⟩, fun _ h => by cases h⟩⟩
    ·
      obtain ⟨u228, hu228, hF⟩ := bindE hF
      refine wl_call rfl Try.call79 (C_impl_copyInts w220 x0.2.1 v0_1 (h0_1.ro hB222) _ hu228) rfl ?_
      rintro _ w231 ⟨v229, F230, rfl, hb232, hM235⟩
      refine ⟨_, rfl, ?_⟩
      have hB233 := hB222.trans (hb232.mono hB222.size)
      have hS234 := hS223.join hb232 hM235 hB222.size
      have hSW236 := hSW227.ext hb232
      refine WL.nil (WH.ret hSW236 ?_)
      refine WH.takex (i := 8) rfl (by kernel_rfl) (by kernel_rfl) (by kernel_rfl) hP hSW236 ?_
      refine pr_build (zs := [(.slice none 0 0), (.slice none 0 0), (.int .i64 0), (.int .i64 0)]) (out := [v218, v229, (.int .i64 x0.2.2.1), (.int .i64 x0.2.2.2)]) (vs := [v218, v229, (.int .i64 x0.2.2.1), (.int .i64 x0.2.2.2)]) (css := [[v218], [v229], [(.int .i64 x0.2.2.1)], [(.int .i64 x0.2.2.2)]]) tf_42 pl_42 rfl rfl (by simp only [List.map_cons, List.map_nil, cells_one ((hS234.own_ro (i := 1) rfl).one), cells_one ((hS234.own_ro (i := 0) rfl).one)]; rfl) rfl rfl ?_
      refine WH.one (i := 9) (by kernel_rfl) rfl ?_
      refine wl_alloc (cs := [(.slice none 0 0), (.slice none 0 0), (.int .i64 0), (.int .i64 0)]) tf_42 rfl rfl (Below.self w231) (Sep.nil _ _) ?_
      intro b237 w238 hb239 hB242 hM243
      have hB240 := hB233.trans (hb239.mono hB233.size)
      have hS241 := hS234.join hb239 hM243 hB233.size
      have hn244 : ∀ b ∈ [b237], w213.heap.size ≤ b := fun b hb => Nat.le_trans hSW236.size ((hM243.1 _ (List.mem_cons_self ..)).2.1 b hb).1
      have hSW245 := hSW236.ext hb239
      refine WL.nil (WH.ret hSW245 ?_)
      refine WH.one (i := 10) (by kernel_rfl) rfl ?_
      refine wl_store_blk (i := 0) (vs := [v218, v229, (.int .i64 x0.2.2.1), (.int .i64 x0.2.2.2)]) (cs' := [v218, v229, (.int .i64 x0.2.2.1), (.int .i64 x0.2.2.2)]) tf_42 rfl rfl rfl rfl hB240 hS241 rfl rfl ⟨(hS241.own_ro (i := 2) rfl).one, (hS241.own_ro (i := 1) rfl).one, rfl, rfl, trivial⟩ rfl ?_
      intro w246 hk249 hB247 hS248
      have hSW250 := hSW245.wr' hk249.1 hk249.2.1 (fun b hlt hb => absurd hlt (Nat.not_lt.2 (hn244 b hb)))
      have hn251 : ∀ b ∈ [b237], w213.heap.size ≤ b := fun b hb => (hk249.2.2 b hb).elim (hn244 b) fun h => Nat.le_trans hSW245.size h
      refine WL.nil (WH.ret hSW250 ?_)
      refine WH.done (by kernel_rfl) ?_
      exact fun a ha => hJ26 ([]) (u228) (x0.2.2.1) (x0.2.2.2) (v218) (F219) (v229) (F230) (b237) _ hF hB247 (hS248.sel [4, 3, 2, 1, 0] rfl) a (ha.sub ⟨rfl, rfl, rfl, trivial⟩)
    ·
      refine wl_alloc (cs := [(.slice none 0 0), (.slice none 0 0), (.int .i64 0), (.int .i64 0)]) tf_42 rfl rfl (Below.self w220) (Sep.nil _ _) ?_
      intro b252 w253 hb254 hB257 hM258
      have hB255 := hB222.trans (hb254.mono hB222.size)
      have hS256 := hS223.join hb254 hM258 hB222.size
      have hn259 : ∀ b ∈ [b252], w213.heap.size ≤ b := fun b hb => Nat.le_trans hSW227.size ((hM258.1 _ (List.mem_cons_self ..)).2.1 b hb).1
      have hSW260 := hSW227.ext hb254
      refine WL.nil (WH.ret hSW260 ?_)
      refine WH.one (i := 3) (by kernel_rfl) rfl ?_
      obtain ⟨u261, hu261, hF⟩ := bindE hF
      refine wl_call rfl Try.call79 (C_impl_copyInts w253 x0.2.1 v0_1 (h0_1.ro hB255) _ hu261) rfl ?_
      rintro _ w264 ⟨v262, F263, rfl, hb265, hM268⟩
      refine ⟨_, rfl, ?_⟩
      have hB266 := hB255.trans (hb265.mono hB255.size)
      have hS267 := hS256.join hb265 hM268 hB255.size
      have hSW269 := hSW260.ext hb265
      refine WL.nil (WH.ret hSW269 ?_)
      refine WH.takex (i := 8) rfl (by kernel_rfl) (by kernel_rfl) (by kernel_rfl) hP hSW269 ?_
      refine pr_build (zs := [(.slice none 0 0), (.slice none 0 0), (.int .i64 0), (.int .i64 0)]) (out := [v218, v262, (.int .i64 x0.2.2.1), (.int .i64 x0.2.2.2)]) (vs := [v218, v262, (.int .i64 x0.2.2.1), (.int .i64 x0.2.2.2)]) (css := [[v218], [v262], [(.int .i64 x0.2.2.1)], [(.int .i64 x0.2.2.2)]]) tf_42 pl_42 rfl rfl (by simp only [List.map_cons, List.map_nil, cells_one ((hS267.own_ro (i := 2) rfl).one), cells_one ((hS267.own_ro (i := 0) rfl).one)]; rfl) rfl rfl ?_
      refine WH.one (i := 10) (by kernel_rfl) rfl ?_
      refine wl_store_blk (i := 1) (vs := [v218, v262, (.int .i64 x0.2.2.1), (.int .i64 x0.2.2.2)]) (cs' := [v218, v262, (.int .i64 x0.2.2.1), (.int .i64 x0.2.2.2)]) tf_42 rfl rfl rfl rfl hB266 hS267 rfl rfl ⟨(hS267.own_ro (i := 2) rfl).one, (hS267.own_ro (i := 0) rfl).one, rfl, rfl, trivial⟩ rfl ?_
      intro w270 hk273 hB271 hS272
      have hSW274 := hSW269.wr' hk273.1 hk273.2.1 (fun b hlt hb => absurd hlt (Nat.not_lt.2 (hn259 b hb)))
      have hn275 : ∀ b ∈ [b252], w213.heap.size ≤ b := fun b hb => (hk273.2.2 b hb).elim (hn259 b) fun h => Nat.le_trans hSW269.size h
      refine WL.nil (WH.ret hSW274 ?_)
      refine WH.done (by kernel_rfl) ?_
      exact fun a ha => hJ26 ([]) (u261) (x0.2.2.1) (x0.2.2.2) (v218) (F219) (v262) (F263) (b252) _ hF hB271 (hS272.sel [4, 3, 2, 0, 1] rfl) a (ha.sub ⟨rfl, rfl, rfl, trivial⟩)
  ·
    obtain ⟨u276, hu276, hF⟩ := bindE hF
    refine wl_call rfl Try.call79 (C_impl_copyInts w213 x0.2.1 v0_1 (h0_1.ro hB215) _ hu276) rfl ?_
    rintro _ w279 ⟨v277, F278, rfl, hb280, hM283⟩
    refine ⟨_, rfl, ?_⟩
    have hB281 := hB215.trans (hb280.mono hB215.size)
    have hS282 := hS216.join hb280 hM283 hB215.size
    have hSW284 := hSW217.ext hb280
    refine WL.nil (WH.ret hSW284 ?_)
    refine WH.many (is := [0, 9]) (by kernel_rfl) rfl ?_
    refine List.forall_mem_cons.2 ⟨⟨_, rfl, ?_⟩, List.forall_mem_cons.2 ⟨⟨_, rfl, ?_⟩, fun _ h => by cases h⟩⟩
    ·
      refine wl_lit0 (e := ty_82) Try.underlying40 rfl (Below.self w279) (Sep.nil _ _) ?_
      intro v285 F286 w287 hb288 hB291 hM292
      have hB289 := hB281.trans (hb288.mono hB281.size)
      have hS290 := hS282.join hb288 hM292 hB281.size
      have hn293 : ∀ b ∈ F286, w213.heap.size ≤ b := fun b hb => Nat.le_trans hSW284.size ((hM292.1 _ (List.mem_cons_self ..)).2.1 b hb).1
      have hSW294 := hSW284.ext hb288
      refine WL.nil (WH.ret hSW294 ?_)
      refine WH.takex (i := 8) rfl (by kernel_rfl) (by kernel_rfl) (by kernel_rfl) hP hSW294 ?_
      refine pr_build (zs := [(.slice none 0 0), (.slice none 0 0), (.int .i64 0), (.int .i64 0)]) (out := [v285, v277, (.int .i64 x0.2.2.1), (.int .i64 x0.2.2.2)]) (vs := [v285, v277, (.int .i64 x0.2.2.1), (.int .i64 x0.2.2.2)]) (css := [[v285], [v277], [(.int .i64 x0.2.2.1)], [(.int .i64 x0.2.2.2)]]) tf_42 pl_42 rfl rfl (by simp only [List.map_cons, List.map_nil, cells_one ((hS290.own_ro (i := 0) rfl).one), cells_one ((hS290.own_ro (i := 1) rfl).one)]; rfl) rfl rfl ?_
      refine WH.one (i := 9) (by kernel_rfl) rfl ?_
      refine wl_alloc (cs := [(.slice none 0 0), (.slice none 0 0), (.int .i64 0), (.int .i64 0)]) tf_42 rfl rfl (Below.self w287) (Sep.nil _ _) ?_
      intro b295 w296 hb297 hB300 hM301
      have hB298 := hB289.trans (hb297.mono hB289.size)
      have hS299 := hS290.join hb297 hM301 hB289.size
      have hn302 : ∀ b ∈ [b295], w213.heap.size ≤ b := fun b hb => Nat.le_trans hSW294.size ((hM301.1 _ (List.mem_cons_self ..)).2.1 b hb).1
      have hSW303 := hSW294.ext hb297
      refine WL.nil (WH.ret hSW303 ?_)
      refine WH.one (i := 10) (by kernel_rfl) rfl ?_
      refine wl_store_blk (i := 0) (vs := [v285, v277, (.int .i64 x0.2.2.1), (.int .i64 x0.2.2.2)]) (cs' := [v285, v277, (.int .i64 x0.2.2.1), (.int .i64 x0.2.2.2)]) tf_42 rfl rfl rfl rfl hB298 hS299 rfl rfl ⟨(hS299.own_ro (i := 1) rfl).one, (hS299.own_ro (i := 2) rfl).one, rfl, rfl, trivial⟩ rfl ?_
      intro w304 hk307 hB305 hS306
      have hSW308 := hSW303.wr' hk307.1 hk307.2.1 (fun b hlt hb => absurd hlt (Nat.not_lt.2 (hn302 b hb)))
      have hn309 : ∀ b ∈ [b295], w213.heap.size ≤ b := fun b hb => (hk307.2.2 b hb).elim (hn302 b) fun h => Nat.le_trans hSW303.size h
      refine WL.nil (WH.ret hSW308 ?_)
      refine WH.done (by kernel_rfl) ?_
      exact fun a ha => hJ26 ([]) (u276) (x0.2.2.1) (x0.2.2.2) (v285) (F286) (v277) (F278) (b295) _ hF hB305 (hS306.sel [4, 3, 1, 2, 0] rfl) a (ha.sub ⟨rfl, rfl, rfl, trivial⟩)
    ·
      refine wl_alloc (cs := [(.slice none 0 0), (.slice none 0 0), (.int .i64 0), (.int .i64 0)]) tf_42 rfl rfl (Below.self w279) (Sep.nil _ _) ?_
      intro b310 w311 hb312 hB315 hM316
      have hB313 := hB281.trans (hb312.mono hB281.size)
      have hS314 := hS282.join hb312 hM316 hB281.size
      have hn317 : ∀ b ∈ [b310], w213.heap.size ≤ b := fun b hb => Nat.le_trans hSW284.size ((hM316.1 _ (List.mem_cons_self ..)).2.1 b hb).1
      have hSW318 := hSW284.ext hb312
      refine WL.nil (WH.ret hSW318 ?_)
      refine WH.one (i := 0) (by kernel_rfl) rfl ?_
      refine wl_lit0 (e := ty_82) Try.underlying40 rfl (Below.self w311) (Sep.nil _ _) ?_
      intro v319 F320 w321 hb322 hB325 hM326
      have hB323 := hB313.trans (hb322.mono hB313.size)
      have hS324 := hS314.join hb322 hM326 hB313.size
      have hn327 : ∀ b ∈ F320, w213.heap.size ≤ b := fun b hb => Nat.le_trans hSW318.size ((hM326.1 _ (List.mem_cons_self ..)).2.1 b hb).1
      have hSW328 := hSW318.ext hb322
      refine WL.nil (WH.ret hSW328 ?_)
      refine WH.takex (i := 8) rfl (by kernel_rfl) (by kernel_rfl) (by kernel_rfl) hP hSW328 ?_
      refine pr_build (zs := [(.slice none 0 0), (.slice none 0 0), (.int .i64 0), (.int .i64 0)]) (out := [v319, v277, (.int .i64 x0.2.2.1), (.int .i64 x0.2.2.2)]) (vs := [v319, v277, (.int .i64 x0.2.2.1), (.int .i64 x0.2.2.2)]) (css := [[v319], [v277], [(.int .i64 x0.2.2.1)], [(.int .i64 x0.2.2.2)]]) tf_42 pl_42 rfl rfl (by simp only [List.map_cons, List.map_nil, cells_one ((hS324.own_ro (i := 0) rfl).one), cells_one ((hS324.own_ro (i := 2) rfl).one)]; rfl) rfl rfl ?_
      refine WH.one (i := 10) (by kernel_rfl) rfl ?_
      refine wl_store_blk (i := 1) (vs := [v319, v277, (.int .i64 x0.2.2.1), (.int .i64 x0.2.2.2)]) (cs' := [v319, v277, (.int .i64 x0.2.2.1), (.int .i64 x0.2.2.2)]) tf_42 rfl rfl rfl rfl hB323 hS324 rfl rfl ⟨(hS324.own_ro (i := 0) rfl).one, (hS324.own_ro (i := 2) rfl).one, rfl, rfl, trivial⟩ rfl ?_
      intro w329 hk332 hB330 hS331
      have hSW333 := hSW328.wr' hk332.1 hk332.2.1 (fun b hlt hb => absurd hlt (Nat.not_lt.2 (hn317 b hb)))
      have hn334 : ∀ b ∈ [b310], w213.heap.size ≤ b := fun b hb => (hk332.2.2 b hb).elim (hn317 b) fun h => Nat.le_trans hSW328.size h
      refine WL.nil (WH.ret hSW333 ?_)
      refine WH.done (by kernel_rfl) ?_
      exact fun a ha => hJ26 ([]) (u276) (x0.2.2.1) (x0.2.2.2) (v319) (F320) (v277) (F278) (b310) _ hF hB330 (hS331.sel [4, 3, 0, 2, 1] rfl) a (ha.sub ⟨rfl, rfl, rfl, trivial⟩)
  ·
    refine wl_alloc (cs := [(.slice none 0 0), (.slice none 0 0), (.int .i64 0), (.int .i64 0)]) tf_42 rfl rfl (Below.self w213) (Sep.nil _ _) ?_
    intro b335 w336 hb337 hB340 hM341
    have hB338 := hB215.trans (hb337.mono hB215.size)
    have hS339 := hS216.join hb337 hM341 hB215.size
    have hn342 : ∀ b ∈ [b335], w213.heap.size ≤ b := fun b hb => Nat.le_trans hSW217.size ((hM341.1 _ (List.mem_cons_self ..)).2.1 b hb).1
    have hSW343 := hSW217.ext hb337
    refine WL.nil (WH.ret hSW343 ?_)
    refine WH.many (is := [0, 3]) (by kernel_rfl) rfl ?_
    refine List.forall_mem_cons.2 ⟨⟨_, rfl, ?_⟩, List.forall_mem_cons.2 ⟨⟨_, rfl, ?_⟩, fun _ h => by cases h⟩⟩
    ·
      refine wl_lit0 (e := ty_82) Try.underlying40 rfl (Below.self w336) (Sep.nil _ _) ?_
      intro v344 F345 w346 hb347 hB350 hM351
      have hB348 := hB338.trans (hb347.mono hB338.size)
      have hS349 := hS339.join hb347 hM351 hB338.size
      have hn352 : ∀ b ∈ F345, w213.heap.size ≤ b := fun b hb => Nat.le_trans hSW343.size ((hM351.1 _ (List.mem_cons_self ..)).2.1 b hb).1
      have hSW353 := hSW343.ext hb347
      refine WL.nil (WH.ret hSW353 ?_)
      refine WH.one (i := 3) (by kernel_rfl) rfl ?_
      obtain ⟨u354, hu354, hF⟩ := bindE hF
      refine wl_call rfl Try.call79 (C_impl_copyInts w346 x0.2.1 v0_1 (h0_1.ro hB348) _ hu354) rfl ?_
      rintro _ w357 ⟨v355, F356, rfl, hb358, hM361⟩
      refine ⟨_, rfl, ?_⟩
      have hB359 := hB348.trans (hb358.mono hB348.size)
      have hS360 := hS349.join hb358 hM361 hB348.size
      have hSW362 := hSW353.ext hb358
      refine WL.nil (WH.ret hSW362 ?_)
      refine WH.takex (i := 8) rfl (by kernel_rfl) (by kernel_rfl) (by kernel_rfl) hP hSW362 ?_
      refine pr_build (zs := [(.slice none 0 0), (.slice none 0 0), (.int .i64 0), (.int .i64 0)]) (out := [v344, v355, (.int .i64 x0.2.2.1), (.int .i64 x0.2.2.2)]) (vs := [v344, v355, (.int .i64 x0.2.2.1), (.int .i64 x0.2.2.2)]) (css := [[v344], [v355], [(.int .i64 x0.2.2.1)], [(.int .i64 x0.2.2.2)]]) tf_42 pl_42 rfl rfl (by simp only [List.map_cons, List.map_nil, cells_one ((hS360.own_ro (i := 1) rfl).one), cells_one ((hS360.own_ro (i := 0) rfl).one)]; rfl) rfl rfl ?_
      refine WH.one (i := 10) (by kernel_rfl) rfl ?_
      refine wl_store_blk (i := 2) (vs := [v344, v355, (.int .i64 x0.2.2.1), (.int .i64 x0.2.2.2)]) (cs' := [v344, v355, (.int .i64 x0.2.2.1), (.int .i64 x0.2.2.2)]) tf_42 rfl rfl rfl rfl hB359 hS360 rfl rfl ⟨(hS360.own_ro (i := 1) rfl).one, (hS360.own_ro (i := 0) rfl).one, rfl, rfl, trivial⟩ rfl ?_
      intro w363 hk366 hB364 hS365
      have hSW367 := hSW362.wr' hk366.1 hk366.2.1 (fun b hlt hb => absurd hlt (Nat.not_lt.2 (hn342 b hb)))
      have hn368 : ∀ b ∈ [b335], w213.heap.size ≤ b := fun b hb => (hk366.2.2 b hb).elim (hn342 b) fun h => Nat.le_trans hSW362.size h
      refine WL.nil (WH.ret hSW367 ?_)
      refine WH.done (by kernel_rfl) ?_
      exact fun a ha => hJ26 ([]) (u354) (x0.2.2.1) (x0.2.2.2) (v344) (F345) (v355) (F356) (b335) _ hF hB364 (hS365.sel [4, 3, 1, 0, 2] rfl) a (ha.sub ⟨rfl, rfl, rfl, trivial⟩)
    ·
      obtain ⟨u369, hu369, hF⟩ := bindE hF
      refine wl_call rfl Try.call79 (C_impl_copyInts w336 x0.2.1 v0_1 (h0_1.ro hB338) _ hu369) rfl ?_
      rintro _ w372 ⟨v370, F371, rfl, hb373, hM376⟩
      refine ⟨_, rfl, ?_⟩
      have hB374 := hB338.trans (hb373.mono hB338.size)
      have hS375 := hS339.join hb373 hM376 hB338.size
      have hSW377 := hSW343.ext hb373
      refine WL.nil (WH.ret hSW377 ?_)
      refine WH.one (i := 0) (by kernel_rfl) rfl ?_
      refine wl_lit0 (e := ty_82) Try.underlying40 rfl (Below.self w372) (Sep.nil _ _) ?_
      intro v378 F379 w380 hb381 hB384 hM385
      have hB382 := hB374.trans (hb381.mono hB374.size)
      have hS383 := hS375.join hb381 hM385 hB374.size
      have hn386 : ∀ b ∈ F379, w213.heap.size ≤ b := fun b hb => Nat.le_trans hSW377.size ((hM385.1 _ (List.mem_cons_self ..)).2.1 b hb).1
      have hSW387 := hSW377.ext hb381
      refine WL.nil (WH.ret hSW387 ?_)
      refine WH.takex (i := 8) rfl (by kernel_rfl) (by kernel_rfl) (by kernel_rfl) hP hSW387 ?_
      refine pr_build (zs := [(.slice none 0 0), (.slice none 0 0), (.int .i64 0), (.int .i64 0)]) (out := [v378, v370, (.int .i64 x0.2.2.1), (.int .i64 x0.2.2.2)]) (vs := [v378, v370, (.int .i64 x0.2.2.1), (.int .i64 x0.2.2.2)]) (css := [[v378], [v370], [(.int .i64 x0.2.2.1)], [(.int .i64 x0.2.2.2)]]) tf_42 pl_42 rfl rfl (by simp only [List.map_cons, List.map_nil, cells_one ((hS383.own_ro (i := 0) rfl).one), cells_one ((hS383.own_ro (i := 1) rfl).one)]; rfl) rfl rfl ?_
      refine WH.one (i := 10) (by kernel_rfl) rfl ?_
      refine wl_store_blk (i := 2) (vs := [v378, v370, (.int .i64 x0.2.2.1), (.int .i64 x0.2.2.2)]) (cs' := [v378, v370, (.int .i64 x0.2.2.1), (.int .i64 x0.2.2.2)]) tf_42 rfl rfl rfl rfl hB382 hS383 rfl rfl ⟨(hS383.own_ro (i := 0) rfl).one, (hS383.own_ro (i := 1) rfl).one, rfl, rfl, trivial⟩ rfl ?_
      intro w388 hk391 hB389 hS390
      have hSW392 := hSW387.wr' hk391.1 hk391.2.1 (fun b hlt hb => absurd hlt (Nat.not_lt.2 (hn342 b hb)))
      have hn393 : ∀ b ∈ [b335], w213.heap.size ≤ b := fun b hb => (hk391.2.2 b hb).elim (hn342 b) fun h => Nat.le_trans hSW387.size h
      refine WL.nil (WH.ret hSW392 ?_)
      refine WH.done (by kernel_rfl) ?_
      exact fun a ha => hJ26 ([]) (u369) (x0.2.2.1) (x0.2.2.2) (v378) (F379) (v370) (F371) (b335) _ hF hB389 (hS390.sel [4, 3, 0, 1, 2] rfl) a (ha.sub ⟨rfl, rfl, rfl, trivial⟩)
theorem C_impl_copyMarch (w0 : World) (x0 : (((List (List (Int × Int))) × (List Int) × Int × Int) × Int × (List Int) × (List Int))) (v0_0 : Value) (h0_0 : rdS ty_82 (· < w0.heap.size) w0 v0_0 x0.1.1) (v0_1 : Value) (h0_1 : rdS ty_3 (· < w0.heap.size) w0 v0_1 x0.1.2.1) (v0_2 : Value) (h0_2 : rdS ty_3 (· < w0.heap.size) w0 v0_2 x0.2.2.1) (v0_3 : Value) (h0_3 : rdS ty_3 (· < w0.heap.size) w0 v0_3 x0.2.2.2) (r : (((List (List (Int × Int))) × (List Int) × Int × Int) × Int × (List Int) × (List Int))) (hF : F_impl_copyMarch x0 = some r) :
    Calls Try.prog 44 [(.agg #[v0_0, v0_1, (.int .i64 x0.1.2.2.1), (.int .i64 x0.1.2.2.2), (.int .i64 x0.2.1), v0_2, v0_3])].toArray w0 fun e w' => ∃ (q0 : Value) (G0 : List Nat) (q1 : Value) (G1 : List Nat) (q2 : Value) (G2 : List Nat) (q3 : Value) (G3 : List Nat), e = .returned (.agg #[q0, q1, (.int .i64 r.1.2.2.1), (.int .i64 r.1.2.2.2), (.int .i64 r.2.1), q2, q3]) ∧ Below w0.heap.size w0 w' ∧ Sep w0.heap.size w' [R.own ty_82 G0 q0 r.1.1, R.own ty_3 G1 q1 r.1.2.1, R.own ty_3 G2 q2 r.2.2.1, R.own ty_3 G3 q3 r.2.2.2] := by
  refine calls_mk' Try.func44 rfl Try.ntmps44 rfl rfl fun Q hQ hP => ?_
  have hB : Below w0.heap.size w0 w0 := Below.refl _ _
  have hS : Sep w0.heap.size w0 [] := Sep.nil _ _
  unfold F_impl_copyMarch at hF
  refine W.seq fun K1 hK1 => ?_
  refine W.region ?_
  refine wl_box (cs := [v0_0, v0_1, (.int .i64 x0.1.2.2.1), (.int .i64 x0.1.2.2.2), (.int .i64 x0.2.1), v0_2, v0_3]) rfl rfl rfl hB hS ?_
  intro b2 w3 hb4 hB5 hS6
  refine wl_alloc (cs := [(.slice none 0 0), (.slice none 0 0), (.int .i64 0), (.int .i64 0), (.int .i64 0), (.slice none 0 0), (.slice none 0 0)]) tf_44 rfl rfl hB5 hS6 ?_
  intro b7 w8 hb9 hB10 hS11
  refine WL.nil ?_
  refine fun a ha => hK1 _ _ ?_ a ha
  refine W.seq fun K12 hK12 => ?_
  refine W.regionH mixed_ [b7] hB10 hS11 ?_
  intro w13 hb14 hB15 hS16
  have hSW17 := KeepX.refl w13 [b7]
  refine WH.takex (i := 0) rfl (by kernel_rfl) (by kernel_rfl) (by kernel_rfl) hP hSW17 ?_
  refine pr_field (o := 0) (off' := 0) ff_44_0 rfl rfl rfl ?_
  refine WH.takex (i := 1) rfl (by kernel_rfl) (by kernel_rfl) (by kernel_rfl) hP hSW17 ?_
  refine pr_load_blk (i := 1) (vs := [v0_0, v0_1, (.int .i64 x0.1.2.2.1), (.int .i64 x0.1.2.2.2)]) (v := (.agg #[v0_0, v0_1, (.int .i64 x0.1.2.2.1), (.int .i64 x0.1.2.2.2)])) tf_42 rfl rfl hS16 rfl rfl rfl (hS16.disj (i := 1) (j := 0) rfl rfl rfl b2 (by simp [R.blk])) ?_
  refine WH.takex (i := 3) rfl (by kernel_rfl) (by kernel_rfl) (by kernel_rfl) hP hSW17 ?_
  refine pr_field (o := 4) (off' := 4) ff_44_1 rfl rfl rfl ?_
  refine WH.takex (i := 4) rfl (by kernel_rfl) (by kernel_rfl) (by kernel_rfl) hP hSW17 ?_
  refine pr_load_blk (i := 1) (vs := [(.int .i64 x0.2.1)]) (v := (.int .i64 x0.2.1)) tf_3 rfl rfl hS16 rfl rfl rfl (hS16.disj (i := 1) (j := 0) rfl rfl rfl b2 (by simp [R.blk])) ?_
  refine WH.takex (i := 5) rfl (by kernel_rfl) (by kernel_rfl) (by kernel_rfl) hP hSW17 ?_
  refine pr_field (o := 5) (off' := 5) ff_44_2 rfl rfl rfl ?_
  refine WH.takex (i := 6) rfl (by kernel_rfl) (by kernel_rfl) (by kernel_rfl) hP hSW17 ?_
  refine pr_load_blk (i := 1) (vs := [v0_2]) (v := v0_2) tf_24 rfl rfl hS16 rfl rfl rfl (hS16.disj (i := 1) (j := 0) rfl rfl rfl b2 (by simp [R.blk])) ?_
  refine WH.takex (i := 8) rfl (by kernel_rfl) (by kernel_rfl) (by kernel_rfl) hP hSW17 ?_
  refine pr_field (o := 6) (off' := 6) ff_44_3 rfl rfl rfl ?_
  refine WH.takex (i := 9) rfl (by kernel_rfl) (by kernel_rfl) (by kernel_rfl) hP hSW17 ?_
  refine pr_load_blk (i := 1) (vs := [v0_3]) (v := v0_3) tf_24 rfl rfl hS16 rfl rfl rfl (hS16.disj (i := 1) (j := 0) rfl rfl rfl b2 (by simp [R.blk])) ?_
  refine WH.one (i := 2) (by kernel_rfl) rfl ?_
  obtain ⟨u18, hu18, hF⟩ := bindE hF
  refine wl_call rfl Try.call78 (C_impl_copyShow w13 x0.1 v0_0 (h0_0.ro hB15) v0_1 (h0_1.ro hB15) _ hu18) rfl ?_
  rintro _ w23 ⟨v19, F20, v21, F22, rfl, hb24, hM27⟩
  refine ⟨_, rfl, ?_⟩
  have hB25 := hB15.trans (hb24.mono hB15.size)
  have hS26 := hS16.join hb24 hM27 hB15.size
  have hSW28 := hSW17.ext hb24
  have hbS29 : Below w13.heap.size w13 w23 := hb24
  refine WL.nil (WH.ret hSW28 ?_)
  refine WH.one (i := 7) (by kernel_rfl) rfl ?_
  obtain ⟨u30, hu30, hF⟩ := bindE hF
  refine wl_call rfl Try.call79 (C_impl_copyInts w23 x0.2.2.1 v0_2 (h0_2.ro hB25) _ hu30) rfl ?_
  rintro _ w33 ⟨v31, F32, rfl, hb34, hM37⟩
  refine ⟨_, rfl, ?_⟩
  have hB35 := hB25.trans (hb34.mono hB25.size)
  have hS36 := hS26.join hb34 hM37 hB25.size
  have hSW38 := hSW28.ext hb34
  have hbS39 : Below w13.heap.size w13 w33 := hbS29.trans (hb34.mono hbS29.size)
  refine WL.nil (WH.ret hSW38 ?_)
  refine WH.one (i := 10) (by kernel_rfl) rfl ?_
  obtain ⟨u40, hu40, hF⟩ := bindE hF
  refine wl_call rfl Try.call79 (C_impl_copyInts w33 x0.2.2.2 v0_3 (h0_3.ro hB35) _ hu40) rfl ?_
  rintro _ w43 ⟨v41, F42, rfl, hb44, hM47⟩
  refine ⟨_, rfl, ?_⟩
  have hB45 := hB35.trans (hb44.mono hB35.size)
  have hS46 := hS36.join hb44 hM47 hB35.size
  have hSW48 := hSW38.ext hb44
  have hbS49 : Below w13.heap.size w13 w43 := hbS39.trans (hb44.mono hbS39.size)
  refine WL.nil (WH.ret hSW48 ?_)
  refine WH.takex (i := 11) rfl (by kernel_rfl) (by kernel_rfl) (by kernel_rfl) hP hSW48 ?_
  refine pr_build (zs := [(.slice none 0 0), (.slice none 0 0), (.int .i64 0), (.int .i64 0), (.int .i64 0), (.slice none 0 0), (.slice none 0 0)]) (out := [v19, v21, (.int .i64 u18.2.2.1), (.int .i64 u18.2.2.2), (.int .i64 x0.2.1), v31, v41]) (vs := [(.agg #[v19, v21, (.int .i64 u18.2.2.1), (.int .i64 u18.2.2.2)]), (.int .i64 x0.2.1), v31, v41]) (css := [[v19, v21, (.int .i64 u18.2.2.1), (.int .i64 u18.2.2.2)], [(.int .i64 x0.2.1)], [v31], [v41]]) tf_44 pl_44 rfl rfl (by simp only [List.map_cons, List.map_nil, cells_one ((hS46.own_ro (i := 1) rfl).one), cells_one ((hS46.own_ro (i := 0) rfl).one)]; rfl) rfl rfl ?_
  refine WH.one (i := 12) (by kernel_rfl) rfl ?_
  refine wl_store_blk (i := 4) (vs := [v19, v21, (.int .i64 u18.2.2.1), (.int .i64 u18.2.2.2), (.int .i64 x0.2.1), v31, v41]) (cs' := [v19, v21, (.int .i64 u18.2.2.1), (.int .i64 u18.2.2.2), (.int .i64 x0.2.1), v31, v41]) tf_44 rfl rfl rfl rfl hB45 hS46 rfl rfl ⟨(hS46.own_ro (i := 2) rfl).one, (hS46.own_ro (i := 3) rfl).one, rfl, rfl, rfl, (hS46.own_ro (i := 1) rfl).one, (hS46.own_ro (i := 0) rfl).one, trivial⟩ rfl ?_
  intro w50 hk53 hB51 hS52
  have hSW54 := hSW48.wr' hk53.1 hk53.2.1 (fun _ _ h => h)
  refine WL.nil (WH.ret hSW54 ?_)
  refine WH.done (by kernel_rfl) ?_
  refine fun a ha => hK12 _ _ ?_ a ha
  refine W.ret ?_
  have hr := Option.some.inj hF
  subst hr
  exact rets (vs := [(.agg #[v19, v21, (.int .i64 u18.2.2.1), (.int .i64 u18.2.2.2), (.int .i64 x0.2.1), v31, v41])]) hQ rfl ⟨rv_cell (i := 4) tf_44 rfl hS52 rfl rfl rfl, trivial⟩ ⟨v19, F20, v21, F22, v31, F32, v41, F42, rfl, hB51, hS52.sel [2, 3, 1, 0] rfl⟩
theorem C_bits_Len64 (w0 : World) (x0 : Int) (r : Int) (hF : F_bits_Len64 x0 = some r) :
    Calls Try.prog 113 [(.int .u64 x0)].toArray w0 fun e w' => e = .returned (.int .i64 r) ∧ Below w0.heap.size w0 w' := by
  refine calls_mk' Try.func113 rfl Try.ntmps113 rfl rfl fun Q hQ hP => ?_
  have hB : Below w0.heap.size w0 w0 := Below.refl _ _
  have hS : Sep w0.heap.size w0 [] := Sep.nil _ _
  unfold F_bits_Len64 at hF
  refine W.seq fun K1 hK1 => ?_
  refine W.region ?_
  refine wl_assign rfl rfl ?_
  refine WL.nil ?_
  refine fun a ha => hK1 _ _ ?_ a ha
  refine W.seq fun K2 hK2 => ?_
  obtain ⟨k8, hk8, hF⟩ := jE2 hF
  have hJ9 : ∀ (y6 : Int) (y7 : Int) (w3 : World) (_ : k8 y6 y7 = some r) (_ : Below w0.heap.size w0 w3) (_ : Sep w0.heap.size w3 []), ∀ a, St 25 [(0, (.int .u64 y6)), (2, (.int .i64 y7))] a → K2 a w3 := by
    intro y6 y7 w3 hF hB4 hS5
    subst hk8
    refine fun a ha => hK2 _ _ ?_ a ha
    refine W.seq fun K10 hK10 => ?_
    obtain ⟨k16, hk16, hF⟩ := jE2 hF
    have hJ17 : ∀ (y14 : Int) (y15 : Int) (w11 : World) (_ : k16 y14 y15 = some r) (_ : Below w0.heap.size w0 w11) (_ : Sep w0.heap.size w11 []), ∀ a, St 25 [(0, (.int .u64 y14)), (2, (.int .i64 y15))] a → K10 a w11 := by
      intro y14 y15 w11 hF hB12 hS13
      subst hk16
      refine fun a ha => hK10 _ _ ?_ a ha
      refine W.seq fun K18 hK18 => ?_
      obtain ⟨k24, hk24, hF⟩ := jE2 hF
      have hJ25 : ∀ (y22 : Int) (y23 : Int) (w19 : World) (_ : k24 y22 y23 = some r) (_ : Below w0.heap.size w0 w19) (_ : Sep w0.heap.size w19 []), ∀ a, St 25 [(0, (.int .u64 y22)), (2, (.int .i64 y23))] a → K18 a w19 := by
        intro y22 y23 w19 hF hB20 hS21
        subst hk24
        refine fun a ha => hK18 _ _ ?_ a ha
        refine W.seq fun K26 hK26 => ?_
        refine W.region ?_
        refine wl_move rfl rfl ?_
        refine wl_move rfl rfl ?_
        refine wl_convi Try.underlying131 Try.underlying5 rfl rfl ?_
        obtain ⟨u27, hu27, hF⟩ := bindE hF
        refine wl_strindex Try.underlying9 rfl rfl rfl hu27 ?_
        refine wl_convi Try.underlying5 Try.underlying3 rfl rfl ?_
        refine wl_add rfl rfl rfl ?_
        refine wl_assign rfl rfl ?_
        refine WL.nil ?_
        refine fun a ha => hK26 _ _ ?_ a ha
        refine W.ret ?_
        have hr := Option.some.inj hF
        subst hr
        exact rets (vs := [(.int .i64 (w64 (y23 + (w64 (UInt8.toNat u27 : Int)))))]) hQ rfl ⟨rv_tmp rfl, trivial⟩ ⟨rfl, hB20⟩
      refine W.seq fun K28 hK28 => ?_
      refine W.region ?_
      refine wl_move rfl rfl ?_
      refine wl_geq rfl rfl rfl ?_
      refine WL.nil ?_
      refine fun a ha => hK28 _ _ ?_ a ha
      refine W.cond rfl (fun h29 => ?_) (fun h29 => ?_)
      · replace hF := ifP h29 hF
        refine W.seq fun K30 hK30 => ?_
        refine W.region ?_
        refine wl_move rfl rfl ?_
        refine wl_shr rfl rfl rfl rfl ?_
        refine wl_assign rfl rfl ?_
        refine WL.nil ?_
        refine fun a ha => hK30 _ _ ?_ a ha
        refine W.region ?_
        refine wl_move rfl rfl ?_
        refine wl_add rfl rfl rfl ?_
        refine wl_assign rfl rfl ?_
        refine WL.nil ?_
        exact fun a ha => hJ25 ((shrK .u64 y14 8)) ((w64 (y15 + 8))) _ hF hB12 (hS13.sel [] rfl) a (ha.sub ⟨rfl, rfl, trivial⟩)
      · replace hF := ifN h29 hF
        refine W.skip ?_
        exact fun a ha => hJ25 (y14) (y15) _ hF hB12 (hS13.sel [] rfl) a (ha.sub ⟨rfl, rfl, trivial⟩)
    refine W.seq fun K31 hK31 => ?_
    refine W.region ?_
    refine wl_move rfl rfl ?_
    refine wl_geq rfl rfl rfl ?_
    refine WL.nil ?_
    refine fun a ha => hK31 _ _ ?_ a ha
    refine W.cond rfl (fun h32 => ?_) (fun h32 => ?_)
    · replace hF := ifP h32 hF
      refine W.seq fun K33 hK33 => ?_
      refine W.region ?_
      refine wl_move rfl rfl ?_
      refine wl_shr rfl rfl rfl rfl ?_
      refine wl_assign rfl rfl ?_
      refine WL.nil ?_
      refine fun a ha => hK33 _ _ ?_ a ha
      refine W.region ?_
      refine wl_move rfl rfl ?_
      refine wl_add rfl rfl rfl ?_
      refine wl_assign rfl rfl ?_
      refine WL.nil ?_
      exact fun a ha => hJ17 ((shrK .u64 y6 16)) ((w64 (y7 + 16))) _ hF hB4 (hS5.sel [] rfl) a (ha.sub ⟨rfl, rfl, trivial⟩)
    · replace hF := ifN h32 hF
      refine W.skip ?_
      exact fun a ha => hJ17 (y6) (y7) _ hF hB4 (hS5.sel [] rfl) a (ha.sub ⟨rfl, rfl, trivial⟩)
  refine W.seq fun K34 hK34 => ?_
  refine W.region ?_
  refine wl_move rfl rfl ?_
  refine wl_geq rfl rfl rfl ?_
  refine WL.nil ?_
  refine fun a ha => hK34 _ _ ?_ a ha
  refine W.cond rfl (fun h35 => ?_) (fun h35 => ?_)
  · replace hF := ifP h35 hF
    refine W.seq fun K36 hK36 => ?_
    refine W.region ?_
    refine wl_move rfl rfl ?_
    refine wl_shr rfl rfl rfl rfl ?_
    refine wl_assign rfl rfl ?_
    refine WL.nil ?_
    refine fun a ha => hK36 _ _ ?_ a ha
    refine W.region ?_
    refine wl_assign rfl rfl ?_
    refine WL.nil ?_
    exact fun a ha => hJ9 ((shrK .u64 x0 32)) (32) _ hF hB (hS.sel [] rfl) a (ha.sub ⟨rfl, rfl, trivial⟩)
  · replace hF := ifN h35 hF
    refine W.skip ?_
    exact fun a ha => hJ9 (x0) (0) _ hF hB (hS.sel [] rfl) a (ha.sub ⟨rfl, rfl, trivial⟩)
theorem C_bits_Len (w0 : World) (x0 : Int) (r : Int) (hF : F_bits_Len x0 = some r) :
    Calls Try.prog 81 [(.int .u64 x0)].toArray w0 fun e w' => e = .returned (.int .i64 r) ∧ Below w0.heap.size w0 w' := by
  refine calls_mk' Try.func81 rfl Try.ntmps81 rfl rfl fun Q hQ hP => ?_
  have hB : Below w0.heap.size w0 w0 := Below.refl _ _
  have hS : Sep w0.heap.size w0 [] := Sep.nil _ _
  unfold F_bits_Len at hF
  refine W.seq fun K1 hK1 => ?_
  refine W.region ?_
  refine wl_assign rfl rfl ?_
  refine WL.nil ?_
  refine fun a ha => hK1 _ _ ?_ a ha
  refine W.seq fun K2 hK2 => ?_
  refine W.cond_f rfl rfl ?_
  refine W.skip ?_
  refine fun a ha => hK2 _ _ ?_ a ha
  refine W.seq fun K3 hK3 => ?_
  refine W.region ?_
  refine wl_move rfl rfl ?_
  obtain ⟨u4, hu4, hF⟩ := bindE hF
  refine wl_call rfl Try.call113 (C_bits_Len64 w0 x0 _ hu4) rfl ?_
  rintro _ w5 ⟨rfl, hb6⟩
  refine ⟨_, rfl, ?_⟩
  have hB7 := hB.trans (hb6.mono hB.size)
  have hS8 := hS.below hb6
  refine wl_assign rfl rfl ?_
  refine WL.nil ?_
  refine fun a ha => hK3 _ _ ?_ a ha
  refine W.ret ?_
  have hr := Option.some.inj hF
  subst hr
  exact rets (vs := [(.int .i64 u4)]) hQ rfl ⟨rv_tmp rfl, trivial⟩ ⟨rfl, hB7⟩
theorem C_cmp_isNaN_int (w0 : World) (x0 : Int) (r : Bool) (hF : F_cmp_isNaN_int x0 = some r) :
    Calls Try.prog 133 [(.int .i64 x0)].toArray w0 fun e w' => e = .returned (.bool r) ∧ Below w0.heap.size w0 w' := by
  refine calls_mk' Try.func133 rfl Try.ntmps133 rfl rfl fun Q hQ hP => ?_
  have hB : Below w0.heap.size w0 w0 := Below.refl _ _
  have hS : Sep w0.heap.size w0 [] := Sep.nil _ _
  unfold F_cmp_isNaN_int at hF
  refine W.seq fun K1 hK1 => ?_
  refine W.region ?_
  refine wl_assign rfl rfl ?_
  refine WL.nil ?_
  refine fun a ha => hK1 _ _ ?_ a ha
  refine W.seq fun K2 hK2 => ?_
  refine W.region ?_
  refine wl_move rfl rfl ?_
  refine wl_move rfl rfl ?_
  refine wl_neq rfl rfl rfl ?_
  refine wl_assign rfl rfl ?_
  refine WL.nil ?_
  refine fun a ha => hK2 _ _ ?_ a ha
  refine W.ret ?_
  have hr := Option.some.inj hF
  subst hr
  exact rets (vs := [(.bool (x0 != x0))]) hQ rfl ⟨rv_tmp rfl, trivial⟩ ⟨rfl, hB⟩
theorem C_cmp_Less_int (w0 : World) (x0 : Int) (x1 : Int) (r : Bool) (hF : F_cmp_Less_int x0 x1 = some r) :
    Calls Try.prog 109 [(.int .i64 x0), (.int .i64 x1)].toArray w0 fun e w' => e = .returned (.bool r) ∧ Below w0.heap.size w0 w' := by
  refine calls_mk' Try.func109 rfl Try.ntmps109 rfl rfl fun Q hQ hP => ?_
  have hB : Below w0.heap.size w0 w0 := Below.refl _ _
  have hS : Sep w0.heap.size w0 [] := Sep.nil _ _
  unfold F_cmp_Less_int at hF
  refine W.seq fun K1 hK1 => ?_
  refine W.region ?_
  refine wl_assign rfl rfl ?_
  refine WL.nil ?_
  refine fun a ha => hK1 _ _ ?_ a ha
  refine W.seq fun K2 hK2 => ?_
  obtain ⟨k7, hk7, hF⟩ := jE1 hF
  have hJ8 : ∀ (y6 : Bool) (w3 : World) (_ : k7 y6 = some r) (_ : Below w0.heap.size w0 w3) (_ : Sep w0.heap.size w3 []), ∀ a, St 17 [(4, (.bool y6))] a → K2 a w3 := by
    intro y6 w3 hF hB4 hS5
    subst hk7
    refine fun a ha => hK2 _ _ ?_ a ha
    refine W.ret ?_
    have hr := Option.some.inj hF
    subst hr
    exact rets (vs := [(.bool y6)]) hQ rfl ⟨rv_tmp rfl, trivial⟩ ⟨rfl, hB4⟩
  refine W.region ?_
  refine wl_move rfl rfl ?_
  obtain ⟨u9, hu9, hF⟩ := bindE hF
  refine wl_call rfl Try.call133 (C_cmp_isNaN_int w0 x0 _ hu9) rfl ?_
  rintro _ w10 ⟨rfl, hb11⟩
  refine ⟨_, rfl, ?_⟩
  have hB12 := hB.trans (hb11.mono hB.size)
  have hS13 := hS.below hb11
  refine wl_move rfl rfl ?_
  rcases bE u9 with h15 | h15
  · replace hF := ifP h15 hF
    refine wl_on rfl rfl h15 ?_
    refine wl_move rfl rfl ?_
    refine wl_on rfl rfl h15 ?_
    obtain ⟨u16, hu16, hF⟩ := bindE hF
    refine wl_call rfl Try.call133 (C_cmp_isNaN_int w10 x1 _ hu16) rfl ?_
    rintro _ w17 ⟨rfl, hb18⟩
    refine ⟨_, rfl, ?_⟩
    have hB19 := hB12.trans (hb18.mono hB12.size)
    have hS20 := hS13.below hb18
    refine wl_on rfl rfl h15 ?_
    refine wl_not rfl rfl ?_
    refine wl_pick_t rfl rfl h15 rfl ?_
    refine wl_move rfl rfl ?_
    rcases bE (!u16) with h22 | h22
    · replace hF := ifP h22 hF
      refine wl_off rfl rfl rfl h22 ?_
      refine wl_off rfl rfl rfl h22 ?_
      refine wl_off rfl rfl rfl h22 ?_
      refine wl_pick_t rfl rfl h22 rfl ?_
      refine wl_assign rfl rfl ?_
      refine WL.nil ?_
      exact fun a ha => hJ8 (true) _ hF hB19 (hS20.sel [] rfl) a (ha.sub ⟨rfl, trivial⟩)
    · replace hF := ifN h22 hF
      refine wl_on rfl rfl h22 ?_
      refine wl_move rfl rfl ?_
      refine wl_on rfl rfl h22 ?_
      refine wl_move rfl rfl ?_
      refine wl_on rfl rfl h22 ?_
      refine wl_lss rfl rfl rfl ?_
      refine wl_pick_f rfl rfl h22 rfl ?_
      refine wl_assign rfl rfl ?_
      refine WL.nil ?_
      exact fun a ha => hJ8 ((decide (x0 < x1))) _ hF hB19 (hS20.sel [] rfl) a (ha.sub ⟨rfl, trivial⟩)
  · replace hF := ifN h15 hF
    refine wl_off rfl rfl rfl h15 ?_
    refine wl_off rfl rfl rfl h15 ?_
    refine wl_off rfl rfl rfl h15 ?_
    refine wl_pick_f rfl rfl h15 rfl ?_
    refine wl_move rfl rfl ?_
    refine wl_on rfl rfl rfl ?_
    refine wl_move rfl rfl ?_
    refine wl_on rfl rfl rfl ?_
    refine wl_move rfl rfl ?_
    refine wl_on rfl rfl rfl ?_
    refine wl_lss rfl rfl rfl ?_
    refine wl_pick_f rfl rfl rfl rfl ?_
    refine wl_assign rfl rfl ?_
    refine WL.nil ?_
    exact fun a ha => hJ8 ((decide (x0 < x1))) _ hF hB12 (hS13.sel [] rfl) a (ha.sub ⟨rfl, trivial⟩)
theorem C_slices_insertionSortOrdered_int__mut (w0 : World) (x0 : (List Int)) (v0_0 : Value) (B0_0 : List Nat) (x1 : Int) (x2 : Int) (hS0 : Sep 0 w0 [R.own ty_3 B0_0 v0_0 x0]) (r : (List Int)) (hF : F_slices_insertionSortOrdered_int__mut x0 x1 x2 = some r) :
    Calls Try.prog 103 [v0_0, (.int .i64 x1), (.int .i64 x2)].toArray w0 fun e w' => e = .returned (.tuple #[]) ∧ Below 0 (wE w0) w' ∧ Sep 0 w' [R.rest w0 (fps [R.own ty_3 B0_0 v0_0 x0]), R.own ty_3 B0_0 v0_0 r] := by
  refine calls_mkn' Try.func103 rfl Try.ntmps103 rfl rfl fun Q hQn hQ hP => ?_
  have hB : Below (wE w0).heap.size (wE w0) w0 := wE_below w0
  have hS : Sep (wE w0).heap.size w0 [R.rest w0 (fps [R.own ty_3 B0_0 v0_0 x0]), R.own ty_3 B0_0 v0_0 x0] := hS0.rest
  unfold F_slices_insertionSortOrdered_int__mut at hF
  refine W.seq fun K1 hK1 => ?_
  refine W.region ?_
  refine wl_move rfl rfl ?_
  refine wl_add rfl rfl rfl ?_
  refine wl_assign rfl rfl ?_
  refine WL.nil ?_
  refine fun a ha => hK1 _ _ ?_ a ha
  refine W.block ?_
  refine W.loopk (fun m a w2 => ∃ (l5 : (List Int)) (y6 : Int), St 49 [(0, v0_0), (1, (.int .i64 x1)), (2, (.int .i64 x2)), (6, (.int .i64 y6))] a ∧ Below (wE w0).heap.size (wE w0) w2 ∧ Sep (wE w0).heap.size w2 [R.rest w0 (fps [R.own ty_3 B0_0 v0_0 x0]), R.own ty_3 B0_0 v0_0 l5] ∧ F_slices_insertionSortOrdered_int__mut_L1 x2 x1 m l5 y6 = some r) FU ?_ ?_
  ·
    exact fun a ha => ⟨x0, (w64 (x1 + 1)), ha.sub ⟨rfl, rfl, rfl, rfl, trivial⟩, hB, (hS.sel [0, 1] rfl), hF⟩
  ·
    rintro m9 a w2 ⟨l5, y6, ha, hB3, hS4, hF⟩ KL8 hKL8
    refine W.at ?_ ha
    cases m9 with
    | zero => exact noneE hF
    | succ m9 =>
      obtain ⟨nx7, hnx7⟩ : ∃ k, k = F_slices_insertionSortOrdered_int__mut_L1 x2 x1 m9 := ⟨_, rfl⟩
      rw [F_slices_insertionSortOrdered_int__mut_L1, ← hnx7] at hF
      refine W.seq fun K10 hK10 => ?_
      refine W.seq fun K11 hK11 => ?_
      refine W.region ?_
      refine wl_move rfl rfl ?_
      refine wl_move rfl rfl ?_
      refine wl_lss rfl rfl rfl ?_
      refine WL.nil ?_
      refine fun a ha => hK11 _ _ ?_ a ha
      refine W.cond rfl (fun h12 => ?_) (fun h12 => ?_)
      · replace hF := ifP h12 hF
        refine W.skip ?_
        refine fun a ha => hK10 _ _ ?_ a ha
        refine W.seq fun K13 hK13 => ?_
        refine W.block ?_
        refine W.seq fun K14 hK14 => ?_
        refine W.region ?_
        refine wl_move rfl rfl ?_
        refine wl_assign rfl rfl ?_
        refine WL.nil ?_
        refine fun a ha => hK14 _ _ ?_ a ha
        refine W.block ?_
        refine W.loopk (fun m a w15 => ∃ (l18 : (List Int)) (y19 : Int), St 49 [(0, v0_0), (1, (.int .i64 x1)), (2, (.int .i64 x2)), (6, (.int .i64 y6)), (7, (.int .i64 y19))] a ∧ Below (wE w0).heap.size (wE w0) w15 ∧ Sep (wE w0).heap.size w15 [R.rest w0 (fps [R.own ty_3 B0_0 v0_0 x0]), R.own ty_3 B0_0 v0_0 l18] ∧ F_slices_insertionSortOrdered_int__mut_L2 nx7 y6 x1 m l18 y19 = some r) FU ?_ ?_
        ·
          exact fun a ha => ⟨l5, y6, ha.sub ⟨rfl, rfl, rfl, rfl, rfl, trivial⟩, hB3, (hS4.sel [0, 1] rfl), hF⟩
        ·
          rintro m22 a w15 ⟨l18, y19, ha, hB16, hS17, hF⟩ KL21 hKL21
          refine W.at ?_ ha
          cases m22 with
          | zero => exact noneE hF
          | succ m22 =>
            obtain ⟨nx20, hnx20⟩ : ∃ k, k = F_slices_insertionSortOrdered_int__mut_L2 nx7 y6 x1 m22 := ⟨_, rfl⟩
            rw [F_slices_insertionSortOrdered_int__mut_L2, ← hnx20] at hF
            refine W.seq fun K23 hK23 => ?_
            refine W.seq fun K24 hK24 => ?_
            obtain ⟨k29, hk29, hF⟩ := jE1 hF
            have hJ30 : ∀ (y28 : Bool) (w25 : World) (_ : k29 y28 = some r) (_ : Below (wE w0).heap.size (wE w0) w25) (_ : Sep (wE w0).heap.size w25 [R.rest w0 (fps [R.own ty_3 B0_0 v0_0 x0]), R.own ty_3 B0_0 v0_0 l18]), ∀ a, St 49 [(0, v0_0), (1, (.int .i64 x1)), (2, (.int .i64 x2)), (6, (.int .i64 y6)), (7, (.int .i64 y19)), (30, (.bool y28))] a → K24 a w25 := by
              intro y28 w25 hF hB26 hS27
              subst hk29
              refine fun a ha => hK24 _ _ ?_ a ha
              refine W.cond rfl (fun h31 => ?_) (fun h31 => ?_)
              · replace hF := ifP h31 hF
                refine W.skip ?_
                refine fun a ha => hK23 _ _ ?_ a ha
                refine W.seq fun K32 hK32 => ?_
                obtain ⟨k37, hk37, hF⟩ := jE1 hF
                have hJ38 : ∀ (l36 : (List Int)) (w33 : World) (_ : k37 l36 = some r) (_ : Below (wE w0).heap.size (wE w0) w33) (_ : Sep (wE w0).heap.size w33 [R.rest w0 (fps [R.own ty_3 B0_0 v0_0 x0]), R.own ty_3 B0_0 v0_0 l36]), ∀ a, St 49 [(0, v0_0), (1, (.int .i64 x1)), (2, (.int .i64 x2)), (6, (.int .i64 y6)), (7, (.int .i64 y19))] a → K32 a w33 := by
                  intro l36 w33 hF hB34 hS35
                  subst hk37
                  refine fun a ha => hK32 _ _ ?_ a ha
                  refine W.region ?_
                  refine wl_move rfl rfl ?_
                  refine wl_sub rfl rfl rfl ?_
                  refine wl_assign rfl rfl ?_
                  refine WL.nil ?_
                  rw [hnx20] at hF
                  exact fun a ha => hKL21 a _ m22 (Nat.lt_succ_self m22) ⟨l36, (w64 (y19 - 1)), ha.sub ⟨rfl, rfl, rfl, rfl, rfl, trivial⟩, hB34, (hS35.sel [0, 1] rfl), hF⟩
                refine W.block ?_
                refine W.regionH mixed_ B0_0 hB26 hS27 ?_
                intro w39 hb40 hB41 hS42
                have hSW43 := KeepX.refl w39 B0_0
                refine WH.takex (i := 0) rfl (by kernel_rfl) (by kernel_rfl) (by kernel_rfl) hP hSW43 ?_
                refine pr_move rfl rfl ?_
                refine WH.takex (i := 1) rfl (by kernel_rfl) (by kernel_rfl) (by kernel_rfl) hP hSW43 ?_
                refine pr_move rfl rfl ?_
                refine WH.takex (i := 2) rfl (by kernel_rfl) (by kernel_rfl) (by kernel_rfl) hP hSW43 ?_
                refine pr_move rfl rfl ?_
                refine WH.takex (i := 3) rfl (by kernel_rfl) (by kernel_rfl) (by kernel_rfl) hP hSW43 ?_
                refine pr_move rfl rfl ?_
                refine WH.takex (i := 4) rfl (by kernel_rfl) (by kernel_rfl) (by kernel_rfl) hP hSW43 ?_
                refine pr_sub rfl rfl rfl ?_
                refine WH.takex (i := 5) rfl (by kernel_rfl) (by kernel_rfl) (by kernel_rfl) hP hSW43 ?_
                refine pr_move rfl rfl ?_
                refine WH.takex (i := 6) rfl (by kernel_rfl) (by kernel_rfl) (by kernel_rfl) hP hSW43 ?_
                refine pr_move rfl rfl ?_
                refine WH.takex (i := 7) rfl (by kernel_rfl) (by kernel_rfl) (by kernel_rfl) hP hSW43 ?_
                refine pr_sub rfl rfl rfl ?_
                obtain ⟨u44, hu44, hF⟩ := bindE hF
                refine WH.takex (i := 8) rfl (by kernel_rfl) (by kernel_rfl) (by kernel_rfl) hP hSW43 ?_
                refine pr_indexo (e := ty_3) (i := 1) Try.underlying24 rfl rfl rfl hS42 rfl hu44 ?_
                rintro p45 _ rfl hp46 ho47
                refine WH.takex (i := 10) rfl (by kernel_rfl) (by kernel_rfl) (by kernel_rfl) hP hSW43 ?_
                refine pr_move rfl rfl ?_
                refine WH.takex (i := 11) rfl (by kernel_rfl) (by kernel_rfl) (by kernel_rfl) hP hSW43 ?_
                refine pr_move rfl rfl ?_
                obtain ⟨u48, hu48, hF⟩ := bindE hF
                refine WH.takex (i := 12) rfl (by kernel_rfl) (by kernel_rfl) (by kernel_rfl) hP hSW43 ?_
                refine pr_indexo (e := ty_3) (i := 1) Try.underlying24 rfl rfl rfl hS42 rfl hu48 ?_
                rintro p49 _ rfl hp50 ho51
                refine WH.many (is := [9, 13]) (by kernel_rfl) rfl ?_
                refine List.forall_mem_cons.2 ⟨⟨_, rfl, ?_⟩, List.forall_mem_cons.2 ⟨⟨_, rfl, ?_⟩, fun _ h => by cases h⟩⟩
                ·
                  refine wl_load_p (vs := [(.int .i64 u44)]) (v := (.int .i64 u44)) tf_3 rfl rfl hp46 rfl rfl ?_
                  refine WL.nil (WH.ret hSW43 ?_)
                  refine WH.one (i := 13) (by kernel_rfl) rfl ?_
                  refine wl_load_p (vs := [(.int .i64 u48)]) (v := (.int .i64 u48)) tf_3 rfl rfl hp50 rfl rfl ?_
                  refine WL.nil (WH.ret hSW43 ?_)
                  obtain ⟨u52, hu52, hF⟩ := bindE hF
                  refine WH.takex (i := 14) rfl (by kernel_rfl) (by kernel_rfl) (by kernel_rfl) hP hSW43 ?_
                  refine pr_indexo (e := ty_3) (i := 1) Try.underlying24 rfl rfl rfl hS42 rfl hu52 ?_
                  rintro p53 _ rfl hp54 ho55
                  refine WH.one (i := 15) (by kernel_rfl) rfl ?_
                  refine wl_storeo (i := 1) (o := 0) (vs := [(.int .i64 u44)]) (u' := u44) fl_3 tf_3 rfl rfl rfl rfl ho55 hu52 hB41 hS42 rfl rfl ⟨rfl, trivial⟩ rfl ?_
                  intro w56 hk59 hB57 hS58
                  have hSW60 := hSW43.wr' hk59.1 hk59.2.1 (fun _ _ h => h)
                  refine WL.nil (WH.ret hSW60 ?_)
                  refine WH.one (i := 16) (by kernel_rfl) rfl ?_
                  obtain ⟨u61, hu61, hF⟩ := bindE hF
                  refine wl_indexo (e := ty_3) (i := 1) Try.underlying24 rfl rfl rfl hS58 rfl hu61 ?_
                  rintro p62 _ rfl hp63 ho64
                  refine WL.nil (WH.ret hSW60 ?_)
                  refine WH.one (i := 17) (by kernel_rfl) rfl ?_
                  refine wl_storeo (i := 1) (o := 0) (vs := [(.int .i64 u48)]) (u' := u48) fl_3 tf_3 rfl rfl rfl rfl ho64 hu61 hB57 hS58 rfl rfl ⟨rfl, trivial⟩ rfl ?_
                  intro w65 hk68 hB66 hS67
                  have hSW69 := hSW60.wr' hk68.1 hk68.2.1 (fun b hlt hb => (hk59.2.2 b hb).elim ((fun _ _ h => h) b hlt) (fun h => absurd hlt (Nat.not_lt.2 (Nat.le_trans hSW43.size h))))
                  refine WL.nil (WH.ret hSW69 ?_)
                  refine WH.done (by kernel_rfl) ?_
                  exact fun a ha => hJ38 ((seti (seti l18 y19 u44) (w64 (y19 - 1)) u48)) _ hF hB66 (hS67.sel [0, 1] rfl) a (ha.sub ⟨rfl, rfl, rfl, rfl, rfl, trivial⟩)
                ·
                  refine wl_load_p (vs := [(.int .i64 u48)]) (v := (.int .i64 u48)) tf_3 rfl rfl hp50 rfl rfl ?_
                  refine WL.nil (WH.ret hSW43 ?_)
                  refine WH.one (i := 9) (by kernel_rfl) rfl ?_
                  refine wl_load_p (vs := [(.int .i64 u44)]) (v := (.int .i64 u44)) tf_3 rfl rfl hp46 rfl rfl ?_
                  refine WL.nil (WH.ret hSW43 ?_)
                  obtain ⟨u70, hu70, hF⟩ := bindE hF
                  refine WH.takex (i := 14) rfl (by kernel_rfl) (by kernel_rfl) (by kernel_rfl) hP hSW43 ?_
                  refine pr_indexo (e := ty_3) (i := 1) Try.underlying24 rfl rfl rfl hS42 rfl hu70 ?_
                  rintro p71 _ rfl hp72 ho73
                  refine WH.one (i := 15) (by kernel_rfl) rfl ?_
                  refine wl_storeo (i := 1) (o := 0) (vs := [(.int .i64 u44)]) (u' := u44) fl_3 tf_3 rfl rfl rfl rfl ho73 hu70 hB41 hS42 rfl rfl ⟨rfl, trivial⟩ rfl ?_
                  intro w74 hk77 hB75 hS76
                  have hSW78 := hSW43.wr' hk77.1 hk77.2.1 (fun _ _ h => h)
                  refine WL.nil (WH.ret hSW78 ?_)
                  refine WH.one (i := 16) (by kernel_rfl) rfl ?_
                  obtain ⟨u79, hu79, hF⟩ := bindE hF
                  refine wl_indexo (e := ty_3) (i := 1) Try.underlying24 rfl rfl rfl hS76 rfl hu79 ?_
                  rintro p80 _ rfl hp81 ho82
                  refine WL.nil (WH.ret hSW78 ?_)
                  refine WH.one (i := 17) (by kernel_rfl) rfl ?_
                  refine wl_storeo (i := 1) (o := 0) (vs := [(.int .i64 u48)]) (u' := u48) fl_3 tf_3 rfl rfl rfl rfl ho82 hu79 hB75 hS76 rfl rfl ⟨rfl, trivial⟩ rfl ?_
                  intro w83 hk86 hB84 hS85
                  have hSW87 := hSW78.wr' hk86.1 hk86.2.1 (fun b hlt hb => (hk77.2.2 b hb).elim ((fun _ _ h => h) b hlt) (fun h => absurd hlt (Nat.not_lt.2 (Nat.le_trans hSW43.size h))))
                  refine WL.nil (WH.ret hSW87 ?_)
                  refine WH.done (by kernel_rfl) ?_
                  exact fun a ha => hJ38 ((seti (seti l18 y19 u44) (w64 (y19 - 1)) u48)) _ hF hB84 (hS85.sel [0, 1] rfl) a (ha.sub ⟨rfl, rfl, rfl, rfl, rfl, trivial⟩)
              · replace hF := ifN h31 hF
                refine W.exit ?_
                refine fun a ha => hK13 _ _ ?_ a ha
                refine W.region ?_
                refine wl_move rfl rfl ?_
                refine wl_add rfl rfl rfl ?_
                refine wl_assign rfl rfl ?_
                refine WL.nil ?_
                rw [hnx7] at hF
                exact fun a ha => hKL8 a _ m9 (Nat.lt_succ_self m9) ⟨l18, (w64 (y6 + 1)), ha.sub ⟨rfl, rfl, rfl, rfl, trivial⟩, hB26, (hS27.sel [0, 1] rfl), hF⟩
            refine W.regionH mixed_ [] hB16 hS17 ?_
            intro w88 hb89 hB90 hS91
            have hSW92 := KeepX.refl w88 []
            refine WH.takex (i := 0) rfl (by kernel_rfl) (by kernel_rfl) (by kernel_rfl) hP hSW92 ?_
            refine pr_move rfl rfl ?_
            refine WH.takex (i := 1) rfl (by kernel_rfl) (by kernel_rfl) (by kernel_rfl) hP hSW92 ?_
            refine pr_move rfl rfl ?_
            refine WH.takex (i := 2) rfl (by kernel_rfl) (by kernel_rfl) (by kernel_rfl) hP hSW92 ?_
            refine pr_gtr rfl rfl rfl ?_
            refine WH.takex (i := 3) rfl (by kernel_rfl) (by kernel_rfl) (by kernel_rfl) hP hSW92 ?_
            refine pr_move rfl rfl ?_
            rcases bE (decide (x1 < y19)) with h93 | h93
            · replace hF := ifP h93 hF
              refine WH.takexg (i := 4) rfl (by kernel_rfl) (by kernel_rfl) (by kernel_rfl) hP rfl rfl h93 hSW92 ?_
              refine pr_move rfl rfl ?_
              refine WH.takexg (i := 5) rfl (by kernel_rfl) (by kernel_rfl) (by kernel_rfl) hP rfl rfl h93 hSW92 ?_
              refine pr_move rfl rfl ?_
              obtain ⟨u94, hu94, hF⟩ := bindE hF
              refine WH.takexg (i := 6) rfl (by kernel_rfl) (by kernel_rfl) (by kernel_rfl) hP rfl rfl h93 hSW92 ?_
              refine pr_indexo (e := ty_3) (i := 1) Try.underlying24 rfl rfl rfl hS91 rfl hu94 ?_
              rintro p95 _ rfl hp96 ho97
              refine WH.takexg (i := 7) rfl (by kernel_rfl) (by kernel_rfl) (by kernel_rfl) hP rfl rfl h93 hSW92 ?_
              refine pr_load_p (vs := [(.int .i64 u94)]) (v := (.int .i64 u94)) tf_3 rfl rfl (hp96.kx0) rfl rfl ?_
              refine WH.takexg (i := 8) rfl (by kernel_rfl) (by kernel_rfl) (by kernel_rfl) hP rfl rfl h93 hSW92 ?_
              refine pr_move rfl rfl ?_
              refine WH.takexg (i := 9) rfl (by kernel_rfl) (by kernel_rfl) (by kernel_rfl) hP rfl rfl h93 hSW92 ?_
              refine pr_move rfl rfl ?_
              refine WH.takexg (i := 10) rfl (by kernel_rfl) (by kernel_rfl) (by kernel_rfl) hP rfl rfl h93 hSW92 ?_
              refine pr_sub rfl rfl rfl ?_
              obtain ⟨u98, hu98, hF⟩ := bindE hF
              refine WH.takexg (i := 11) rfl (by kernel_rfl) (by kernel_rfl) (by kernel_rfl) hP rfl rfl h93 hSW92 ?_
              refine pr_indexo (e := ty_3) (i := 1) Try.underlying24 rfl rfl rfl hS91 rfl hu98 ?_
              rintro p99 _ rfl hp100 ho101
              refine WH.takexg (i := 12) rfl (by kernel_rfl) (by kernel_rfl) (by kernel_rfl) hP rfl rfl h93 hSW92 ?_
              refine pr_load_p (vs := [(.int .i64 u98)]) (v := (.int .i64 u98)) tf_3 rfl rfl (hp100.kx0) rfl rfl ?_
              refine WH.one (i := 13) (by kernel_rfl) rfl ?_
              refine wl_on rfl rfl h93 ?_
              obtain ⟨u102, hu102, hF⟩ := bindE hF
              refine wl_call rfl Try.call109 (C_cmp_Less_int w88 u94 u98 _ hu102) rfl ?_
              rintro _ w103 ⟨rfl, hb104⟩
              refine ⟨_, rfl, ?_⟩
              have hB105 := hB90.trans (hb104.mono hB90.size)
              have hS106 := hS91.below hb104
              have hSW108 := hSW92.ext hb104
              refine WL.nil (WH.ret hSW108 ?_)
              refine WH.takex (i := 14) rfl (by kernel_rfl) (by kernel_rfl) (by kernel_rfl) hP hSW108 ?_
              refine pr_pick_t rfl rfl h93 rfl ?_
              refine WH.done (by kernel_rfl) ?_
              exact fun a ha => hJ30 (u102) _ hF hB105 (hS106.sel [0, 1] rfl) a (ha.sub ⟨rfl, rfl, rfl, rfl, rfl, rfl, trivial⟩)
            · replace hF := ifN h93 hF
              refine WH.off (i := 4) rfl (by kernel_rfl) (by kernel_rfl) (by kernel_rfl) hP rfl rfl h93 rfl hSW92 ?_
              refine WH.off (i := 5) rfl (by kernel_rfl) (by kernel_rfl) (by kernel_rfl) hP rfl rfl h93 rfl hSW92 ?_
              refine WH.off (i := 6) rfl (by kernel_rfl) (by kernel_rfl) (by kernel_rfl) hP rfl rfl h93 rfl hSW92 ?_
              refine WH.off (i := 7) rfl (by kernel_rfl) (by kernel_rfl) (by kernel_rfl) hP rfl rfl h93 rfl hSW92 ?_
              refine WH.off (i := 8) rfl (by kernel_rfl) (by kernel_rfl) (by kernel_rfl) hP rfl rfl h93 rfl hSW92 ?_
              refine WH.off (i := 9) rfl (by kernel_rfl) (by kernel_rfl) (by kernel_rfl) hP rfl rfl h93 rfl hSW92 ?_
              refine WH.off (i := 10) rfl (by kernel_rfl) (by kernel_rfl) (by kernel_rfl) hP rfl rfl h93 rfl hSW92 ?_
              refine WH.off (i := 11) rfl (by kernel_rfl) (by kernel_rfl) (by kernel_rfl) hP rfl rfl h93 rfl hSW92 ?_
              refine WH.off (i := 12) rfl (by kernel_rfl) (by kernel_rfl) (by kernel_rfl) hP rfl rfl h93 rfl hSW92 ?_
              refine WH.off (i := 13) rfl (by kernel_rfl) (by kernel_rfl) (by kernel_rfl) hP rfl rfl h93 rfl hSW92 ?_
              refine WH.takex (i := 14) rfl (by kernel_rfl) (by kernel_rfl) (by kernel_rfl) hP hSW92 ?_
              refine pr_pick_f rfl rfl h93 rfl ?_
              refine WH.done (by kernel_rfl) ?_
              exact fun a ha => hJ30 (false) _ hF hB90 (hS91.sel [0, 1] rfl) a (ha.sub ⟨rfl, rfl, rfl, rfl, rfl, rfl, trivial⟩)
      · replace hF := ifN h12 hF
        refine W.exit ?_
        have hr := Option.some.inj hF
        subst hr
        exact retsn (vs := []) hQn rfl trivial ⟨rfl, hB3, hS4.sel [0, 1] rfl⟩
theorem C_slices_pdqsortOrdered_int__mut (w0 : World) (x0 : (List Int)) (v0_0 : Value) (B0_0 : List Nat) (x1 : Int) (x2 : Int) (x3 : Int) (hS0 : Sep 0 w0 [R.own ty_3 B0_0 v0_0 x0]) (r : (List Int)) (hF : F_slices_pdqsortOrdered_int__mut x0 x1 x2 x3 = some r) :
    Calls Try.prog 80 [v0_0, (.int .i64 x1), (.int .i64 x2), (.int .i64 x3)].toArray w0 fun e w' => e = .returned (.tuple #[]) ∧ Below 0 (wE w0) w' ∧ Sep 0 w' [R.rest w0 (fps [R.own ty_3 B0_0 v0_0 x0]), R.own ty_3 B0_0 v0_0 r] := by
  refine calls_mkn' Try.func80 rfl Try.ntmps80 rfl rfl fun Q hQn hQ hP => ?_
  have hB : Below (wE w0).heap.size (wE w0) w0 := wE_below w0
  have hS : Sep (wE w0).heap.size w0 [R.rest w0 (fps [R.own ty_3 B0_0 v0_0 x0]), R.own ty_3 B0_0 v0_0 x0] := hS0.rest
  unfold F_slices_pdqsortOrdered_int__mut at hF
  refine W.seq fun K1 hK1 => ?_
  refine W.region ?_
  refine wl_assign rfl rfl ?_
  refine WL.nil ?_
  refine fun a ha => hK1 _ _ ?_ a ha
  refine W.seq fun K2 hK2 => ?_
  refine W.region ?_
  refine wl_assign rfl rfl ?_
  refine WL.nil ?_
  refine fun a ha => hK2 _ _ ?_ a ha
  refine W.block ?_
  refine W.loopk (fun m a w3 => St 134 [(0, v0_0), (1, (.int .i64 x1)), (2, (.int .i64 x2)), (3, (.int .i64 x3)), (8, (.bool true)), (9, (.bool true))] a ∧ Below (wE w0).heap.size (wE w0) w3 ∧ Sep (wE w0).heap.size w3 [R.rest w0 (fps [R.own ty_3 B0_0 v0_0 x0]), R.own ty_3 B0_0 v0_0 x0] ∧ F_slices_pdqsortOrdered_int__mut_L1 x2 x1 x0 m  = some r) FU ?_ ?_
  ·
    exact fun a ha => ⟨ha.sub ⟨rfl, rfl, rfl, rfl, rfl, rfl, trivial⟩, hB, (hS.sel [0, 1] rfl), hF⟩
  ·
    rintro m8 a w3 ⟨ha, hB4, hS5, hF⟩ KL7 hKL7
    refine W.at ?_ ha
    cases m8 with
    | zero => exact noneE hF
    | succ m8 =>
      obtain ⟨nx6, hnx6⟩ : ∃ k, k = F_slices_pdqsortOrdered_int__mut_L1 x2 x1 x0 m8 := ⟨_, rfl⟩
      rw [F_slices_pdqsortOrdered_int__mut_L1] at hF; try rw [← hnx6] at hF
      refine W.block ?_
      refine W.seq fun K9 hK9 => ?_
      refine W.region ?_
      refine wl_move rfl rfl ?_
      refine wl_move rfl rfl ?_
      refine wl_sub rfl rfl rfl ?_
      refine wl_assign rfl rfl ?_
      refine WL.nil ?_
      refine fun a ha => hK9 _ _ ?_ a ha
      refine W.seq fun K10 hK10 => ?_
      refine W.seq fun K11 hK11 => ?_
      refine W.region ?_
      refine wl_move rfl rfl ?_
      refine wl_leq rfl rfl rfl ?_
      refine WL.nil ?_
      refine fun a ha => hK11 _ _ ?_ a ha
      refine W.cond rfl (fun h12 => ?_) (fun h12 => ?_)
      · replace hF := ifP h12 hF
        refine W.seq fun K13 hK13 => ?_
        refine W.region ?_
        refine wl_move rfl rfl ?_
        refine wl_move rfl rfl ?_
        refine wl_move rfl rfl ?_
        obtain ⟨u14, hu14, hF⟩ := bindE hF
        refine wl_call rfl Try.call103 (C_slices_insertionSortOrdered_int__mut w3 x0 v0_0 B0_0 x1 x2 (hS5.sel [1] rfl).base0 _ hu14) rfl ?_
        rintro _ w15 ⟨rfl, hE16, hM17⟩
        refine ⟨_, rfl, ?_⟩
        have hB18 := hS5.mutB [1] rfl (M := [R.own ty_3 B0_0 v0_0 x0]) rfl (M' := [R.own ty_3 B0_0 v0_0 u14]) rfl hB4 hB4.size hE16 hM17
        have hS19 : Sep (wE w0).heap.size w15 [R.own ty_3 B0_0 v0_0 u14, R.rest w0 (fps [R.own ty_3 B0_0 v0_0 x0])] := hS5.mut [1] [0] rfl (M := [R.own ty_3 B0_0 v0_0 x0]) rfl (M' := [R.own ty_3 B0_0 v0_0 u14]) rfl hM17
        refine WL.nil ?_
        refine fun a ha => hK13 _ _ ?_ a ha
        refine W.ret ?_
        have hr := Option.some.inj hF
        subst hr
        exact rets (vs := []) hQ rfl trivial ⟨rfl, hB18, hS19.sel [1, 0] rfl⟩
      · replace hF := ifN h12 hF
        exact noneE hF
theorem C_slices_Sort_int_int__mut (w0 : World) (x0 : (List Int)) (v0_0 : Value) (B0_0 : List Nat) (hS0 : Sep 0 w0 [R.own ty_3 B0_0 v0_0 x0]) (r : (List Int)) (hF : F_slices_Sort_int_int__mut x0 = some r) :
    Calls Try.prog 45 [v0_0].toArray w0 fun e w' => e = .returned (.tuple #[]) ∧ Below 0 (wE w0) w' ∧ Sep 0 w' [R.rest w0 (fps [R.own ty_3 B0_0 v0_0 x0]), R.own ty_3 B0_0 v0_0 r] := by
  refine calls_mkn' Try.func45 rfl Try.ntmps45 rfl rfl fun Q hQn hQ hP => ?_
  have hB : Below (wE w0).heap.size (wE w0) w0 := wE_below w0
  have hS : Sep (wE w0).heap.size w0 [R.rest w0 (fps [R.own ty_3 B0_0 v0_0 x0]), R.own ty_3 B0_0 v0_0 x0] := hS0.rest
  unfold F_slices_Sort_int_int__mut at hF
  refine W.seq fun K1 hK1 => ?_
  refine W.region ?_
  refine wl_move rfl rfl ?_
  refine wl_lenr (e := ty_3) (l := x0) Try.underlying24 rfl rfl (hS.own_ro (i := 1) rfl) ?_
  refine wl_assign rfl rfl ?_
  refine WL.nil ?_
  refine fun a ha => hK1 _ _ ?_ a ha
  refine W.region ?_
  refine wl_move rfl rfl ?_
  refine wl_move rfl rfl ?_
  refine wl_move rfl rfl ?_
  refine wl_convi Try.underlying3 Try.underlying100 rfl rfl ?_
  obtain ⟨u2, hu2, hF⟩ := bindE hF
  refine wl_call rfl Try.call81 (C_bits_Len w0 (wu64 (List.length x0 : Int)) _ hu2) rfl ?_
  rintro _ w3 ⟨rfl, hb4⟩
  refine ⟨_, rfl, ?_⟩
  have hB5 := hB.trans (hb4.mono hB.size)
  have hS6 := hS.below hb4
  obtain ⟨u8, hu8, hF⟩ := bindE hF
  refine wl_call rfl Try.call80 (C_slices_pdqsortOrdered_int__mut w3 x0 v0_0 B0_0 0 (List.length x0 : Int) u2 (hS6.sel [1] rfl).base0 _ hu8) rfl ?_
  rintro _ w9 ⟨rfl, hE10, hM11⟩
  refine ⟨_, rfl, ?_⟩
  have hB12 := hS6.mutB [1] rfl (M := [R.own ty_3 B0_0 v0_0 x0]) rfl (M' := [R.own ty_3 B0_0 v0_0 u8]) rfl hB5 hB5.size hE10 hM11
  have hS13 : Sep (wE w0).heap.size w9 [R.own ty_3 B0_0 v0_0 u8, R.rest w0 (fps [R.own ty_3 B0_0 v0_0 x0])] := hS6.mut [1] [0] rfl (M := [R.own ty_3 B0_0 v0_0 x0]) rfl (M' := [R.own ty_3 B0_0 v0_0 u8]) rfl hM11
  refine WL.nil ?_
  have hr := Option.some.inj hF
  subst hr
  exact retsn (vs := []) hQn rfl trivial ⟨rfl, hB12, hS13.sel [1, 0] rfl⟩
end Go.Proofs.Ytcndhhjolnebdaa
