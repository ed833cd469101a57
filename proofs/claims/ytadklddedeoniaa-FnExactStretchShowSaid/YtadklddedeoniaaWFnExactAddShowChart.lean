/-
  THE WALKS of functions of this seat, by program (gen.py).
-/
import Derived.Test.YtadklddedeoniaaH
import Derived.Test.YtadklddedeoniaaWFnExactMostBehind
import Derived.Test.YtadklddedeoniaaWFnExactReverseShow
import Derived.Test.YtadklddedeoniaaWFnExactWaySums
set_option linter.unusedSimpArgs false
set_option linter.unusedVariables false
set_option maxRecDepth 100000
namespace Go.Proofs.Ytadklddedeoniaa
open Go Go.RowKit
theorem C_spec_l1Own (w0 : World) (x0 : (List Int)) (v0_0 : Value) (h0_0 : rdS ty_3 (· < w0.heap.size) w0 v0_0 x0) (r : (List Int)) (hF : F_spec_l1Own x0 = some r) :
    Calls Try.prog 139 [v0_0].toArray w0 fun e w' => ∃ (q0 : Value) (G0 : List Nat), e = .returned q0 ∧ Below w0.heap.size w0 w' ∧ Sep w0.heap.size w' [R.own ty_3 G0 q0 r] := by
  refine calls_mk' Try.func139 rfl Try.ntmps139 rfl rfl fun Q hQ hP => ?_
  have hB : Below w0.heap.size w0 w0 := Below.refl _ _
  have hS : Sep w0.heap.size w0 [] := Sep.nil _ _
  unfold F_spec_l1Own at hF
  refine W.seq fun K1 hK1 => ?_
  refine W.region ?_
  refine wl_assign rfl rfl ?_
  refine WL.nil ?_
  refine fun a ha => hK1 _ _ ?_ a ha
  refine W.seq fun K2 hK2 => ?_
  refine W.region ?_
  refine wl_lit (vs := []) (l := []) fl_3 Try.underlying23 rfl rfl rfl rfl rfl rfl hB hS ?_
  intro v3 F4 w5 hb6 hB7 hS8
  refine wl_move rfl rfl ?_
  obtain ⟨u9, hu9, hF⟩ := bindE hF
  refine wl_append (i := 0) (S := (· < w5.heap.size)) fl_3 Try.underlying23 rfl rfl rfl hB7 hS8 rfl (h0_0.ro hB7) hu9 ?_
  intro v10 F11 w12 hk13 hB14 hS15
  refine wl_assign rfl rfl ?_
  refine WL.nil ?_
  refine fun a ha => hK2 _ _ ?_ a ha
  refine W.ret ?_
  have hr := Option.some.inj hF
  subst hr
  exact rets (vs := [v10]) hQ rfl ⟨rv_tmp rfl, trivial⟩ ⟨v10, F11, rfl, hB14, hS15.sel [0] rfl⟩
theorem C_spec_swOwn (w0 : World) (x0 : ((List (List (Int × Int))) × (List Int) × Int × Int)) (v0_0 : Value) (h0_0 : rdS ty_69 (· < w0.heap.size) w0 v0_0 x0.1) (v0_1 : Value) (h0_1 : rdS ty_3 (· < w0.heap.size) w0 v0_1 x0.2.1) (r : ((List (List (Int × Int))) × (List Int) × Int × Int)) (hF : F_spec_swOwn x0 = some r) :
    Calls Try.prog 100 [(.agg #[v0_0, v0_1, (.int .i64 x0.2.2.1), (.int .i64 x0.2.2.2)])].toArray w0 fun e w' => ∃ (q0 : Value) (G0 : List Nat) (q1 : Value) (G1 : List Nat), e = .returned (.agg #[q0, q1, (.int .i64 r.2.2.1), (.int .i64 r.2.2.2)]) ∧ Below w0.heap.size w0 w' ∧ Sep w0.heap.size w' [R.own ty_69 G0 q0 r.1, R.own ty_3 G1 q1 r.2.1] := by
  refine calls_mk' Try.func100 rfl Try.ntmps100 rfl rfl fun Q hQ hP => ?_
  have hB : Below w0.heap.size w0 w0 := Below.refl _ _
  have hS : Sep w0.heap.size w0 [] := Sep.nil _ _
  unfold F_spec_swOwn at hF
  refine W.seq fun K1 hK1 => ?_
  refine W.region ?_
  refine wl_box (cs := [v0_0, v0_1, (.int .i64 x0.2.2.1), (.int .i64 x0.2.2.2)]) rfl rfl rfl hB hS ?_
  intro b2 w3 hb4 hB5 hS6
  refine wl_alloc (cs := [(.slice none 0 0), (.slice none 0 0), (.int .i64 0), (.int .i64 0)]) tf_31 rfl rfl hB5 hS6 ?_
  intro b7 w8 hb9 hB10 hS11
  refine WL.nil ?_
  refine fun a ha => hK1 _ _ ?_ a ha
  refine W.seq fun K12 hK12 => ?_
  obtain ⟨k22, hk22, hF⟩ := jE3 hF
  have hJ23 : ∀ (l17 : (List Int)) (y20 : Int) (y21 : Int) (v18 : Value) (F19 : List Nat) (b16 : Nat) (w13 : World) (_ : k22 l17 y20 y21 = some r) (_ : Below w0.heap.size w0 w13) (_ : Sep w0.heap.size w13 [R.blk b2 31 [v0_0, v0_1, (.int .i64 x0.2.2.1), (.int .i64 x0.2.2.2)], R.blk b7 31 [(.slice none 0 0), (.slice none 0 0), (.int .i64 0), (.int .i64 0)], R.own ty_3 F19 v18 l17, R.blk b16 31 [(.slice none 0 0), v18, (.int .i64 y20), (.int .i64 y21)]]), ∀ a, St 30 [(1, (.pointer (some ⟨b2, 0, none⟩))), (2, (.pointer (some ⟨b7, 0, none⟩))), (3, (.pointer (some ⟨b16, 0, none⟩)))] a → K12 a w13 := by
    intro l17 y20 y21 v18 F19 b16 w13 hF hB14 hS15
    subst hk22
    refine fun a ha => hK12 _ _ ?_ a ha
    refine W.seq fun K24 hK24 => ?_
    refine W.seq fun K25 hK25 => ?_
    refine W.region ?_
    refine wl_field (o := 0) (off' := 0) ff_31_0 rfl rfl rfl ?_
    refine wl_load_blk (i := 0) (vs := [v0_0]) (v := v0_0) tf_29 rfl rfl hS15 rfl rfl rfl ?_
    refine wl_lenr (e := ty_69) (l := x0.1) Try.underlying29 rfl rfl h0_0 ?_
    refine wl_move rfl rfl ?_
    refine WL.nil ?_
    refine fun a ha => hK25 _ _ ?_ a ha
    refine W.block ?_
    refine W.loopk (fun m a w26 => ∃ (l29 : (List (List (Int × Int)))) (y32 : Int) (v30 : Value) (F31 : List Nat), St 30 [(2, (.pointer (some ⟨b7, 0, none⟩))), (3, (.pointer (some ⟨b16, 0, none⟩))), (15, v0_0), (16, (.int .i64 (List.length x0.1 : Int))), (17, (.int .i64 y32))] a ∧ Below w0.heap.size w0 w26 ∧ Sep w0.heap.size w26 [R.blk b7 31 [(.slice none 0 0), (.slice none 0 0), (.int .i64 0), (.int .i64 0)], R.own ty_69 F31 v30 l29, R.own ty_3 F19 v18 l17, R.blk b16 31 [v30, v18, (.int .i64 y20), (.int .i64 y21)]] ∧ F_spec_swOwn_L1 x0 l17 y20 y21 m l29 y32 = some r) FU ?_ ?_
    ·
      have hS34 := hS15.push0 (r := R.own ty_69 [] (.slice none 0 0) []) rfl fun _ => .inl ⟨rfl, rfl, rfl⟩
      exact fun a ha => ⟨[], 0, (.slice none 0 0), [], ha.sub ⟨rfl, rfl, rfl, rfl, rfl, trivial⟩, hB14, (hS34.sel [2, 0, 3, 4] rfl), hF⟩
    ·
      rintro m36 a w26 ⟨l29, y32, v30, F31, ha, hB27, hS28, hF⟩ KL35 hKL35
      refine W.at ?_ ha
      cases m36 with
      | zero => exact noneE hF
      | succ m36 =>
        obtain ⟨nx33, hnx33⟩ : ∃ k, k = F_spec_swOwn_L1 x0 l17 y20 y21 m36 := ⟨_, rfl⟩
        rw [F_spec_swOwn_L1, ← hnx33] at hF
        refine W.seq fun K37 hK37 => ?_
        refine W.region ?_
        refine wl_lss rfl rfl rfl ?_
        refine WL.nil ?_
        refine fun a ha => hK37 _ _ ?_ a ha
        refine W.seq fun K38 hK38 => ?_
        refine W.cond rfl (fun h39 => ?_) (fun h39 => ?_)
        · replace hF := ifP h39 hF
          refine W.skip ?_
          refine fun a ha => hK38 _ _ ?_ a ha
          refine W.seq fun K40 hK40 => ?_
          obtain ⟨k47, hk47, hF⟩ := jE1 hF
          have hJ48 : ∀ (l44 : (List (List (Int × Int)))) (v45 : Value) (F46 : List Nat) (w41 : World) (_ : k47 l44 = some r) (_ : Below w0.heap.size w0 w41) (_ : Sep w0.heap.size w41 [R.blk b7 31 [(.slice none 0 0), (.slice none 0 0), (.int .i64 0), (.int .i64 0)], R.own ty_69 F46 v45 l44, R.own ty_3 F19 v18 l17, R.blk b16 31 [v45, v18, (.int .i64 y20), (.int .i64 y21)]]), ∀ a, St 30 [(2, (.pointer (some ⟨b7, 0, none⟩))), (3, (.pointer (some ⟨b16, 0, none⟩))), (15, v0_0), (16, (.int .i64 (List.length x0.1 : Int))), (17, (.int .i64 y32))] a → K40 a w41 := by
            intro l44 v45 F46 w41 hF hB42 hS43
            subst hk47
            refine fun a ha => hK40 _ _ ?_ a ha
            refine W.region ?_
            refine wl_add rfl rfl rfl ?_
            refine wl_move rfl rfl ?_
            refine WL.nil ?_
            rw [hnx33] at hF
            exact fun a ha => hKL35 a _ m36 (Nat.lt_succ_self m36) ⟨l44, (w64 (y32 + 1)), v45, F46, ha.sub ⟨rfl, rfl, rfl, rfl, rfl, trivial⟩, hB42, (hS43.sel [0, 1, 2, 3] rfl), hF⟩
          refine W.block ?_
          refine W.seq fun K49 hK49 => ?_
          refine W.region ?_
          obtain ⟨u50, hu50, hF⟩ := bindE hF
          refine wl_index (e := ty_69) Try.underlying29 rfl rfl rfl h0_0 hu50 ?_
          rintro p51 _ ⟨v53, rfl, hv54⟩ hp52
          refine wl_load_p (vs := [v53]) (v := v53) tf_69 rfl rfl (hp52.ro hB27) rfl rfl ?_
          refine wl_assign rfl rfl ?_
          refine WL.nil ?_
          refine fun a ha => hK49 _ _ ?_ a ha
          refine W.regionH mixed_ (F31 ++ [b16]) hB27 hS28 ?_
          intro w55 hb56 hB57 hS58
          have hSW59 := KeepX.refl w55 (F31 ++ [b16])
          refine WH.takex (i := 0) rfl (by kernel_rfl) (by kernel_rfl) (by kernel_rfl) hP hSW59 ?_
          refine pr_field (o := 0) (off' := 0) ff_31_0 rfl rfl rfl ?_
          refine WH.takex (i := 2) rfl (by kernel_rfl) (by kernel_rfl) (by kernel_rfl) hP hSW59 ?_
          refine pr_move rfl rfl ?_
          refine WH.many (is := [1, 3]) (by kernel_rfl) rfl ?_
          refine List.forall_mem_cons.2 ⟨⟨_, rfl, ?_⟩, List.forall_mem_cons.2 ⟨⟨_, rfl, ?_⟩, fun _ h => by cases h⟩⟩
          ·
            refine wl_load_blk (i := 3) (vs := [v30]) (v := v30) tf_29 rfl rfl hS58 rfl rfl rfl ?_
            refine WL.nil (WH.ret hSW59 ?_)
            refine WH.one (i := 3) (by kernel_rfl) rfl ?_
            obtain ⟨u60, hu60, hF⟩ := bindE hF
            refine wl_call rfl Try.call95 (C_spec_chOwn w55 u50 v53 (hv54.ro hB57) _ hu60) rfl ?_
            rintro _ w63 ⟨v61, F62, rfl, hb64, hM67⟩
            refine ⟨_, rfl, ?_⟩
            have hB65 := hB57.trans (hb64.mono hB57.size)
            have hS66 := hS58.join hb64 hM67 hB57.size
            have hSW68 := hSW59.ext hb64
            have hbS69 : Below w55.heap.size w55 w63 := hb64
            refine WL.nil (WH.ret hSW68 ?_)
            refine WH.one (i := 4) (by kernel_rfl) rfl ?_
            have hq70 := hS66.sel [0, 1, 2, 3, 4] rfl
            have hq71 := hq70.head (r' := R.cel ty_69 F62 [v61] u60) (rfl) fun _ h0 => ⟨_, rfl, h0⟩
            refine wl_lit1 (e := ty_69) (vs := [v61]) Try.underlying29 rfl rfl (cells_one (hS66.own_ro (i := 0) rfl).one) rfl hB65 hq71 ?_
            intro v72 F73 w74 hb75 hf76 hB77 hS78
            have hSW80 := hSW68.ext hb75
            have hbS81 : Below w55.heap.size w55 w74 := hbS69.trans (hb75.mono hbS69.size)
            refine WL.nil (WH.ret hSW80 ?_)
            refine WH.one (i := 5) (by kernel_rfl) rfl ?_
            obtain ⟨u82, hu82, hF⟩ := bindE hF
            refine wl_appendn (e := ty_69) Try.underlying29 rfl rfl rfl hB77 (hS78.sel [2, 0, 1, 3, 4] rfl) hu82 ?_
            intro v83 F84 w85 hk86 hB87 hS88
            have hSW89 := hSW80.wr' hk86.1 hk86.2.1 (fun _ _ h => List.mem_append_left _ (h))
            refine WL.nil (WH.ret hSW89 ?_)
            refine WH.takex (i := 6) rfl (by kernel_rfl) (by kernel_rfl) (by kernel_rfl) hP hSW89 ?_
            refine pr_field (o := 0) (off' := 0) ff_31_0 rfl rfl rfl ?_
            refine WH.one (i := 7) (by kernel_rfl) rfl ?_
            refine wl_store_blk (i := 3) (vs := [v83]) (cs' := [v83, v18, (.int .i64 y20), (.int .i64 y21)]) tf_29 rfl rfl (cells_one (hS88.own_ro (i := 0) rfl).one) rfl hB87 hS88 rfl rfl ⟨(hS88.own_ro (i := 0) rfl).one, trivial⟩ rfl ?_
            intro w90 hk93 hB91 hS92
            have hSW94 := hSW89.wr' hk93.1 hk93.2.1 (fun _ _ h => List.mem_append_right _ h)
            refine WL.nil (WH.ret hSW94 ?_)
            refine WH.done (by kernel_rfl) ?_
            exact fun a ha => hJ48 (u82) (v83) (F84) _ hF hB91 (hS92.sel [1, 0, 2, 3] rfl) a (ha.sub ⟨rfl, rfl, rfl, rfl, rfl, trivial⟩)
          ·
            obtain ⟨u95, hu95, hF⟩ := bindE hF
            refine wl_call rfl Try.call95 (C_spec_chOwn w55 u50 v53 (hv54.ro hB57) _ hu95) rfl ?_
            rintro _ w98 ⟨v96, F97, rfl, hb99, hM102⟩
            refine ⟨_, rfl, ?_⟩
            have hB100 := hB57.trans (hb99.mono hB57.size)
            have hS101 := hS58.join hb99 hM102 hB57.size
            have hSW103 := hSW59.ext hb99
            have hbS104 : Below w55.heap.size w55 w98 := hb99
            refine WL.nil (WH.ret hSW103 ?_)
            refine WH.many (is := [1, 4]) (by kernel_rfl) rfl ?_
            refine List.forall_mem_cons.2 ⟨⟨_, rfl, ?_⟩, List.forall_mem_cons.2 ⟨⟨_, rfl, ?_⟩, fun _ h => by cases h⟩⟩
            ·
              refine wl_load_blk (i := 4) (vs := [v30]) (v := v30) tf_29 rfl rfl hS101 rfl rfl rfl ?_
              refine WL.nil (WH.ret hSW103 ?_)
              refine WH.one (i := 4) (by kernel_rfl) rfl ?_
              have hq105 := hS101.sel [0, 1, 2, 3, 4] rfl
              have hq106 := hq105.head (r' := R.cel ty_69 F97 [v96] u95) (rfl) fun _ h0 => ⟨_, rfl, h0⟩
              refine wl_lit1 (e := ty_69) (vs := [v96]) Try.underlying29 rfl rfl (cells_one (hS101.own_ro (i := 0) rfl).one) rfl hB100 hq106 ?_
              intro v107 F108 w109 hb110 hf111 hB112 hS113
              have hSW115 := hSW103.ext hb110
              have hbS116 : Below w55.heap.size w55 w109 := hbS104.trans (hb110.mono hbS104.size)
              refine WL.nil (WH.ret hSW115 ?_)
              refine WH.one (i := 5) (by kernel_rfl) rfl ?_
              obtain ⟨u117, hu117, hF⟩ := bindE hF
              refine wl_appendn (e := ty_69) Try.underlying29 rfl rfl rfl hB112 (hS113.sel [2, 0, 1, 3, 4] rfl) hu117 ?_
              intro v118 F119 w120 hk121 hB122 hS123
              have hSW124 := hSW115.wr' hk121.1 hk121.2.1 (fun _ _ h => List.mem_append_left _ (h))
              refine WL.nil (WH.ret hSW124 ?_)
              refine WH.takex (i := 6) rfl (by kernel_rfl) (by kernel_rfl) (by kernel_rfl) hP hSW124 ?_
              refine pr_field (o := 0) (off' := 0) ff_31_0 rfl rfl rfl ?_
              refine WH.one (i := 7) (by kernel_rfl) rfl ?_
              refine wl_store_blk (i := 3) (vs := [v118]) (cs' := [v118, v18, (.int .i64 y20), (.int .i64 y21)]) tf_29 rfl rfl (cells_one (hS123.own_ro (i := 0) rfl).one) rfl hB122 hS123 rfl rfl ⟨(hS123.own_ro (i := 0) rfl).one, trivial⟩ rfl ?_
              intro w125 hk128 hB126 hS127
              have hSW129 := hSW124.wr' hk128.1 hk128.2.1 (fun _ _ h => List.mem_append_right _ h)
              refine WL.nil (WH.ret hSW129 ?_)
              refine WH.done (by kernel_rfl) ?_
              exact fun a ha => hJ48 (u117) (v118) (F119) _ hF hB126 (hS127.sel [1, 0, 2, 3] rfl) a (ha.sub ⟨rfl, rfl, rfl, rfl, rfl, trivial⟩)
            ·
              have hq130 := hS101.sel [0, 1, 2, 3, 4] rfl
              have hq131 := hq130.head (r' := R.cel ty_69 F97 [v96] u95) (rfl) fun _ h0 => ⟨_, rfl, h0⟩
              refine wl_lit1 (e := ty_69) (vs := [v96]) Try.underlying29 rfl rfl (cells_one (hS101.own_ro (i := 0) rfl).one) rfl hB100 hq131 ?_
              intro v132 F133 w134 hb135 hf136 hB137 hS138
              have hSW140 := hSW103.ext hb135
              have hbS141 : Below w55.heap.size w55 w134 := hbS104.trans (hb135.mono hbS104.size)
              refine WL.nil (WH.ret hSW140 ?_)
              refine WH.one (i := 1) (by kernel_rfl) rfl ?_
              refine wl_load_blk (i := 4) (vs := [v30]) (v := v30) tf_29 rfl rfl hS138 rfl rfl rfl ?_
              refine WL.nil (WH.ret hSW140 ?_)
              refine WH.one (i := 5) (by kernel_rfl) rfl ?_
              obtain ⟨u142, hu142, hF⟩ := bindE hF
              refine wl_appendn (e := ty_69) Try.underlying29 rfl rfl rfl hB137 (hS138.sel [2, 0, 1, 3, 4] rfl) hu142 ?_
              intro v143 F144 w145 hk146 hB147 hS148
              have hSW149 := hSW140.wr' hk146.1 hk146.2.1 (fun _ _ h => List.mem_append_left _ (h))
              refine WL.nil (WH.ret hSW149 ?_)
              refine WH.takex (i := 6) rfl (by kernel_rfl) (by kernel_rfl) (by kernel_rfl) hP hSW149 ?_
              refine pr_field (o := 0) (off' := 0) ff_31_0 rfl rfl rfl ?_
              refine WH.one (i := 7) (by kernel_rfl) rfl ?_
              refine wl_store_blk (i := 3) (vs := [v143]) (cs' := [v143, v18, (.int .i64 y20), (.int .i64 y21)]) tf_29 rfl rfl (cells_one (hS148.own_ro (i := 0) rfl).one) rfl hB147 hS148 rfl rfl ⟨(hS148.own_ro (i := 0) rfl).one, trivial⟩ rfl ?_
              intro w150 hk153 hB151 hS152
              have hSW154 := hSW149.wr' hk153.1 hk153.2.1 (fun _ _ h => List.mem_append_right _ h)
              refine WL.nil (WH.ret hSW154 ?_)
              refine WH.done (by kernel_rfl) ?_
              exact fun a ha => hJ48 (u142) (v143) (F144) _ hF hB151 (hS152.sel [1, 0, 2, 3] rfl) a (ha.sub ⟨rfl, rfl, rfl, rfl, rfl, trivial⟩)
        · replace hF := ifN h39 hF
          refine W.exit ?_
          refine fun a ha => hK24 _ _ ?_ a ha
          refine W.seq fun K155 hK155 => ?_
          refine W.region ?_
          refine wl_load_blk (i := 3) (vs := [v30, v18, (.int .i64 y20), (.int .i64 y21)]) (v := (.agg #[v30, v18, (.int .i64 y20), (.int .i64 y21)])) tf_31 rfl rfl hS28 rfl rfl rfl ?_
          refine wl_store_blk (i := 0) (vs := [v30, v18, (.int .i64 y20), (.int .i64 y21)]) (cs' := [v30, v18, (.int .i64 y20), (.int .i64 y21)]) tf_31 rfl rfl rfl rfl hB27 hS28 rfl rfl ⟨(hS28.own_ro (i := 1) rfl).one, (hS28.own_ro (i := 2) rfl).one, rfl, rfl, trivial⟩ rfl ?_
          intro w156 hk159 hB157 hS158
          refine WL.nil ?_
          refine fun a ha => hK155 _ _ ?_ a ha
          refine W.ret ?_
          have hr := Option.some.inj hF
          subst hr
          exact rets (vs := [(.agg #[v30, v18, (.int .i64 y20), (.int .i64 y21)])]) hQ rfl ⟨rv_cell (i := 0) tf_31 rfl hS158 rfl rfl rfl, trivial⟩ ⟨v30, F31, v18, F19, rfl, hB157, hS158.sel [1, 2] rfl⟩
  refine W.regionH mixed_ [] hB10 hS11 ?_
  intro w160 hb161 hB162 hS163
  have hSW164 := KeepX.refl w160 []
  refine WH.takex (i := 0) rfl (by kernel_rfl) (by kernel_rfl) (by kernel_rfl) hP hSW164 ?_
  refine pr_field (o := 1) (off' := 1) ff_31_1 rfl rfl rfl ?_
  refine WH.takex (i := 1) rfl (by kernel_rfl) (by kernel_rfl) (by kernel_rfl) hP hSW164 ?_
  refine pr_load_blk (i := 1) (vs := [v0_1]) (v := v0_1) tf_23 rfl rfl hS163 rfl rfl rfl (by simp) ?_
  refine WH.takex (i := 3) rfl (by kernel_rfl) (by kernel_rfl) (by kernel_rfl) hP hSW164 ?_
  refine pr_field (o := 2) (off' := 2) ff_31_2 rfl rfl rfl ?_
  refine WH.takex (i := 4) rfl (by kernel_rfl) (by kernel_rfl) (by kernel_rfl) hP hSW164 ?_
  refine pr_load_blk (i := 1) (vs := [(.int .i64 x0.2.2.1)]) (v := (.int .i64 x0.2.2.1)) tf_3 rfl rfl hS163 rfl rfl rfl (by simp) ?_
  refine WH.takex (i := 5) rfl (by kernel_rfl) (by kernel_rfl) (by kernel_rfl) hP hSW164 ?_
  refine pr_field (o := 3) (off' := 3) ff_31_3 rfl rfl rfl ?_
  refine WH.takex (i := 6) rfl (by kernel_rfl) (by kernel_rfl) (by kernel_rfl) hP hSW164 ?_
  refine pr_load_blk (i := 1) (vs := [(.int .i64 x0.2.2.2)]) (v := (.int .i64 x0.2.2.2)) tf_3 rfl rfl hS163 rfl rfl rfl (by simp) ?_
  refine WH.many (is := [2, 8]) (by kernel_rfl) rfl ?_
  refine List.forall_mem_cons.2 ⟨⟨_, rfl, ?_⟩, List.forall_mem_cons.2 ⟨⟨_, rfl, ?_⟩, fun _ h => by cases h⟩⟩
  ·
    obtain ⟨u165, hu165, hF⟩ := bindE hF
    refine wl_call rfl Try.call139 (C_spec_l1Own w160 x0.2.1 v0_1 (h0_1.ro hB162) _ hu165) rfl ?_
    rintro _ w168 ⟨v166, F167, rfl, hb169, hM172⟩
    refine ⟨_, rfl, ?_⟩
    have hB170 := hB162.trans (hb169.mono hB162.size)
    have hS171 := hS163.join hb169 hM172 hB162.size
    have hSW173 := hSW164.ext hb169
    refine WL.nil (WH.ret hSW173 ?_)
    refine WH.takex (i := 7) rfl (by kernel_rfl) (by kernel_rfl) (by kernel_rfl) hP hSW173 ?_
    refine pr_build (zs := [(.slice none 0 0), (.slice none 0 0), (.int .i64 0), (.int .i64 0)]) (out := [(.slice none 0 0), v166, (.int .i64 x0.2.2.1), (.int .i64 x0.2.2.2)]) (vs := [v166, (.int .i64 x0.2.2.1), (.int .i64 x0.2.2.2)]) (css := [[v166], [(.int .i64 x0.2.2.1)], [(.int .i64 x0.2.2.2)]]) tf_31 pl_31 rfl rfl (by simp only [List.map_cons, List.map_nil, cells_one ((hS171.own_ro (i := 0) rfl).one)]; rfl) rfl rfl ?_
    refine WH.one (i := 8) (by kernel_rfl) rfl ?_
    refine wl_alloc (cs := [(.slice none 0 0), (.slice none 0 0), (.int .i64 0), (.int .i64 0)]) tf_31 rfl rfl (Below.self w168) (Sep.nil _ _) ?_
    intro b174 w175 hb176 hB179 hM180
    have hB177 := hB170.trans (hb176.mono hB170.size)
    have hS178 := hS171.join hb176 hM180 hB170.size
    have hn181 : ∀ b ∈ [b174], w160.heap.size ≤ b := fun b hb => Nat.le_trans hSW173.size ((hM180.1 _ (List.mem_cons_self ..)).2.1 b hb).1
    have hSW182 := hSW173.ext hb176
    refine WL.nil (WH.ret hSW182 ?_)
    refine WH.one (i := 9) (by kernel_rfl) rfl ?_
    refine wl_store_blk (i := 0) (vs := [(.slice none 0 0), v166, (.int .i64 x0.2.2.1), (.int .i64 x0.2.2.2)]) (cs' := [(.slice none 0 0), v166, (.int .i64 x0.2.2.1), (.int .i64 x0.2.2.2)]) tf_31 rfl rfl rfl rfl hB177 hS178 rfl rfl ⟨rfl, (hS178.own_ro (i := 1) rfl).one, rfl, rfl, trivial⟩ rfl ?_
    intro w183 hk186 hB184 hS185
    have hSW187 := hSW182.wr' hk186.1 hk186.2.1 (fun b hlt hb => absurd hlt (Nat.not_lt.2 (hn181 b hb)))
    have hn188 : ∀ b ∈ [b174], w160.heap.size ≤ b := fun b hb => (hk186.2.2 b hb).elim (hn181 b) fun h => Nat.le_trans hSW182.size h
    refine WL.nil (WH.ret hSW187 ?_)
    refine WH.done (by kernel_rfl) ?_
    exact fun a ha => hJ23 (u165) (x0.2.2.1) (x0.2.2.2) (v166) (F167) (b174) _ hF hB184 (hS185.sel [3, 2, 1, 0] rfl) a (ha.sub ⟨rfl, rfl, rfl, trivial⟩)
  ·
    refine wl_alloc (cs := [(.slice none 0 0), (.slice none 0 0), (.int .i64 0), (.int .i64 0)]) tf_31 rfl rfl (Below.self w160) (Sep.nil _ _) ?_
    intro b189 w190 hb191 hB194 hM195
    have hB192 := hB162.trans (hb191.mono hB162.size)
    have hS193 := hS163.join hb191 hM195 hB162.size
    have hn196 : ∀ b ∈ [b189], w160.heap.size ≤ b := fun b hb => Nat.le_trans hSW164.size ((hM195.1 _ (List.mem_cons_self ..)).2.1 b hb).1
    have hSW197 := hSW164.ext hb191
    refine WL.nil (WH.ret hSW197 ?_)
    refine WH.one (i := 2) (by kernel_rfl) rfl ?_
    obtain ⟨u198, hu198, hF⟩ := bindE hF
    refine wl_call rfl Try.call139 (C_spec_l1Own w190 x0.2.1 v0_1 (h0_1.ro hB192) _ hu198) rfl ?_
    rintro _ w201 ⟨v199, F200, rfl, hb202, hM205⟩
    refine ⟨_, rfl, ?_⟩
    have hB203 := hB192.trans (hb202.mono hB192.size)
    have hS204 := hS193.join hb202 hM205 hB192.size
    have hSW206 := hSW197.ext hb202
    refine WL.nil (WH.ret hSW206 ?_)
    refine WH.takex (i := 7) rfl (by kernel_rfl) (by kernel_rfl) (by kernel_rfl) hP hSW206 ?_
    refine pr_build (zs := [(.slice none 0 0), (.slice none 0 0), (.int .i64 0), (.int .i64 0)]) (out := [(.slice none 0 0), v199, (.int .i64 x0.2.2.1), (.int .i64 x0.2.2.2)]) (vs := [v199, (.int .i64 x0.2.2.1), (.int .i64 x0.2.2.2)]) (css := [[v199], [(.int .i64 x0.2.2.1)], [(.int .i64 x0.2.2.2)]]) tf_31 pl_31 rfl rfl (by simp only [List.map_cons, List.map_nil, cells_one ((hS204.own_ro (i := 0) rfl).one)]; rfl) rfl rfl ?_
    refine WH.one (i := 9) (by kernel_rfl) rfl ?_
    refine wl_store_blk (i := 1) (vs := [(.slice none 0 0), v199, (.int .i64 x0.2.2.1), (.int .i64 x0.2.2.2)]) (cs' := [(.slice none 0 0), v199, (.int .i64 x0.2.2.1), (.int .i64 x0.2.2.2)]) tf_31 rfl rfl rfl rfl hB203 hS204 rfl rfl ⟨rfl, (hS204.own_ro (i := 0) rfl).one, rfl, rfl, trivial⟩ rfl ?_
    intro w207 hk210 hB208 hS209
    have hSW211 := hSW206.wr' hk210.1 hk210.2.1 (fun b hlt hb => absurd hlt (Nat.not_lt.2 (hn196 b hb)))
    have hn212 : ∀ b ∈ [b189], w160.heap.size ≤ b := fun b hb => (hk210.2.2 b hb).elim (hn196 b) fun h => Nat.le_trans hSW206.size h
    refine WL.nil (WH.ret hSW211 ?_)
    refine WH.done (by kernel_rfl) ?_
    exact fun a ha => hJ23 (u198) (x0.2.2.1) (x0.2.2.2) (v199) (F200) (b189) _ hF hB208 (hS209.sel [3, 2, 0, 1] rfl) a (ha.sub ⟨rfl, rfl, rfl, trivial⟩)
theorem C_spec_swIf__take (w0 : World) (x0 : ((List (List (Int × Int))) × (List Int) × Int × Int)) (v0_0 : Value) (B0_0 : List Nat) (v0_1 : Value) (B0_1 : List Nat) (hS0 : Sep 0 w0 [R.own ty_69 B0_0 v0_0 x0.1, R.own ty_3 B0_1 v0_1 x0.2.1]) (r : (((List (List (Int × Int))) × (List Int) × Int × Int) × Bool)) (hF : F_spec_swIf__take x0 = some r) :
    Calls Try.prog 101 [(.agg #[v0_0, v0_1, (.int .i64 x0.2.2.1), (.int .i64 x0.2.2.2)])].toArray w0 fun e w' => ∃ (q0 : Value) (G0 : List Nat) (q1 : Value) (G1 : List Nat), e = .returned (.tuple #[(.agg #[q0, q1, (.int .i64 r.1.2.2.1), (.int .i64 r.1.2.2.2)]), (.bool r.2)]) ∧ Below 0 (wE w0) w' ∧ Sep 0 w' [R.rest w0 (fps [R.own ty_69 B0_0 v0_0 x0.1, R.own ty_3 B0_1 v0_1 x0.2.1]), R.own ty_69 G0 q0 r.1.1, R.own ty_3 G1 q1 r.1.2.1] := by
  refine calls_mk' Try.func101 rfl Try.ntmps101 rfl rfl fun Q hQ hP => ?_
  have hB : Below (wE w0).heap.size (wE w0) w0 := wE_below w0
  have hS : Sep (wE w0).heap.size w0 [R.rest w0 (fps [R.own ty_69 B0_0 v0_0 x0.1, R.own ty_3 B0_1 v0_1 x0.2.1]), R.own ty_69 B0_0 v0_0 x0.1, R.own ty_3 B0_1 v0_1 x0.2.1] := hS0.rest
  unfold F_spec_swIf__take at hF
  refine W.seq fun K1 hK1 => ?_
  refine W.region ?_
  refine wl_box (cs := [v0_0, v0_1, (.int .i64 x0.2.2.1), (.int .i64 x0.2.2.2)]) rfl rfl rfl hB hS ?_
  intro b2 w3 hb4 hB5 hS6
  refine wl_alloc (cs := [(.slice none 0 0), (.slice none 0 0), (.int .i64 0), (.int .i64 0)]) tf_31 rfl rfl hB5 hS6 ?_
  intro b7 w8 hb9 hB10 hS11
  refine wl_assign rfl rfl ?_
  refine WL.nil ?_
  refine fun a ha => hK1 _ _ ?_ a ha
  refine W.seq fun K12 hK12 => ?_
  refine W.seq fun K13 hK13 => ?_
  refine W.region ?_
  refine wl_load_blk (i := 1) (vs := [v0_0, v0_1, (.int .i64 x0.2.2.1), (.int .i64 x0.2.2.2)]) (v := (.agg #[v0_0, v0_1, (.int .i64 x0.2.2.1), (.int .i64 x0.2.2.2)])) tf_31 rfl rfl hS11 rfl rfl rfl ?_
  obtain ⟨u14, hu14, hF⟩ := bindE hF
  refine wl_call rfl Try.call69 (C_spec_swGood w8 x0 v0_0 (hS11.own_ro (i := 3) rfl) v0_1 (hS11.own_ro (i := 4) rfl) _ hu14) rfl ?_
  rintro _ w15 ⟨rfl, hb16⟩
  refine ⟨_, rfl, ?_⟩
  have hB17 := hB10.trans (hb16.mono hB10.size)
  have hS18 := hS11.below hb16
  refine wl_not rfl rfl ?_
  refine WL.nil ?_
  refine fun a ha => hK13 _ _ ?_ a ha
  refine W.cond rfl (fun h20 => ?_) (fun h20 => ?_)
  · replace hF := ifP h20 hF
    refine W.seq fun K21 hK21 => ?_
    refine W.region ?_
    refine wl_build (zs := [(.slice none 0 0), (.slice none 0 0), (.int .i64 0), (.int .i64 0)]) (out := [(.slice none 0 0), (.slice none 0 0), (.int .i64 0), (.int .i64 0)]) (vs := []) (css := []) tf_31 pl_31 rfl rfl rfl rfl rfl ?_
    refine wl_store_blk (i := 0) (vs := [(.slice none 0 0), (.slice none 0 0), (.int .i64 0), (.int .i64 0)]) (cs' := [(.slice none 0 0), (.slice none 0 0), (.int .i64 0), (.int .i64 0)]) tf_31 rfl rfl rfl rfl hB17 hS18 rfl rfl ⟨rfl, rfl, rfl, rfl, trivial⟩ rfl ?_
    intro w22 hk25 hB23 hS24
    refine wl_assign rfl rfl ?_
    refine WL.nil ?_
    refine fun a ha => hK21 _ _ ?_ a ha
    refine W.ret ?_
    have hS26 := hS24.push0 (r := R.own ty_69 [] (.slice none 0 0) []) rfl fun _ => .inl ⟨rfl, rfl, rfl⟩
    have hS27 := hS26.push0 (r := R.own ty_3 [] (.slice none 0 0) []) rfl fun _ => .inl ⟨rfl, rfl, rfl⟩
    have hr := Option.some.inj hF
    subst hr
    exact rets (vs := [(.agg #[(.slice none 0 0), (.slice none 0 0), (.int .i64 0), (.int .i64 0)]), (.bool false)]) hQ rfl ⟨rv_cell (i := 0) tf_31 rfl hS24 rfl rfl rfl, rv_tmp rfl, trivial⟩ ⟨(.slice none 0 0), [], (.slice none 0 0), [], rfl, hB23, hS27.sel [4, 1, 0] rfl⟩
  · replace hF := ifN h20 hF
    refine W.skip ?_
    refine fun a ha => hK12 _ _ ?_ a ha
    refine W.seq fun K28 hK28 => ?_
    refine W.region ?_
    refine wl_load_blk (i := 1) (vs := [v0_0, v0_1, (.int .i64 x0.2.2.1), (.int .i64 x0.2.2.2)]) (v := (.agg #[v0_0, v0_1, (.int .i64 x0.2.2.1), (.int .i64 x0.2.2.2)])) tf_31 rfl rfl hS18 rfl rfl rfl ?_
    refine wl_store_blk (i := 0) (vs := [v0_0, v0_1, (.int .i64 x0.2.2.1), (.int .i64 x0.2.2.2)]) (cs' := [v0_0, v0_1, (.int .i64 x0.2.2.1), (.int .i64 x0.2.2.2)]) tf_31 rfl rfl rfl rfl hB17 hS18 rfl rfl ⟨(hS18.own_ro (i := 3) rfl).one, (hS18.own_ro (i := 4) rfl).one, rfl, rfl, trivial⟩ rfl ?_
    intro w29 hk32 hB30 hS31
    refine wl_assign rfl rfl ?_
    refine WL.nil ?_
    refine fun a ha => hK28 _ _ ?_ a ha
    refine W.ret ?_
    have hr := Option.some.inj hF
    subst hr
    exact rets (vs := [(.agg #[v0_0, v0_1, (.int .i64 x0.2.2.1), (.int .i64 x0.2.2.2)]), (.bool true)]) hQ rfl ⟨rv_cell (i := 0) tf_31 rfl hS31 rfl rfl rfl, rv_tmp rfl, trivial⟩ ⟨v0_0, B0_0, v0_1, B0_1, rfl, hB30, hS31.sel [2, 3, 4] rfl⟩
theorem C_spec_AddShowChart (w0 : World) (x0 : ((List (List (Int × Int))) × (List Int) × Int × Int)) (v0_0 : Value) (h0_0 : rdS ty_69 (· < w0.heap.size) w0 v0_0 x0.1) (v0_1 : Value) (h0_1 : rdS ty_3 (· < w0.heap.size) w0 v0_1 x0.2.1) (x1 : (List (Int × Int))) (v1_0 : Value) (h1_0 : rdS ty_116 (· < w0.heap.size) w0 v1_0 x1) (x2 : Int) (r : (((List (List (Int × Int))) × (List Int) × Int × Int) × Bool)) (hF : F_spec_AddShowChart x0 x1 x2 = some r) :
    Calls Try.prog 45 [(.agg #[v0_0, v0_1, (.int .i64 x0.2.2.1), (.int .i64 x0.2.2.2)]), v1_0, (.int .i64 x2)].toArray w0 fun e w' => ∃ (q0 : Value) (G0 : List Nat) (q1 : Value) (G1 : List Nat), e = .returned (.tuple #[(.agg #[q0, q1, (.int .i64 r.1.2.2.1), (.int .i64 r.1.2.2.2)]), (.bool r.2)]) ∧ Below w0.heap.size w0 w' ∧ Sep w0.heap.size w' [R.own ty_69 G0 q0 r.1.1, R.own ty_3 G1 q1 r.1.2.1] := by
  refine calls_mk' Try.func45 rfl Try.ntmps45 rfl rfl fun Q hQ hP => ?_
  have hB : Below w0.heap.size w0 w0 := Below.refl _ _
  have hS : Sep w0.heap.size w0 [] := Sep.nil _ _
  unfold F_spec_AddShowChart at hF
  refine W.seq fun K1 hK1 => ?_
  refine W.region ?_
  refine wl_box (cs := [v0_0, v0_1, (.int .i64 x0.2.2.1), (.int .i64 x0.2.2.2)]) rfl rfl rfl hB hS ?_
  intro b2 w3 hb4 hB5 hS6
  refine wl_alloc (cs := [(.slice none 0 0), (.slice none 0 0), (.int .i64 0), (.int .i64 0)]) tf_31 rfl rfl hB5 hS6 ?_
  intro b7 w8 hb9 hB10 hS11
  refine wl_assign rfl rfl ?_
  refine WL.nil ?_
  refine fun a ha => hK1 _ _ ?_ a ha
  refine W.seq fun K12 hK12 => ?_
  refine W.seq fun K13 hK13 => ?_
  refine W.region ?_
  refine wl_load_blk (i := 1) (vs := [v0_0, v0_1, (.int .i64 x0.2.2.1), (.int .i64 x0.2.2.2)]) (v := (.agg #[v0_0, v0_1, (.int .i64 x0.2.2.1), (.int .i64 x0.2.2.2)])) tf_31 rfl rfl hS11 rfl rfl rfl ?_
  obtain ⟨u14, hu14, hF⟩ := bindE hF
  refine wl_call rfl Try.call69 (C_spec_swGood w8 x0 v0_0 (h0_0.ro hB10) v0_1 (h0_1.ro hB10) _ hu14) rfl ?_
  rintro _ w15 ⟨rfl, hb16⟩
  refine ⟨_, rfl, ?_⟩
  have hB17 := hB10.trans (hb16.mono hB10.size)
  have hS18 := hS11.below hb16
  refine wl_not rfl rfl ?_
  refine WL.nil ?_
  refine fun a ha => hK13 _ _ ?_ a ha
  refine W.cond rfl (fun h20 => ?_) (fun h20 => ?_)
  · replace hF := ifP h20 hF
    refine W.seq fun K21 hK21 => ?_
    refine W.region ?_
    refine wl_build (zs := [(.slice none 0 0), (.slice none 0 0), (.int .i64 0), (.int .i64 0)]) (out := [(.slice none 0 0), (.slice none 0 0), (.int .i64 0), (.int .i64 0)]) (vs := []) (css := []) tf_31 pl_31 rfl rfl rfl rfl rfl ?_
    refine wl_store_blk (i := 0) (vs := [(.slice none 0 0), (.slice none 0 0), (.int .i64 0), (.int .i64 0)]) (cs' := [(.slice none 0 0), (.slice none 0 0), (.int .i64 0), (.int .i64 0)]) tf_31 rfl rfl rfl rfl hB17 hS18 rfl rfl ⟨rfl, rfl, rfl, rfl, trivial⟩ rfl ?_
    intro w22 hk25 hB23 hS24
    refine wl_assign rfl rfl ?_
    refine WL.nil ?_
    refine fun a ha => hK21 _ _ ?_ a ha
    refine W.ret ?_
    have hS26 := hS24.push0 (r := R.own ty_69 [] (.slice none 0 0) []) rfl fun _ => .inl ⟨rfl, rfl, rfl⟩
    have hS27 := hS26.push0 (r := R.own ty_3 [] (.slice none 0 0) []) rfl fun _ => .inl ⟨rfl, rfl, rfl⟩
    have hr := Option.some.inj hF
    subst hr
    exact rets (vs := [(.agg #[(.slice none 0 0), (.slice none 0 0), (.int .i64 0), (.int .i64 0)]), (.bool false)]) hQ rfl ⟨rv_cell (i := 0) tf_31 rfl hS24 rfl rfl rfl, rv_tmp rfl, trivial⟩ ⟨(.slice none 0 0), [], (.slice none 0 0), [], rfl, hB23, hS27.sel [1, 0] rfl⟩
  · replace hF := ifN h20 hF
    refine W.skip ?_
    refine fun a ha => hK12 _ _ ?_ a ha
    refine W.seq fun K28 hK28 => ?_
    refine W.region ?_
    refine wl_load_blk (i := 1) (vs := [v0_0, v0_1, (.int .i64 x0.2.2.1), (.int .i64 x0.2.2.2)]) (v := (.agg #[v0_0, v0_1, (.int .i64 x0.2.2.1), (.int .i64 x0.2.2.2)])) tf_31 rfl rfl hS18 rfl rfl rfl ?_
    obtain ⟨u29, hu29, hF⟩ := bindE hF
    refine wl_call rfl Try.call100 (C_spec_swOwn w15 x0 v0_0 (h0_0.ro hB17) v0_1 (h0_1.ro hB17) _ hu29) rfl ?_
    rintro _ w34 ⟨v30, F31, v32, F33, rfl, hb35, hM38⟩
    refine ⟨_, rfl, ?_⟩
    have hB36 := hB17.trans (hb35.mono hB17.size)
    have hS37 := hS18.join hb35 hM38 hB17.size
    refine wl_alloc (cs := [(.slice none 0 0), (.slice none 0 0), (.int .i64 0), (.int .i64 0)]) tf_31 rfl rfl hB36 hS37 ?_
    intro b39 w40 hb41 hB42 hS43
    refine wl_store_blk (i := 0) (vs := [v30, v32, (.int .i64 u29.2.2.1), (.int .i64 u29.2.2.2)]) (cs' := [v30, v32, (.int .i64 u29.2.2.1), (.int .i64 u29.2.2.2)]) tf_31 rfl rfl rfl rfl hB42 hS43 rfl rfl ⟨(hS43.own_ro (i := 1) rfl).one, (hS43.own_ro (i := 2) rfl).one, rfl, rfl, trivial⟩ rfl ?_
    intro w44 hk47 hB45 hS46
    refine WL.nil ?_
    refine fun a ha => hK28 _ _ ?_ a ha
    refine W.seq fun K48 hK48 => ?_
    obtain ⟨k55, hk55, hF⟩ := jE1 hF
    have hJ56 : ∀ (l52 : (List (List (Int × Int)))) (v53 : Value) (F54 : List Nat) (w49 : World) (_ : k55 l52 = some r) (_ : Below w0.heap.size w0 w49) (_ : Sep w0.heap.size w49 [R.blk b7 31 [(.slice none 0 0), (.slice none 0 0), (.int .i64 0), (.int .i64 0)], R.own ty_69 F54 v53 l52, R.own ty_3 F33 v32 u29.2.1, R.blk b39 31 [v53, v32, (.int .i64 u29.2.2.1), (.int .i64 u29.2.2.2)]]), ∀ a, St 32 [(2, (.int .i64 x2)), (6, (.pointer (some ⟨b7, 0, none⟩))), (8, (.pointer (some ⟨b39, 0, none⟩)))] a → K48 a w49 := by
      intro l52 v53 F54 w49 hF hB50 hS51
      subst hk55
      refine fun a ha => hK48 _ _ ?_ a ha
      refine W.seq fun K57 hK57 => ?_
      refine W.region ?_
      refine wl_field (o := 1) (off' := 1) ff_31_1 rfl rfl rfl ?_
      refine wl_load_blk (i := 3) (vs := [v32]) (v := v32) tf_23 rfl rfl hS51 rfl rfl rfl ?_
      refine wl_move rfl rfl ?_
      refine wl_lit (vs := [(.int .i64 x2)]) (l := [x2]) fl_3 Try.underlying23 rfl rfl rfl rfl rfl rfl hB50 hS51 ?_
      intro v58 F59 w60 hb61 hB62 hS63
      obtain ⟨u64, hu64, hF⟩ := bindE hF
      refine wl_append (i := 3) (S := (· < w60.heap.size)) fl_3 Try.underlying23 rfl rfl rfl hB62 hS63 rfl (hS63.own_ro (i := 0) rfl) hu64 ?_
      intro v65 F66 w67 hk68 hB69 hS70
      refine wl_field (o := 1) (off' := 1) ff_31_1 rfl rfl rfl ?_
      refine wl_store_blk (i := 4) (vs := [v65]) (cs' := [v53, v65, (.int .i64 u29.2.2.1), (.int .i64 u29.2.2.2)]) tf_23 rfl rfl (cells_one (hS70.own_ro (i := 3) rfl).one) rfl hB69 hS70 rfl rfl ⟨(hS70.own_ro (i := 3) rfl).one, trivial⟩ rfl ?_
      intro w71 hk74 hB72 hS73
      refine WL.nil ?_
      refine fun a ha => hK57 _ _ ?_ a ha
      refine W.seq fun K75 hK75 => ?_
      refine W.region ?_
      refine wl_load_blk (i := 4) (vs := [v53, v65, (.int .i64 u29.2.2.1), (.int .i64 u29.2.2.2)]) (v := (.agg #[v53, v65, (.int .i64 u29.2.2.1), (.int .i64 u29.2.2.2)])) tf_31 rfl rfl hS73 rfl rfl rfl ?_
      obtain ⟨u76, hu76, hF⟩ := bindE hF
      refine wl_call rfl Try.call101 (C_spec_swIf__take w71 (l52, u64, u29.2.2.1, u29.2.2.2) v53 F54 v65 F66 (hS73.sel [2, 3] rfl).base0 _ hu76) rfl ?_
      rintro _ w77 ⟨v82, F83, v84, F85, rfl, hE78, hM79⟩
      refine ⟨_, rfl, ?_⟩
      have hB80 := hS73.takeB [2, 3] rfl (M := [R.own ty_69 F54 v53 l52, R.own ty_3 F66 v65 u64]) rfl hB72 hE78 hM79
      have hS81 : Sep w0.heap.size w77 [R.own ty_69 F83 v82 u76.1.1, R.own ty_3 F85 v84 u76.1.2.1, R.own ty_3 F59 v58 [x2], R.blk b7 31 [(.slice none 0 0), (.slice none 0 0), (.int .i64 0), (.int .i64 0)], R.blk b39 31 [v53, v65, (.int .i64 u29.2.2.1), (.int .i64 u29.2.2.2)]] := hS73.take [2, 3] [0, 1, 4] rfl (M := [R.own ty_69 F54 v53 l52, R.own ty_3 F66 v65 u64]) rfl hM79 hB72.size
      refine wl_extract rfl rfl rfl ?_
      refine wl_extract rfl rfl rfl ?_
      refine wl_store_blk (i := 3) (vs := [v82, v84, (.int .i64 u76.1.2.2.1), (.int .i64 u76.1.2.2.2)]) (cs' := [v82, v84, (.int .i64 u76.1.2.2.1), (.int .i64 u76.1.2.2.2)]) tf_31 rfl rfl rfl rfl hB80 hS81 rfl rfl ⟨(hS81.own_ro (i := 0) rfl).one, (hS81.own_ro (i := 1) rfl).one, rfl, rfl, trivial⟩ rfl ?_
      intro w86 hk89 hB87 hS88
      refine wl_assign rfl rfl ?_
      refine WL.nil ?_
      refine fun a ha => hK75 _ _ ?_ a ha
      refine W.ret ?_
      have hr := Option.some.inj hF
      subst hr
      exact rets (vs := [(.agg #[v82, v84, (.int .i64 u76.1.2.2.1), (.int .i64 u76.1.2.2.2)]), (.bool u76.2)]) hQ rfl ⟨rv_cell (i := 3) tf_31 rfl hS88 rfl rfl rfl, rv_tmp rfl, trivial⟩ ⟨v82, F83, v84, F85, rfl, hB87, hS88.sel [0, 1] rfl⟩
    refine W.regionH mixed_ ([b39] ++ F31) hB45 hS46 ?_
    intro w90 hb91 hB92 hS93
    have hSW94 := KeepX.refl w90 ([b39] ++ F31)
    refine WH.takex (i := 0) rfl (by kernel_rfl) (by kernel_rfl) (by kernel_rfl) hP hSW94 ?_
    refine pr_field (o := 0) (off' := 0) ff_31_0 rfl rfl rfl ?_
    refine WH.takex (i := 2) rfl (by kernel_rfl) (by kernel_rfl) (by kernel_rfl) hP hSW94 ?_
    refine pr_move rfl rfl ?_
    refine WH.many (is := [1, 3]) (by kernel_rfl) rfl ?_
    refine List.forall_mem_cons.2 ⟨⟨_, rfl, ?_⟩, List.forall_mem_cons.2 ⟨⟨_, rfl, ?_⟩, fun _ h => by cases h⟩⟩
    ·
      refine wl_load_blk (i := 0) (vs := [v30]) (v := v30) tf_29 rfl rfl hS93 rfl rfl rfl ?_
      refine WL.nil (WH.ret hSW94 ?_)
      refine WH.one (i := 3) (by kernel_rfl) rfl ?_
      obtain ⟨u95, hu95, hF⟩ := bindE hF
      refine wl_call rfl Try.call95 (C_spec_chOwn w90 x1 v1_0 (h1_0.ro hB92) _ hu95) rfl ?_
      rintro _ w98 ⟨v96, F97, rfl, hb99, hM102⟩
      refine ⟨_, rfl, ?_⟩
      have hB100 := hB92.trans (hb99.mono hB92.size)
      have hS101 := hS93.join hb99 hM102 hB92.size
      have hSW103 := hSW94.ext hb99
      have hbS104 : Below w90.heap.size w90 w98 := hb99
      refine WL.nil (WH.ret hSW103 ?_)
      refine WH.one (i := 4) (by kernel_rfl) rfl ?_
      have hq105 := hS101.sel [0, 1, 2, 3, 4, 5] rfl
      have hq106 := hq105.head (r' := R.cel ty_69 F97 [v96] u95) (rfl) fun _ h0 => ⟨_, rfl, h0⟩
      refine wl_lit1 (e := ty_69) (vs := [v96]) Try.underlying29 rfl rfl (cells_one (hS101.own_ro (i := 0) rfl).one) rfl hB100 hq106 ?_
      intro v107 F108 w109 hb110 hf111 hB112 hS113
      have hSW115 := hSW103.ext hb110
      have hbS116 : Below w90.heap.size w90 w109 := hbS104.trans (hb110.mono hbS104.size)
      refine WL.nil (WH.ret hSW115 ?_)
      refine WH.one (i := 5) (by kernel_rfl) rfl ?_
      obtain ⟨u117, hu117, hF⟩ := bindE hF
      refine wl_appendn (e := ty_69) Try.underlying29 rfl rfl rfl hB112 (hS113.sel [2, 0, 1, 3, 4, 5] rfl) hu117 ?_
      intro v118 F119 w120 hk121 hB122 hS123
      have hSW124 := hSW115.wr' hk121.1 hk121.2.1 (fun _ _ h => List.mem_append_right _ h)
      refine WL.nil (WH.ret hSW124 ?_)
      refine WH.takex (i := 6) rfl (by kernel_rfl) (by kernel_rfl) (by kernel_rfl) hP hSW124 ?_
      refine pr_field (o := 0) (off' := 0) ff_31_0 rfl rfl rfl ?_
      refine WH.one (i := 7) (by kernel_rfl) rfl ?_
      refine wl_store_blk (i := 1) (vs := [v118]) (cs' := [v118, v32, (.int .i64 u29.2.2.1), (.int .i64 u29.2.2.2)]) tf_29 rfl rfl (cells_one (hS123.own_ro (i := 0) rfl).one) rfl hB122 hS123 rfl rfl ⟨(hS123.own_ro (i := 0) rfl).one, trivial⟩ rfl ?_
      intro w125 hk128 hB126 hS127
      have hSW129 := hSW124.wr' hk128.1 hk128.2.1 (fun _ _ h => List.mem_append_left _ (h))
      refine WL.nil (WH.ret hSW129 ?_)
      refine WH.done (by kernel_rfl) ?_
      exact fun a ha => hJ56 (u117) (v118) (F119) _ hF hB126 (hS127.sel [3, 0, 2, 1] rfl) a (ha.sub ⟨rfl, rfl, rfl, trivial⟩)
    ·
      obtain ⟨u130, hu130, hF⟩ := bindE hF
      refine wl_call rfl Try.call95 (C_spec_chOwn w90 x1 v1_0 (h1_0.ro hB92) _ hu130) rfl ?_
      rintro _ w133 ⟨v131, F132, rfl, hb134, hM137⟩
      refine ⟨_, rfl, ?_⟩
      have hB135 := hB92.trans (hb134.mono hB92.size)
      have hS136 := hS93.join hb134 hM137 hB92.size
      have hSW138 := hSW94.ext hb134
      have hbS139 : Below w90.heap.size w90 w133 := hb134
      refine WL.nil (WH.ret hSW138 ?_)
      refine WH.many (is := [1, 4]) (by kernel_rfl) rfl ?_
      refine List.forall_mem_cons.2 ⟨⟨_, rfl, ?_⟩, List.forall_mem_cons.2 ⟨⟨_, rfl, ?_⟩, fun _ h => by cases h⟩⟩
      ·
        refine wl_load_blk (i := 1) (vs := [v30]) (v := v30) tf_29 rfl rfl hS136 rfl rfl rfl ?_
        refine WL.nil (WH.ret hSW138 ?_)
        refine WH.one (i := 4) (by kernel_rfl) rfl ?_
        have hq140 := hS136.sel [0, 1, 2, 3, 4, 5] rfl
        have hq141 := hq140.head (r' := R.cel ty_69 F132 [v131] u130) (rfl) fun _ h0 => ⟨_, rfl, h0⟩
        refine wl_lit1 (e := ty_69) (vs := [v131]) Try.underlying29 rfl rfl (cells_one (hS136.own_ro (i := 0) rfl).one) rfl hB135 hq141 ?_
        intro v142 F143 w144 hb145 hf146 hB147 hS148
        have hSW150 := hSW138.ext hb145
        have hbS151 : Below w90.heap.size w90 w144 := hbS139.trans (hb145.mono hbS139.size)
        refine WL.nil (WH.ret hSW150 ?_)
        refine WH.one (i := 5) (by kernel_rfl) rfl ?_
        obtain ⟨u152, hu152, hF⟩ := bindE hF
        refine wl_appendn (e := ty_69) Try.underlying29 rfl rfl rfl hB147 (hS148.sel [2, 0, 1, 3, 4, 5] rfl) hu152 ?_
        intro v153 F154 w155 hk156 hB157 hS158
        have hSW159 := hSW150.wr' hk156.1 hk156.2.1 (fun _ _ h => List.mem_append_right _ h)
        refine WL.nil (WH.ret hSW159 ?_)
        refine WH.takex (i := 6) rfl (by kernel_rfl) (by kernel_rfl) (by kernel_rfl) hP hSW159 ?_
        refine pr_field (o := 0) (off' := 0) ff_31_0 rfl rfl rfl ?_
        refine WH.one (i := 7) (by kernel_rfl) rfl ?_
        refine wl_store_blk (i := 1) (vs := [v153]) (cs' := [v153, v32, (.int .i64 u29.2.2.1), (.int .i64 u29.2.2.2)]) tf_29 rfl rfl (cells_one (hS158.own_ro (i := 0) rfl).one) rfl hB157 hS158 rfl rfl ⟨(hS158.own_ro (i := 0) rfl).one, trivial⟩ rfl ?_
        intro w160 hk163 hB161 hS162
        have hSW164 := hSW159.wr' hk163.1 hk163.2.1 (fun _ _ h => List.mem_append_left _ (h))
        refine WL.nil (WH.ret hSW164 ?_)
        refine WH.done (by kernel_rfl) ?_
        exact fun a ha => hJ56 (u152) (v153) (F154) _ hF hB161 (hS162.sel [3, 0, 2, 1] rfl) a (ha.sub ⟨rfl, rfl, rfl, trivial⟩)
      ·
        have hq165 := hS136.sel [0, 1, 2, 3, 4, 5] rfl
        have hq166 := hq165.head (r' := R.cel ty_69 F132 [v131] u130) (rfl) fun _ h0 => ⟨_, rfl, h0⟩
        refine wl_lit1 (e := ty_69) (vs := [v131]) Try.underlying29 rfl rfl (cells_one (hS136.own_ro (i := 0) rfl).one) rfl hB135 hq166 ?_
        intro v167 F168 w169 hb170 hf171 hB172 hS173
        have hSW175 := hSW138.ext hb170
        have hbS176 : Below w90.heap.size w90 w169 := hbS139.trans (hb170.mono hbS139.size)
        refine WL.nil (WH.ret hSW175 ?_)
        refine WH.one (i := 1) (by kernel_rfl) rfl ?_
        refine wl_load_blk (i := 1) (vs := [v30]) (v := v30) tf_29 rfl rfl hS173 rfl rfl rfl ?_
        refine WL.nil (WH.ret hSW175 ?_)
        refine WH.one (i := 5) (by kernel_rfl) rfl ?_
        obtain ⟨u177, hu177, hF⟩ := bindE hF
        refine wl_appendn (e := ty_69) Try.underlying29 rfl rfl rfl hB172 (hS173.sel [2, 0, 1, 3, 4, 5] rfl) hu177 ?_
        intro v178 F179 w180 hk181 hB182 hS183
        have hSW184 := hSW175.wr' hk181.1 hk181.2.1 (fun _ _ h => List.mem_append_right _ h)
        refine WL.nil (WH.ret hSW184 ?_)
        refine WH.takex (i := 6) rfl (by kernel_rfl) (by kernel_rfl) (by kernel_rfl) hP hSW184 ?_
        refine pr_field (o := 0) (off' := 0) ff_31_0 rfl rfl rfl ?_
        refine WH.one (i := 7) (by kernel_rfl) rfl ?_
        refine wl_store_blk (i := 1) (vs := [v178]) (cs' := [v178, v32, (.int .i64 u29.2.2.1), (.int .i64 u29.2.2.2)]) tf_29 rfl rfl (cells_one (hS183.own_ro (i := 0) rfl).one) rfl hB182 hS183 rfl rfl ⟨(hS183.own_ro (i := 0) rfl).one, trivial⟩ rfl ?_
        intro w185 hk188 hB186 hS187
        have hSW189 := hSW184.wr' hk188.1 hk188.2.1 (fun _ _ h => List.mem_append_left _ (h))
        refine WL.nil (WH.ret hSW189 ?_)
        refine WH.done (by kernel_rfl) ?_
        exact fun a ha => hJ56 (u177) (v178) (F179) _ hF hB186 (hS187.sel [3, 0, 2, 1] rfl) a (ha.sub ⟨rfl, rfl, rfl, trivial⟩)
theorem C_impl_asShow__take (w0 : World) (x0 : ((List (List (Int × Int))) × (List Int) × Int × Int)) (v0_0 : Value) (B0_0 : List Nat) (v0_1 : Value) (B0_1 : List Nat) (hS0 : Sep 0 w0 [R.own ty_69 B0_0 v0_0 x0.1, R.own ty_3 B0_1 v0_1 x0.2.1]) (r : (((List (List (Int × Int))) × (List Int) × Int × Int) × Bool)) (hF : F_impl_asShow__take x0 = some r) :
    Calls Try.prog 103 [(.agg #[v0_0, v0_1, (.int .i64 x0.2.2.1), (.int .i64 x0.2.2.2)])].toArray w0 fun e w' => ∃ (q0 : Value) (G0 : List Nat) (q1 : Value) (G1 : List Nat), e = .returned (.tuple #[(.agg #[q0, q1, (.int .i64 r.1.2.2.1), (.int .i64 r.1.2.2.2)]), (.bool r.2)]) ∧ Below 0 (wE w0) w' ∧ Sep 0 w' [R.rest w0 (fps [R.own ty_69 B0_0 v0_0 x0.1, R.own ty_3 B0_1 v0_1 x0.2.1]), R.own ty_69 G0 q0 r.1.1, R.own ty_3 G1 q1 r.1.2.1] := by
  refine calls_mk' Try.func103 rfl Try.ntmps103 rfl rfl fun Q hQ hP => ?_
  have hB : Below (wE w0).heap.size (wE w0) w0 := wE_below w0
  have hS : Sep (wE w0).heap.size w0 [R.rest w0 (fps [R.own ty_69 B0_0 v0_0 x0.1, R.own ty_3 B0_1 v0_1 x0.2.1]), R.own ty_69 B0_0 v0_0 x0.1, R.own ty_3 B0_1 v0_1 x0.2.1] := hS0.rest
  unfold F_impl_asShow__take at hF
  refine W.seq fun K1 hK1 => ?_
  refine W.region ?_
  refine wl_box (cs := [v0_0, v0_1, (.int .i64 x0.2.2.1), (.int .i64 x0.2.2.2)]) rfl rfl rfl hB hS ?_
  intro b2 w3 hb4 hB5 hS6
  refine wl_alloc (cs := [(.slice none 0 0), (.slice none 0 0), (.int .i64 0), (.int .i64 0)]) tf_31 rfl rfl hB5 hS6 ?_
  intro b7 w8 hb9 hB10 hS11
  refine wl_assign rfl rfl ?_
  refine WL.nil ?_
  refine fun a ha => hK1 _ _ ?_ a ha
  refine W.seq fun K12 hK12 => ?_
  refine W.seq fun K13 hK13 => ?_
  refine W.region ?_
  refine wl_load_blk (i := 1) (vs := [v0_0, v0_1, (.int .i64 x0.2.2.1), (.int .i64 x0.2.2.2)]) (v := (.agg #[v0_0, v0_1, (.int .i64 x0.2.2.1), (.int .i64 x0.2.2.2)])) tf_31 rfl rfl hS11 rfl rfl rfl ?_
  obtain ⟨u14, hu14, hF⟩ := bindE hF
  refine wl_call rfl Try.call73 (C_impl_IsShow w8 x0 v0_0 (hS11.own_ro (i := 3) rfl) v0_1 (hS11.own_ro (i := 4) rfl) _ hu14) rfl ?_
  rintro _ w15 ⟨rfl, hb16⟩
  refine ⟨_, rfl, ?_⟩
  have hB17 := hB10.trans (hb16.mono hB10.size)
  have hS18 := hS11.below hb16
  refine wl_not rfl rfl ?_
  refine WL.nil ?_
  refine fun a ha => hK13 _ _ ?_ a ha
  refine W.cond rfl (fun h20 => ?_) (fun h20 => ?_)
  · replace hF := ifP h20 hF
    refine W.seq fun K21 hK21 => ?_
    refine W.region ?_
    refine wl_build (zs := [(.slice none 0 0), (.slice none 0 0), (.int .i64 0), (.int .i64 0)]) (out := [(.slice none 0 0), (.slice none 0 0), (.int .i64 0), (.int .i64 0)]) (vs := []) (css := []) tf_31 pl_31 rfl rfl rfl rfl rfl ?_
    refine wl_store_blk (i := 0) (vs := [(.slice none 0 0), (.slice none 0 0), (.int .i64 0), (.int .i64 0)]) (cs' := [(.slice none 0 0), (.slice none 0 0), (.int .i64 0), (.int .i64 0)]) tf_31 rfl rfl rfl rfl hB17 hS18 rfl rfl ⟨rfl, rfl, rfl, rfl, trivial⟩ rfl ?_
    intro w22 hk25 hB23 hS24
    refine wl_assign rfl rfl ?_
    refine WL.nil ?_
    refine fun a ha => hK21 _ _ ?_ a ha
    refine W.ret ?_
    have hS26 := hS24.push0 (r := R.own ty_69 [] (.slice none 0 0) []) rfl fun _ => .inl ⟨rfl, rfl, rfl⟩
    have hS27 := hS26.push0 (r := R.own ty_3 [] (.slice none 0 0) []) rfl fun _ => .inl ⟨rfl, rfl, rfl⟩
    have hr := Option.some.inj hF
    subst hr
    exact rets (vs := [(.agg #[(.slice none 0 0), (.slice none 0 0), (.int .i64 0), (.int .i64 0)]), (.bool false)]) hQ rfl ⟨rv_cell (i := 0) tf_31 rfl hS24 rfl rfl rfl, rv_tmp rfl, trivial⟩ ⟨(.slice none 0 0), [], (.slice none 0 0), [], rfl, hB23, hS27.sel [4, 1, 0] rfl⟩
  · replace hF := ifN h20 hF
    refine W.skip ?_
    refine fun a ha => hK12 _ _ ?_ a ha
    refine W.seq fun K28 hK28 => ?_
    refine W.region ?_
    refine wl_load_blk (i := 1) (vs := [v0_0, v0_1, (.int .i64 x0.2.2.1), (.int .i64 x0.2.2.2)]) (v := (.agg #[v0_0, v0_1, (.int .i64 x0.2.2.1), (.int .i64 x0.2.2.2)])) tf_31 rfl rfl hS18 rfl rfl rfl ?_
    refine wl_store_blk (i := 0) (vs := [v0_0, v0_1, (.int .i64 x0.2.2.1), (.int .i64 x0.2.2.2)]) (cs' := [v0_0, v0_1, (.int .i64 x0.2.2.1), (.int .i64 x0.2.2.2)]) tf_31 rfl rfl rfl rfl hB17 hS18 rfl rfl ⟨(hS18.own_ro (i := 3) rfl).one, (hS18.own_ro (i := 4) rfl).one, rfl, rfl, trivial⟩ rfl ?_
    intro w29 hk32 hB30 hS31
    refine wl_assign rfl rfl ?_
    refine WL.nil ?_
    refine fun a ha => hK28 _ _ ?_ a ha
    refine W.ret ?_
    have hr := Option.some.inj hF
    subst hr
    exact rets (vs := [(.agg #[v0_0, v0_1, (.int .i64 x0.2.2.1), (.int .i64 x0.2.2.2)]), (.bool true)]) hQ rfl ⟨rv_cell (i := 0) tf_31 rfl hS31 rfl rfl rfl, rv_tmp rfl, trivial⟩ ⟨v0_0, B0_0, v0_1, B0_1, rfl, hB30, hS31.sel [2, 3, 4] rfl⟩
theorem C_impl_AddShowChart (w0 : World) (x0 : ((List (List (Int × Int))) × (List Int) × Int × Int)) (v0_0 : Value) (h0_0 : rdS ty_69 (· < w0.heap.size) w0 v0_0 x0.1) (v0_1 : Value) (h0_1 : rdS ty_3 (· < w0.heap.size) w0 v0_1 x0.2.1) (x1 : (List (Int × Int))) (v1_0 : Value) (h1_0 : rdS ty_116 (· < w0.heap.size) w0 v1_0 x1) (x2 : Int) (r : (((List (List (Int × Int))) × (List Int) × Int × Int) × Bool)) (hF : F_impl_AddShowChart x0 x1 x2 = some r) :
    Calls Try.prog 47 [(.agg #[v0_0, v0_1, (.int .i64 x0.2.2.1), (.int .i64 x0.2.2.2)]), v1_0, (.int .i64 x2)].toArray w0 fun e w' => ∃ (q0 : Value) (G0 : List Nat) (q1 : Value) (G1 : List Nat), e = .returned (.tuple #[(.agg #[q0, q1, (.int .i64 r.1.2.2.1), (.int .i64 r.1.2.2.2)]), (.bool r.2)]) ∧ Below w0.heap.size w0 w' ∧ Sep w0.heap.size w' [R.own ty_69 G0 q0 r.1.1, R.own ty_3 G1 q1 r.1.2.1] := by
  refine calls_mk' Try.func47 rfl Try.ntmps47 rfl rfl fun Q hQ hP => ?_
  have hB : Below w0.heap.size w0 w0 := Below.refl _ _
  have hS : Sep w0.heap.size w0 [] := Sep.nil _ _
  unfold F_impl_AddShowChart at hF
  refine W.seq fun K1 hK1 => ?_
  refine W.region ?_
  refine wl_box (cs := [v0_0, v0_1, (.int .i64 x0.2.2.1), (.int .i64 x0.2.2.2)]) rfl rfl rfl hB hS ?_
  intro b2 w3 hb4 hB5 hS6
  refine wl_alloc (cs := [(.slice none 0 0), (.slice none 0 0), (.int .i64 0), (.int .i64 0)]) tf_31 rfl rfl hB5 hS6 ?_
  intro b7 w8 hb9 hB10 hS11
  refine wl_assign rfl rfl ?_
  refine WL.nil ?_
  refine fun a ha => hK1 _ _ ?_ a ha
  refine W.seq fun K12 hK12 => ?_
  refine W.seq fun K13 hK13 => ?_
  refine W.region ?_
  refine wl_load_blk (i := 1) (vs := [v0_0, v0_1, (.int .i64 x0.2.2.1), (.int .i64 x0.2.2.2)]) (v := (.agg #[v0_0, v0_1, (.int .i64 x0.2.2.1), (.int .i64 x0.2.2.2)])) tf_31 rfl rfl hS11 rfl rfl rfl ?_
  obtain ⟨u14, hu14, hF⟩ := bindE hF
  refine wl_call rfl Try.call73 (C_impl_IsShow w8 x0 v0_0 (h0_0.ro hB10) v0_1 (h0_1.ro hB10) _ hu14) rfl ?_
  rintro _ w15 ⟨rfl, hb16⟩
  refine ⟨_, rfl, ?_⟩
  have hB17 := hB10.trans (hb16.mono hB10.size)
  have hS18 := hS11.below hb16
  refine wl_not rfl rfl ?_
  refine WL.nil ?_
  refine fun a ha => hK13 _ _ ?_ a ha
  refine W.cond rfl (fun h20 => ?_) (fun h20 => ?_)
  · replace hF := ifP h20 hF
    refine W.seq fun K21 hK21 => ?_
    refine W.region ?_
    refine wl_build (zs := [(.slice none 0 0), (.slice none 0 0), (.int .i64 0), (.int .i64 0)]) (out := [(.slice none 0 0), (.slice none 0 0), (.int .i64 0), (.int .i64 0)]) (vs := []) (css := []) tf_31 pl_31 rfl rfl rfl rfl rfl ?_
    refine wl_store_blk (i := 0) (vs := [(.slice none 0 0), (.slice none 0 0), (.int .i64 0), (.int .i64 0)]) (cs' := [(.slice none 0 0), (.slice none 0 0), (.int .i64 0), (.int .i64 0)]) tf_31 rfl rfl rfl rfl hB17 hS18 rfl rfl ⟨rfl, rfl, rfl, rfl, trivial⟩ rfl ?_
    intro w22 hk25 hB23 hS24
    refine wl_assign rfl rfl ?_
    refine WL.nil ?_
    refine fun a ha => hK21 _ _ ?_ a ha
    refine W.ret ?_
    have hS26 := hS24.push0 (r := R.own ty_69 [] (.slice none 0 0) []) rfl fun _ => .inl ⟨rfl, rfl, rfl⟩
    have hS27 := hS26.push0 (r := R.own ty_3 [] (.slice none 0 0) []) rfl fun _ => .inl ⟨rfl, rfl, rfl⟩
    have hr := Option.some.inj hF
    subst hr
    exact rets (vs := [(.agg #[(.slice none 0 0), (.slice none 0 0), (.int .i64 0), (.int .i64 0)]), (.bool false)]) hQ rfl ⟨rv_cell (i := 0) tf_31 rfl hS24 rfl rfl rfl, rv_tmp rfl, trivial⟩ ⟨(.slice none 0 0), [], (.slice none 0 0), [], rfl, hB23, hS27.sel [1, 0] rfl⟩
  · replace hF := ifN h20 hF
    refine W.skip ?_
    refine fun a ha => hK12 _ _ ?_ a ha
    refine W.seq fun K28 hK28 => ?_
    refine W.region ?_
    refine wl_load_blk (i := 1) (vs := [v0_0, v0_1, (.int .i64 x0.2.2.1), (.int .i64 x0.2.2.2)]) (v := (.agg #[v0_0, v0_1, (.int .i64 x0.2.2.1), (.int .i64 x0.2.2.2)])) tf_31 rfl rfl hS18 rfl rfl rfl ?_
    obtain ⟨u29, hu29, hF⟩ := bindE hF
    refine wl_call rfl Try.call96 (C_impl_copyShow w15 x0 v0_0 (h0_0.ro hB17) v0_1 (h0_1.ro hB17) _ hu29) rfl ?_
    rintro _ w34 ⟨v30, F31, v32, F33, rfl, hb35, hM38⟩
    refine ⟨_, rfl, ?_⟩
    have hB36 := hB17.trans (hb35.mono hB17.size)
    have hS37 := hS18.join hb35 hM38 hB17.size
    refine wl_alloc (cs := [(.slice none 0 0), (.slice none 0 0), (.int .i64 0), (.int .i64 0)]) tf_31 rfl rfl hB36 hS37 ?_
    intro b39 w40 hb41 hB42 hS43
    refine wl_store_blk (i := 0) (vs := [v30, v32, (.int .i64 u29.2.2.1), (.int .i64 u29.2.2.2)]) (cs' := [v30, v32, (.int .i64 u29.2.2.1), (.int .i64 u29.2.2.2)]) tf_31 rfl rfl rfl rfl hB42 hS43 rfl rfl ⟨(hS43.own_ro (i := 1) rfl).one, (hS43.own_ro (i := 2) rfl).one, rfl, rfl, trivial⟩ rfl ?_
    intro w44 hk47 hB45 hS46
    refine WL.nil ?_
    refine fun a ha => hK28 _ _ ?_ a ha
    refine W.seq fun K48 hK48 => ?_
    obtain ⟨k55, hk55, hF⟩ := jE1 hF
    have hJ56 : ∀ (l52 : (List (List (Int × Int)))) (v53 : Value) (F54 : List Nat) (w49 : World) (_ : k55 l52 = some r) (_ : Below w0.heap.size w0 w49) (_ : Sep w0.heap.size w49 [R.blk b7 31 [(.slice none 0 0), (.slice none 0 0), (.int .i64 0), (.int .i64 0)], R.own ty_69 F54 v53 l52, R.own ty_3 F33 v32 u29.2.1, R.blk b39 31 [v53, v32, (.int .i64 u29.2.2.1), (.int .i64 u29.2.2.2)]]), ∀ a, St 33 [(2, (.int .i64 x2)), (6, (.pointer (some ⟨b7, 0, none⟩))), (8, (.pointer (some ⟨b39, 0, none⟩)))] a → K48 a w49 := by
      intro l52 v53 F54 w49 hF hB50 hS51
      subst hk55
      refine fun a ha => hK48 _ _ ?_ a ha
      refine W.seq fun K57 hK57 => ?_
      refine W.region ?_
      refine wl_field (o := 1) (off' := 1) ff_31_1 rfl rfl rfl ?_
      refine wl_load_blk (i := 3) (vs := [v32]) (v := v32) tf_23 rfl rfl hS51 rfl rfl rfl ?_
      refine wl_move rfl rfl ?_
      refine wl_lit (vs := [(.int .i64 x2)]) (l := [x2]) fl_3 Try.underlying23 rfl rfl rfl rfl rfl rfl hB50 hS51 ?_
      intro v58 F59 w60 hb61 hB62 hS63
      obtain ⟨u64, hu64, hF⟩ := bindE hF
      refine wl_append (i := 3) (S := (· < w60.heap.size)) fl_3 Try.underlying23 rfl rfl rfl hB62 hS63 rfl (hS63.own_ro (i := 0) rfl) hu64 ?_
      intro v65 F66 w67 hk68 hB69 hS70
      refine wl_field (o := 1) (off' := 1) ff_31_1 rfl rfl rfl ?_
      refine wl_store_blk (i := 4) (vs := [v65]) (cs' := [v53, v65, (.int .i64 u29.2.2.1), (.int .i64 u29.2.2.2)]) tf_23 rfl rfl (cells_one (hS70.own_ro (i := 3) rfl).one) rfl hB69 hS70 rfl rfl ⟨(hS70.own_ro (i := 3) rfl).one, trivial⟩ rfl ?_
      intro w71 hk74 hB72 hS73
      refine WL.nil ?_
      refine fun a ha => hK57 _ _ ?_ a ha
      refine W.seq fun K75 hK75 => ?_
      refine W.region ?_
      refine wl_load_blk (i := 4) (vs := [v53, v65, (.int .i64 u29.2.2.1), (.int .i64 u29.2.2.2)]) (v := (.agg #[v53, v65, (.int .i64 u29.2.2.1), (.int .i64 u29.2.2.2)])) tf_31 rfl rfl hS73 rfl rfl rfl ?_
      obtain ⟨u76, hu76, hF⟩ := bindE hF
      refine wl_call rfl Try.call103 (C_impl_asShow__take w71 (l52, u64, u29.2.2.1, u29.2.2.2) v53 F54 v65 F66 (hS73.sel [2, 3] rfl).base0 _ hu76) rfl ?_
      rintro _ w77 ⟨v82, F83, v84, F85, rfl, hE78, hM79⟩
      refine ⟨_, rfl, ?_⟩
      have hB80 := hS73.takeB [2, 3] rfl (M := [R.own ty_69 F54 v53 l52, R.own ty_3 F66 v65 u64]) rfl hB72 hE78 hM79
      have hS81 : Sep w0.heap.size w77 [R.own ty_69 F83 v82 u76.1.1, R.own ty_3 F85 v84 u76.1.2.1, R.own ty_3 F59 v58 [x2], R.blk b7 31 [(.slice none 0 0), (.slice none 0 0), (.int .i64 0), (.int .i64 0)], R.blk b39 31 [v53, v65, (.int .i64 u29.2.2.1), (.int .i64 u29.2.2.2)]] := hS73.take [2, 3] [0, 1, 4] rfl (M := [R.own ty_69 F54 v53 l52, R.own ty_3 F66 v65 u64]) rfl hM79 hB72.size
      refine wl_extract rfl rfl rfl ?_
      refine wl_extract rfl rfl rfl ?_
      refine wl_store_blk (i := 3) (vs := [v82, v84, (.int .i64 u76.1.2.2.1), (.int .i64 u76.1.2.2.2)]) (cs' := [v82, v84, (.int .i64 u76.1.2.2.1), (.int .i64 u76.1.2.2.2)]) tf_31 rfl rfl rfl rfl hB80 hS81 rfl rfl ⟨(hS81.own_ro (i := 0) rfl).one, (hS81.own_ro (i := 1) rfl).one, rfl, rfl, trivial⟩ rfl ?_
      intro w86 hk89 hB87 hS88
      refine wl_assign rfl rfl ?_
      refine WL.nil ?_
      refine fun a ha => hK75 _ _ ?_ a ha
      refine W.ret ?_
      have hr := Option.some.inj hF
      subst hr
      exact rets (vs := [(.agg #[v82, v84, (.int .i64 u76.1.2.2.1), (.int .i64 u76.1.2.2.2)]), (.bool u76.2)]) hQ rfl ⟨rv_cell (i := 3) tf_31 rfl hS88 rfl rfl rfl, rv_tmp rfl, trivial⟩ ⟨v82, F83, v84, F85, rfl, hB87, hS88.sel [0, 1] rfl⟩
    refine W.regionH mixed_ ([b39] ++ F31) hB45 hS46 ?_
    intro w90 hb91 hB92 hS93
    have hSW94 := KeepX.refl w90 ([b39] ++ F31)
    refine WH.takex (i := 0) rfl (by kernel_rfl) (by kernel_rfl) (by kernel_rfl) hP hSW94 ?_
    refine pr_field (o := 0) (off' := 0) ff_31_0 rfl rfl rfl ?_
    refine WH.takex (i := 3) rfl (by kernel_rfl) (by kernel_rfl) (by kernel_rfl) hP hSW94 ?_
    refine pr_move rfl rfl ?_
    refine WH.many (is := [1, 2]) (by kernel_rfl) rfl ?_
    refine List.forall_mem_cons.2 ⟨⟨_, rfl, ?_⟩, List.forall_mem_cons.2 ⟨⟨_, rfl, ?_⟩, fun _ h => by cases h⟩⟩
    ·
      refine wl_load_blk (i := 0) (vs := [v30]) (v := v30) tf_29 rfl rfl hS93 rfl rfl rfl ?_
      refine WL.nil (WH.ret hSW94 ?_)
      refine WH.one (i := 2) (by kernel_rfl) rfl ?_
      refine wl_lit (vs := []) (l := []) fl_116 Try.underlying69 rfl rfl rfl rfl rfl rfl (Below.self w90) (Sep.nil _ _) ?_
      intro v95 F96 w97 hb98 hB101 hM102
      have hB99 := hB92.trans (hb98.mono hB92.size)
      have hS100 := hS93.join hb98 hM102 hB92.size
      have hn103 : ∀ b ∈ F96, w90.heap.size ≤ b := fun b hb => Nat.le_trans hSW94.size ((hM102.1 _ (List.mem_cons_self ..)).2.1 b hb).1
      have hSW104 := hSW94.ext hb98
      have hbS105 : Below w90.heap.size w90 w97 := hb98
      refine WL.nil (WH.ret hSW104 ?_)
      refine WH.one (i := 4) (by kernel_rfl) rfl ?_
      obtain ⟨u106, hu106, hF⟩ := bindE hF
      refine wl_append (i := 0) (S := (· < w97.heap.size)) fl_116 Try.underlying69 rfl rfl rfl hB99 hS100 rfl (h1_0.ro hB99) hu106 ?_
      intro v107 F108 w109 hk110 hB111 hS112
      have hSW113 := hSW104.wr' hk110.1 hk110.2.1 (fun b hlt hb => absurd hlt (Nat.not_lt.2 (hn103 b hb)))
      have hn114 : ∀ b ∈ F108, w90.heap.size ≤ b := fun b hb => (hk110.2.2 b hb).elim (hn103 b) fun h => Nat.le_trans hSW104.size h
      refine WL.nil (WH.ret hSW113 ?_)
      refine WH.one (i := 5) (by kernel_rfl) rfl ?_
      have hq115 := hS112.sel [0, 1, 2, 3, 4, 5] rfl
      have hq116 := hq115.head (r' := R.cel ty_69 F108 [v107] u106) (rfl) fun _ h0 => ⟨_, rfl, h0⟩
      refine wl_lit1 (e := ty_69) (vs := [v107]) Try.underlying29 rfl rfl (cells_one (hS112.own_ro (i := 0) rfl).one) rfl hB111 hq116 ?_
      intro v117 F118 w119 hb120 hf121 hB122 hS123
      have hn124 : ∀ b ∈ F118, w90.heap.size ≤ b := fun b hb => (hf121 b hb).elim (hn114 b) fun h => Nat.le_trans hSW113.size h
      have hSW125 := hSW113.ext hb120
      refine WL.nil (WH.ret hSW125 ?_)
      refine WH.one (i := 6) (by kernel_rfl) rfl ?_
      obtain ⟨u126, hu126, hF⟩ := bindE hF
      refine wl_appendn (e := ty_69) Try.underlying29 rfl rfl rfl hB122 (hS123.sel [2, 0, 1, 3, 4, 5] rfl) hu126 ?_
      intro v127 F128 w129 hk130 hB131 hS132
      have hSW133 := hSW125.wr' hk130.1 hk130.2.1 (fun _ _ h => List.mem_append_right _ h)
      refine WL.nil (WH.ret hSW133 ?_)
      refine WH.takex (i := 7) rfl (by kernel_rfl) (by kernel_rfl) (by kernel_rfl) hP hSW133 ?_
      refine pr_field (o := 0) (off' := 0) ff_31_0 rfl rfl rfl ?_
      refine WH.one (i := 8) (by kernel_rfl) rfl ?_
      refine wl_store_blk (i := 1) (vs := [v127]) (cs' := [v127, v32, (.int .i64 u29.2.2.1), (.int .i64 u29.2.2.2)]) tf_29 rfl rfl (cells_one (hS132.own_ro (i := 0) rfl).one) rfl hB131 hS132 rfl rfl ⟨(hS132.own_ro (i := 0) rfl).one, trivial⟩ rfl ?_
      intro w134 hk137 hB135 hS136
      have hSW138 := hSW133.wr' hk137.1 hk137.2.1 (fun _ _ h => List.mem_append_left _ (h))
      refine WL.nil (WH.ret hSW138 ?_)
      refine WH.done (by kernel_rfl) ?_
      exact fun a ha => hJ56 (u126) (v127) (F128) _ hF hB135 (hS136.sel [3, 0, 2, 1] rfl) a (ha.sub ⟨rfl, rfl, rfl, trivial⟩)
    ·
      refine wl_lit (vs := []) (l := []) fl_116 Try.underlying69 rfl rfl rfl rfl rfl rfl (Below.self w90) (Sep.nil _ _) ?_
      intro v139 F140 w141 hb142 hB145 hM146
      have hB143 := hB92.trans (hb142.mono hB92.size)
      have hS144 := hS93.join hb142 hM146 hB92.size
      have hn147 : ∀ b ∈ F140, w90.heap.size ≤ b := fun b hb => Nat.le_trans hSW94.size ((hM146.1 _ (List.mem_cons_self ..)).2.1 b hb).1
      have hSW148 := hSW94.ext hb142
      have hbS149 : Below w90.heap.size w90 w141 := hb142
      refine WL.nil (WH.ret hSW148 ?_)
      refine WH.many (is := [1, 4]) (by kernel_rfl) rfl ?_
      refine List.forall_mem_cons.2 ⟨⟨_, rfl, ?_⟩, List.forall_mem_cons.2 ⟨⟨_, rfl, ?_⟩, fun _ h => by cases h⟩⟩
      ·
        refine wl_load_blk (i := 1) (vs := [v30]) (v := v30) tf_29 rfl rfl hS144 rfl rfl rfl ?_
        refine WL.nil (WH.ret hSW148 ?_)
        refine WH.one (i := 4) (by kernel_rfl) rfl ?_
        obtain ⟨u150, hu150, hF⟩ := bindE hF
        refine wl_append (i := 0) (S := (· < w141.heap.size)) fl_116 Try.underlying69 rfl rfl rfl hB143 hS144 rfl (h1_0.ro hB143) hu150 ?_
        intro v151 F152 w153 hk154 hB155 hS156
        have hSW157 := hSW148.wr' hk154.1 hk154.2.1 (fun b hlt hb => absurd hlt (Nat.not_lt.2 (hn147 b hb)))
        have hn158 : ∀ b ∈ F152, w90.heap.size ≤ b := fun b hb => (hk154.2.2 b hb).elim (hn147 b) fun h => Nat.le_trans hSW148.size h
        refine WL.nil (WH.ret hSW157 ?_)
        refine WH.one (i := 5) (by kernel_rfl) rfl ?_
        have hq159 := hS156.sel [0, 1, 2, 3, 4, 5] rfl
        have hq160 := hq159.head (r' := R.cel ty_69 F152 [v151] u150) (rfl) fun _ h0 => ⟨_, rfl, h0⟩
        refine wl_lit1 (e := ty_69) (vs := [v151]) Try.underlying29 rfl rfl (cells_one (hS156.own_ro (i := 0) rfl).one) rfl hB155 hq160 ?_
        intro v161 F162 w163 hb164 hf165 hB166 hS167
        have hn168 : ∀ b ∈ F162, w90.heap.size ≤ b := fun b hb => (hf165 b hb).elim (hn158 b) fun h => Nat.le_trans hSW157.size h
        have hSW169 := hSW157.ext hb164
        refine WL.nil (WH.ret hSW169 ?_)
        refine WH.one (i := 6) (by kernel_rfl) rfl ?_
        obtain ⟨u170, hu170, hF⟩ := bindE hF
        refine wl_appendn (e := ty_69) Try.underlying29 rfl rfl rfl hB166 (hS167.sel [2, 0, 1, 3, 4, 5] rfl) hu170 ?_
        intro v171 F172 w173 hk174 hB175 hS176
        have hSW177 := hSW169.wr' hk174.1 hk174.2.1 (fun _ _ h => List.mem_append_right _ h)
        refine WL.nil (WH.ret hSW177 ?_)
        refine WH.takex (i := 7) rfl (by kernel_rfl) (by kernel_rfl) (by kernel_rfl) hP hSW177 ?_
        refine pr_field (o := 0) (off' := 0) ff_31_0 rfl rfl rfl ?_
        refine WH.one (i := 8) (by kernel_rfl) rfl ?_
        refine wl_store_blk (i := 1) (vs := [v171]) (cs' := [v171, v32, (.int .i64 u29.2.2.1), (.int .i64 u29.2.2.2)]) tf_29 rfl rfl (cells_one (hS176.own_ro (i := 0) rfl).one) rfl hB175 hS176 rfl rfl ⟨(hS176.own_ro (i := 0) rfl).one, trivial⟩ rfl ?_
        intro w178 hk181 hB179 hS180
        have hSW182 := hSW177.wr' hk181.1 hk181.2.1 (fun _ _ h => List.mem_append_left _ (h))
        refine WL.nil (WH.ret hSW182 ?_)
        refine WH.done (by kernel_rfl) ?_
        exact fun a ha => hJ56 (u170) (v171) (F172) _ hF hB179 (hS180.sel [3, 0, 2, 1] rfl) a (ha.sub ⟨rfl, rfl, rfl, trivial⟩)
      ·
        obtain ⟨u183, hu183, hF⟩ := bindE hF
        refine wl_append (i := 0) (S := (· < w141.heap.size)) fl_116 Try.underlying69 rfl rfl rfl hB143 hS144 rfl (h1_0.ro hB143) hu183 ?_
        intro v184 F185 w186 hk187 hB188 hS189
        have hSW190 := hSW148.wr' hk187.1 hk187.2.1 (fun b hlt hb => absurd hlt (Nat.not_lt.2 (hn147 b hb)))
        have hn191 : ∀ b ∈ F185, w90.heap.size ≤ b := fun b hb => (hk187.2.2 b hb).elim (hn147 b) fun h => Nat.le_trans hSW148.size h
        refine WL.nil (WH.ret hSW190 ?_)
        refine WH.many (is := [1, 5]) (by kernel_rfl) rfl ?_
        refine List.forall_mem_cons.2 ⟨⟨_, rfl, ?_⟩, List.forall_mem_cons.2 ⟨⟨_, rfl, ?_⟩, fun _ h => by cases h⟩⟩
        ·
          refine wl_load_blk (i := 1) (vs := [v30]) (v := v30) tf_29 rfl rfl hS189 rfl rfl rfl ?_
          refine WL.nil (WH.ret hSW190 ?_)
          refine WH.one (i := 5) (by kernel_rfl) rfl ?_
          have hq192 := hS189.sel [0, 1, 2, 3, 4, 5] rfl
          have hq193 := hq192.head (r' := R.cel ty_69 F185 [v184] u183) (rfl) fun _ h0 => ⟨_, rfl, h0⟩
          refine wl_lit1 (e := ty_69) (vs := [v184]) Try.underlying29 rfl rfl (cells_one (hS189.own_ro (i := 0) rfl).one) rfl hB188 hq193 ?_
          intro v194 F195 w196 hb197 hf198 hB199 hS200
          have hn201 : ∀ b ∈ F195, w90.heap.size ≤ b := fun b hb => (hf198 b hb).elim (hn191 b) fun h => Nat.le_trans hSW190.size h
          have hSW202 := hSW190.ext hb197
          refine WL.nil (WH.ret hSW202 ?_)
          refine WH.one (i := 6) (by kernel_rfl) rfl ?_
          obtain ⟨u203, hu203, hF⟩ := bindE hF
          refine wl_appendn (e := ty_69) Try.underlying29 rfl rfl rfl hB199 (hS200.sel [2, 0, 1, 3, 4, 5] rfl) hu203 ?_
          intro v204 F205 w206 hk207 hB208 hS209
          have hSW210 := hSW202.wr' hk207.1 hk207.2.1 (fun _ _ h => List.mem_append_right _ h)
          refine WL.nil (WH.ret hSW210 ?_)
          refine WH.takex (i := 7) rfl (by kernel_rfl) (by kernel_rfl) (by kernel_rfl) hP hSW210 ?_
          refine pr_field (o := 0) (off' := 0) ff_31_0 rfl rfl rfl ?_
          refine WH.one (i := 8) (by kernel_rfl) rfl ?_
          refine wl_store_blk (i := 1) (vs := [v204]) (cs' := [v204, v32, (.int .i64 u29.2.2.1), (.int .i64 u29.2.2.2)]) tf_29 rfl rfl (cells_one (hS209.own_ro (i := 0) rfl).one) rfl hB208 hS209 rfl rfl ⟨(hS209.own_ro (i := 0) rfl).one, trivial⟩ rfl ?_
          intro w211 hk214 hB212 hS213
          have hSW215 := hSW210.wr' hk214.1 hk214.2.1 (fun _ _ h => List.mem_append_left _ (h))
          refine WL.nil (WH.ret hSW215 ?_)
          refine WH.done (by kernel_rfl) ?_
          exact fun a ha => hJ56 (u203) (v204) (F205) _ hF hB212 (hS213.sel [3, 0, 2, 1] rfl) a (ha.sub ⟨rfl, rfl, rfl, trivial⟩)
        ·
          have hq216 := hS189.sel [0, 1, 2, 3, 4, 5] rfl
          have hq217 := hq216.head (r' := R.cel ty_69 F185 [v184] u183) (rfl) fun _ h0 => ⟨_, rfl, h0⟩
          refine wl_lit1 (e := ty_69) (vs := [v184]) Try.underlying29 rfl rfl (cells_one (hS189.own_ro (i := 0) rfl).one) rfl hB188 hq217 ?_
          intro v218 F219 w220 hb221 hf222 hB223 hS224
          have hn225 : ∀ b ∈ F219, w90.heap.size ≤ b := fun b hb => (hf222 b hb).elim (hn191 b) fun h => Nat.le_trans hSW190.size h
          have hSW226 := hSW190.ext hb221
          refine WL.nil (WH.ret hSW226 ?_)
          refine WH.one (i := 1) (by kernel_rfl) rfl ?_
          refine wl_load_blk (i := 1) (vs := [v30]) (v := v30) tf_29 rfl rfl hS224 rfl rfl rfl ?_
          refine WL.nil (WH.ret hSW226 ?_)
          refine WH.one (i := 6) (by kernel_rfl) rfl ?_
          obtain ⟨u227, hu227, hF⟩ := bindE hF
          refine wl_appendn (e := ty_69) Try.underlying29 rfl rfl rfl hB223 (hS224.sel [2, 0, 1, 3, 4, 5] rfl) hu227 ?_
          intro v228 F229 w230 hk231 hB232 hS233
          have hSW234 := hSW226.wr' hk231.1 hk231.2.1 (fun _ _ h => List.mem_append_right _ h)
          refine WL.nil (WH.ret hSW234 ?_)
          refine WH.takex (i := 7) rfl (by kernel_rfl) (by kernel_rfl) (by kernel_rfl) hP hSW234 ?_
          refine pr_field (o := 0) (off' := 0) ff_31_0 rfl rfl rfl ?_
          refine WH.one (i := 8) (by kernel_rfl) rfl ?_
          refine wl_store_blk (i := 1) (vs := [v228]) (cs' := [v228, v32, (.int .i64 u29.2.2.1), (.int .i64 u29.2.2.2)]) tf_29 rfl rfl (cells_one (hS233.own_ro (i := 0) rfl).one) rfl hB232 hS233 rfl rfl ⟨(hS233.own_ro (i := 0) rfl).one, trivial⟩ rfl ?_
          intro w235 hk238 hB236 hS237
          have hSW239 := hSW234.wr' hk238.1 hk238.2.1 (fun _ _ h => List.mem_append_left _ (h))
          refine WL.nil (WH.ret hSW239 ?_)
          refine WH.done (by kernel_rfl) ?_
          exact fun a ha => hJ56 (u227) (v228) (F229) _ hF hB236 (hS237.sel [3, 0, 2, 1] rfl) a (ha.sub ⟨rfl, rfl, rfl, trivial⟩)
theorem C_laws_FnExactAddShowChart (w0 : World) (x0 : ((List (List (Int × Int))) × (List Int) × Int × Int)) (v0_0 : Value) (h0_0 : rdS ty_66 (· < w0.heap.size) w0 v0_0 x0.1) (v0_1 : Value) (h0_1 : rdS ty_3 (· < w0.heap.size) w0 v0_1 x0.2.1) (x1 : (List (Int × Int))) (v1_0 : Value) (h1_0 : rdS ty_118 (· < w0.heap.size) w0 v1_0 x1) (x2 : Int) (r : Bool) (hF : F_laws_FnExactAddShowChart x0 x1 x2 = some r) :
    Calls Try.prog 8 [(.agg #[v0_0, v0_1, (.int .i64 x0.2.2.1), (.int .i64 x0.2.2.2)]), v1_0, (.int .i64 x2)].toArray w0 fun e w' => e = .returned (.bool r) ∧ Below w0.heap.size w0 w' := by
  refine calls_mk' Try.func8 rfl Try.ntmps8 rfl rfl fun Q hQ hP => ?_
  have hB : Below w0.heap.size w0 w0 := Below.refl _ _
  have hS : Sep w0.heap.size w0 [] := Sep.nil _ _
  unfold F_laws_FnExactAddShowChart at hF
  refine W.seq fun K1 hK1 => ?_
  refine W.region ?_
  refine wl_box (cs := [v0_0, v0_1, (.int .i64 x0.2.2.1), (.int .i64 x0.2.2.2)]) rfl rfl rfl hB hS ?_
  intro b2 w3 hb4 hB5 hS6
  refine wl_assign rfl rfl ?_
  refine WL.nil ?_
  refine fun a ha => hK1 _ _ ?_ a ha
  refine W.seq fun K7 hK7 => ?_
  refine W.region ?_
  refine wl_assign rfl rfl ?_
  refine WL.nil ?_
  refine fun a ha => hK7 _ _ ?_ a ha
  refine W.seq fun K8 hK8 => ?_
  refine W.region ?_
  refine wl_load_blk (i := 0) (vs := [v0_0, v0_1, (.int .i64 x0.2.2.1), (.int .i64 x0.2.2.2)]) (v := (.agg #[v0_0, v0_1, (.int .i64 x0.2.2.1), (.int .i64 x0.2.2.2)])) tf_25 rfl rfl hS6 rfl rfl rfl ?_
  refine wl_move rfl rfl ?_
  obtain ⟨u9, hu9, hF⟩ := bindE hF
  refine wl_call rfl Try.call15 (C_laws_szShow w3 x0 v0_0 (h0_0.ro hB5) v0_1 (h0_1.ro hB5) 1048576 _ hu9) rfl ?_
  rintro _ w10 ⟨rfl, hb11⟩
  refine ⟨_, rfl, ?_⟩
  have hB12 := hB5.trans (hb11.mono hB5.size)
  have hS13 := hS6.below hb11
  refine wl_assign rfl rfl ?_
  refine WL.nil ?_
  refine fun a ha => hK8 _ _ ?_ a ha
  refine W.seq fun K15 hK15 => ?_
  refine W.seq fun K16 hK16 => ?_
  refine W.region ?_
  refine wl_move rfl rfl ?_
  refine wl_lss rfl rfl rfl ?_
  refine WL.nil ?_
  refine fun a ha => hK16 _ _ ?_ a ha
  refine W.cond rfl (fun h17 => ?_) (fun h17 => ?_)
  · replace hF := ifP h17 hF
    refine W.seq fun K18 hK18 => ?_
    refine W.region ?_
    refine wl_assign rfl rfl ?_
    refine WL.nil ?_
    refine fun a ha => hK18 _ _ ?_ a ha
    refine W.ret ?_
    have hr := Option.some.inj hF
    subst hr
    exact rets (vs := [(.bool true)]) hQ rfl ⟨rv_tmp rfl, trivial⟩ ⟨rfl, hB12⟩
  · replace hF := ifN h17 hF
    refine W.skip ?_
    refine fun a ha => hK15 _ _ ?_ a ha
    refine W.seq fun K19 hK19 => ?_
    refine W.region ?_
    refine wl_move rfl rfl ?_
    refine wl_move rfl rfl ?_
    obtain ⟨u20, hu20, hF⟩ := bindE hF
    refine wl_call rfl Try.call44 (C_laws_szSpotS w10 x1 v1_0 (h1_0.ro hB12) u9 _ hu20) rfl ?_
    rintro _ w21 ⟨rfl, hb22⟩
    refine ⟨_, rfl, ?_⟩
    have hB23 := hB12.trans (hb22.mono hB12.size)
    have hS24 := hS13.below hb22
    refine wl_assign rfl rfl ?_
    refine WL.nil ?_
    refine fun a ha => hK19 _ _ ?_ a ha
    refine W.seq fun K26 hK26 => ?_
    refine W.seq fun K27 hK27 => ?_
    refine W.region ?_
    refine wl_move rfl rfl ?_
    refine wl_lss rfl rfl rfl ?_
    refine WL.nil ?_
    refine fun a ha => hK27 _ _ ?_ a ha
    refine W.cond rfl (fun h28 => ?_) (fun h28 => ?_)
    · replace hF := ifP h28 hF
      refine W.seq fun K29 hK29 => ?_
      refine W.region ?_
      refine wl_assign rfl rfl ?_
      refine WL.nil ?_
      refine fun a ha => hK29 _ _ ?_ a ha
      refine W.ret ?_
      have hr := Option.some.inj hF
      subst hr
      exact rets (vs := [(.bool true)]) hQ rfl ⟨rv_tmp rfl, trivial⟩ ⟨rfl, hB23⟩
    · replace hF := ifN h28 hF
      refine W.skip ?_
      refine fun a ha => hK26 _ _ ?_ a ha
      refine W.seq fun K30 hK30 => ?_
      refine W.region ?_
      refine wl_load_blk (i := 0) (vs := [v0_0, v0_1, (.int .i64 x0.2.2.1), (.int .i64 x0.2.2.2)]) (v := (.agg #[v0_0, v0_1, (.int .i64 x0.2.2.1), (.int .i64 x0.2.2.2)])) tf_25 rfl rfl hS24 rfl rfl rfl ?_
      obtain ⟨u31, hu31, hF⟩ := bindE hF
      refine wl_call rfl Try.call17 (C_laws_toShow w21 x0 v0_0 (h0_0.ro hB23) v0_1 (h0_1.ro hB23) _ hu31) rfl ?_
      rintro _ w36 ⟨v32, F33, v34, F35, rfl, hb37, hM40⟩
      refine ⟨_, rfl, ?_⟩
      have hB38 := hB23.trans (hb37.mono hB23.size)
      have hS39 := hS24.join hb37 hM40 hB23.size
      refine wl_move rfl rfl ?_
      obtain ⟨u41, hu41, hF⟩ := bindE hF
      refine wl_call rfl Try.call46 (C_laws_toSpotS w36 x1 v1_0 (h1_0.ro hB38) _ hu41) rfl ?_
      rintro _ w44 ⟨v42, F43, rfl, hb45, hM48⟩
      refine ⟨_, rfl, ?_⟩
      have hB46 := hB38.trans (hb45.mono hB38.size)
      have hS47 := hS39.join hb45 hM48 hB38.size
      refine wl_move rfl rfl ?_
      obtain ⟨u49, hu49, hF⟩ := bindE hF
      refine wl_call rfl Try.call45 (C_spec_AddShowChart w44 u31 v32 (hS47.own_ro (i := 1) rfl) v34 (hS47.own_ro (i := 2) rfl) u41 v42 (hS47.own_ro (i := 0) rfl) x2 _ hu49) rfl ?_
      rintro _ w54 ⟨v50, F51, v52, F53, rfl, hb55, hM58⟩
      refine ⟨_, rfl, ?_⟩
      have hB56 := hB46.trans (hb55.mono hB46.size)
      have hS57 := hS47.join hb55 hM58 hB46.size
      refine wl_move rfl rfl ?_
      refine wl_extract rfl rfl rfl ?_
      refine wl_extract rfl rfl rfl ?_
      refine wl_alloc (cs := [(.slice none 0 0), (.slice none 0 0), (.int .i64 0), (.int .i64 0)]) tf_31 rfl rfl hB56 hS57 ?_
      intro b59 w60 hb61 hB62 hS63
      refine wl_store_blk (i := 0) (vs := [v50, v52, (.int .i64 u49.1.2.2.1), (.int .i64 u49.1.2.2.2)]) (cs' := [v50, v52, (.int .i64 u49.1.2.2.1), (.int .i64 u49.1.2.2.2)]) tf_31 rfl rfl rfl rfl hB62 hS63 rfl rfl ⟨(hS63.own_ro (i := 1) rfl).one, (hS63.own_ro (i := 2) rfl).one, rfl, rfl, trivial⟩ rfl ?_
      intro w65 hk68 hB66 hS67
      refine wl_assign rfl rfl ?_
      refine WL.nil ?_
      refine fun a ha => hK30 _ _ ?_ a ha
      refine W.seq fun K69 hK69 => ?_
      refine W.region ?_
      refine wl_load_blk (i := 6) (vs := [v0_0, v0_1, (.int .i64 x0.2.2.1), (.int .i64 x0.2.2.2)]) (v := (.agg #[v0_0, v0_1, (.int .i64 x0.2.2.1), (.int .i64 x0.2.2.2)])) tf_25 rfl rfl hS67 rfl rfl rfl ?_
      obtain ⟨u70, hu70, hF⟩ := bindE hF
      refine wl_call rfl Try.call17 (C_laws_toShow w65 x0 v0_0 (h0_0.ro hB66) v0_1 (h0_1.ro hB66) _ hu70) rfl ?_
      rintro _ w75 ⟨v71, F72, v73, F74, rfl, hb76, hM79⟩
      refine ⟨_, rfl, ?_⟩
      have hB77 := hB66.trans (hb76.mono hB66.size)
      have hS78 := hS67.join hb76 hM79 hB66.size
      refine wl_alloc (cs := [(.slice none 0 0), (.slice none 0 0), (.int .i64 0), (.int .i64 0)]) tf_31 rfl rfl hB77 hS78 ?_
      intro b80 w81 hb82 hB83 hS84
      refine wl_store_blk (i := 0) (vs := [v71, v73, (.int .i64 u70.2.2.1), (.int .i64 u70.2.2.2)]) (cs' := [v71, v73, (.int .i64 u70.2.2.1), (.int .i64 u70.2.2.2)]) tf_31 rfl rfl rfl rfl hB83 hS84 rfl rfl ⟨(hS84.own_ro (i := 1) rfl).one, (hS84.own_ro (i := 2) rfl).one, rfl, rfl, trivial⟩ rfl ?_
      intro w85 hk88 hB86 hS87
      refine WL.nil ?_
      refine fun a ha => hK69 _ _ ?_ a ha
      refine W.seq fun K89 hK89 => ?_
      refine W.region ?_
      refine wl_move rfl rfl ?_
      obtain ⟨u90, hu90, hF⟩ := bindE hF
      refine wl_call rfl Try.call46 (C_laws_toSpotS w85 x1 v1_0 (h1_0.ro hB86) _ hu90) rfl ?_
      rintro _ w93 ⟨v91, F92, rfl, hb94, hM97⟩
      refine ⟨_, rfl, ?_⟩
      have hB95 := hB86.trans (hb94.mono hB86.size)
      have hS96 := hS87.join hb94 hM97 hB86.size
      refine wl_assign rfl rfl ?_
      refine WL.nil ?_
      refine fun a ha => hK89 _ _ ?_ a ha
      refine W.seq fun K98 hK98 => ?_
      refine W.region ?_
      refine wl_load_blk (i := 1) (vs := [v71, v73, (.int .i64 u70.2.2.1), (.int .i64 u70.2.2.2)]) (v := (.agg #[v71, v73, (.int .i64 u70.2.2.1), (.int .i64 u70.2.2.2)])) tf_31 rfl rfl hS96 rfl rfl rfl ?_
      refine wl_move rfl rfl ?_
      refine wl_move rfl rfl ?_
      obtain ⟨u99, hu99, hF⟩ := bindE hF
      refine wl_call rfl Try.call47 (C_impl_AddShowChart w93 u70 v71 (hS96.own_ro (i := 2) rfl) v73 (hS96.own_ro (i := 3) rfl) u90 v91 (hS96.own_ro (i := 0) rfl) x2 _ hu99) rfl ?_
      rintro _ w104 ⟨v100, F101, v102, F103, rfl, hb105, hM108⟩
      refine ⟨_, rfl, ?_⟩
      have hB106 := hB95.trans (hb105.mono hB95.size)
      have hS107 := hS96.join hb105 hM108 hB95.size
      refine wl_move rfl rfl ?_
      refine wl_extract rfl rfl rfl ?_
      refine wl_extract rfl rfl rfl ?_
      refine wl_alloc (cs := [(.slice none 0 0), (.slice none 0 0), (.int .i64 0), (.int .i64 0)]) tf_31 rfl rfl hB106 hS107 ?_
      intro b109 w110 hb111 hB112 hS113
      refine wl_store_blk (i := 0) (vs := [v100, v102, (.int .i64 u99.1.2.2.1), (.int .i64 u99.1.2.2.2)]) (cs' := [v100, v102, (.int .i64 u99.1.2.2.1), (.int .i64 u99.1.2.2.2)]) tf_31 rfl rfl rfl rfl hB112 hS113 rfl rfl ⟨(hS113.own_ro (i := 1) rfl).one, (hS113.own_ro (i := 2) rfl).one, rfl, rfl, trivial⟩ rfl ?_
      intro w114 hk117 hB115 hS116
      refine wl_assign rfl rfl ?_
      refine WL.nil ?_
      refine fun a ha => hK98 _ _ ?_ a ha
      refine W.seq fun K118 hK118 => ?_
      refine W.seq fun K119 hK119 => ?_
      obtain ⟨k124, hk124, hF⟩ := jE1 hF
      have hJ125 : ∀ (y123 : Bool) (w120 : World) (_ : k124 y123 = some r) (_ : Below w0.heap.size w0 w120) (_ : Sep w0.heap.size w120 [R.blk b2 25 [v0_0, v0_1, (.int .i64 x0.2.2.1), (.int .i64 x0.2.2.2)], R.own ty_69 F51 v50 u49.1.1, R.own ty_3 F53 v52 u49.1.2.1, R.blk b59 31 [v50, v52, (.int .i64 u49.1.2.2.1), (.int .i64 u49.1.2.2.2)], R.own ty_69 F72 v71 u70.1, R.own ty_3 F74 v73 u70.2.1, R.blk b80 31 [v71, v73, (.int .i64 u70.2.2.1), (.int .i64 u70.2.2.2)], R.own ty_116 F92 v91 u90, R.own ty_69 F101 v100 u99.1.1, R.own ty_3 F103 v102 u99.1.2.1, R.blk b109 31 [v100, v102, (.int .i64 u99.1.2.2.1), (.int .i64 u99.1.2.2.2)]]), ∀ a, St 124 [(1, v1_0), (2, (.int .i64 x2)), (3, (.pointer (some ⟨b2, 0, none⟩))), (8, (.pointer (some ⟨b59, 0, none⟩))), (9, (.bool u49.2)), (10, (.pointer (some ⟨b80, 0, none⟩))), (11, v91), (12, (.pointer (some ⟨b109, 0, none⟩))), (13, (.bool u99.2)), (57, (.bool y123))] a → K119 a w120 := by
        intro y123 w120 hF hB121 hS122
        subst hk124
        refine fun a ha => hK119 _ _ ?_ a ha
        refine W.cond rfl (fun h126 => ?_) (fun h126 => ?_)
        · replace hF := ifP h126 hF
          refine W.seq fun K127 hK127 => ?_
          refine W.region ?_
          refine wl_assign rfl rfl ?_
          refine WL.nil ?_
          refine fun a ha => hK127 _ _ ?_ a ha
          refine W.ret ?_
          have hr := Option.some.inj hF
          subst hr
          exact rets (vs := [(.bool false)]) hQ rfl ⟨rv_tmp rfl, trivial⟩ ⟨rfl, hB121⟩
        · replace hF := ifN h126 hF
          refine W.skip ?_
          refine fun a ha => hK118 _ _ ?_ a ha
          refine W.seq fun K128 hK128 => ?_
          refine W.seq fun K129 hK129 => ?_
          refine W.regionH mixed_ [] hB121 hS122 ?_
          intro w130 hb131 hB132 hS133
          have hSW134 := KeepX.refl w130 []
          refine WH.takex (i := 0) rfl (by kernel_rfl) (by kernel_rfl) (by kernel_rfl) hP hSW134 ?_
          refine pr_load_blk (i := 6) (vs := [v71, v73, (.int .i64 u70.2.2.1), (.int .i64 u70.2.2.2)]) (v := (.agg #[v71, v73, (.int .i64 u70.2.2.1), (.int .i64 u70.2.2.2)])) tf_31 rfl rfl hS133 rfl rfl rfl (by simp) ?_
          refine WH.takex (i := 1) rfl (by kernel_rfl) (by kernel_rfl) (by kernel_rfl) hP hSW134 ?_
          refine pr_load_blk (i := 0) (vs := [v0_0, v0_1, (.int .i64 x0.2.2.1), (.int .i64 x0.2.2.2)]) (v := (.agg #[v0_0, v0_1, (.int .i64 x0.2.2.1), (.int .i64 x0.2.2.2)])) tf_25 rfl rfl hS133 rfl rfl rfl (by simp) ?_
          refine WH.one (i := 2) (by kernel_rfl) rfl ?_
          obtain ⟨u135, hu135, hF⟩ := bindE hF
          refine wl_call rfl Try.call17 (C_laws_toShow w130 x0 v0_0 (h0_0.ro hB132) v0_1 (h0_1.ro hB132) _ hu135) rfl ?_
          rintro _ w140 ⟨v136, F137, v138, F139, rfl, hb141, hM144⟩
          refine ⟨_, rfl, ?_⟩
          have hB142 := hB132.trans (hb141.mono hB132.size)
          have hS143 := hS133.join hb141 hM144 hB132.size
          have hSW145 := hSW134.ext hb141
          refine WL.nil (WH.ret hSW145 ?_)
          refine WH.one (i := 3) (by kernel_rfl) rfl ?_
          obtain ⟨u146, hu146, hF⟩ := bindE hF
          refine wl_call rfl Try.call20 (C_laws_eqShow w140 u70 v71 (hS143.own_ro (i := 6) rfl) v73 (hS143.own_ro (i := 7) rfl) u135 v136 (hS143.own_ro (i := 0) rfl) v138 (hS143.own_ro (i := 1) rfl) _ hu146) rfl ?_
          rintro _ w147 ⟨rfl, hb148⟩
          refine ⟨_, rfl, ?_⟩
          have hB149 := hB142.trans (hb148.mono hB142.size)
          have hS150 := hS143.below hb148
          have hSW152 := hSW145.ext hb148
          refine WL.nil (WH.ret hSW152 ?_)
          refine WH.takex (i := 4) rfl (by kernel_rfl) (by kernel_rfl) (by kernel_rfl) hP hSW152 ?_
          refine pr_not rfl rfl ?_
          refine WH.done (by kernel_rfl) ?_
          refine fun a ha => hK129 _ _ ?_ a ha
          refine W.cond rfl (fun h153 => ?_) (fun h153 => ?_)
          · replace hF := ifP h153 hF
            refine W.seq fun K154 hK154 => ?_
            refine W.region ?_
            refine wl_assign rfl rfl ?_
            refine WL.nil ?_
            refine fun a ha => hK154 _ _ ?_ a ha
            refine W.ret ?_
            have hr := Option.some.inj hF
            subst hr
            exact rets (vs := [(.bool false)]) hQ rfl ⟨rv_tmp rfl, trivial⟩ ⟨rfl, hB149⟩
          · replace hF := ifN h153 hF
            refine W.skip ?_
            refine fun a ha => hK128 _ _ ?_ a ha
            refine W.seq fun K155 hK155 => ?_
            refine W.seq fun K156 hK156 => ?_
            refine W.region ?_
            refine wl_move rfl rfl ?_
            refine wl_move rfl rfl ?_
            obtain ⟨u157, hu157, hF⟩ := bindE hF
            refine wl_call rfl Try.call46 (C_laws_toSpotS w147 x1 v1_0 (h1_0.ro hB149) _ hu157) rfl ?_
            rintro _ w160 ⟨v158, F159, rfl, hb161, hM164⟩
            refine ⟨_, rfl, ?_⟩
            have hB162 := hB149.trans (hb161.mono hB149.size)
            have hS163 := hS150.join hb161 hM164 hB149.size
            obtain ⟨u165, hu165, hF⟩ := bindE hF
            refine wl_call rfl Try.call48 (C_laws_eqSpotS w160 u90 v91 (hS163.own_ro (i := 10) rfl) u157 v158 (hS163.own_ro (i := 0) rfl) _ hu165) rfl ?_
            rintro _ w166 ⟨rfl, hb167⟩
            refine ⟨_, rfl, ?_⟩
            have hB168 := hB162.trans (hb167.mono hB162.size)
            have hS169 := hS163.below hb167
            refine wl_not rfl rfl ?_
            refine WL.nil ?_
            refine fun a ha => hK156 _ _ ?_ a ha
            refine W.cond rfl (fun h171 => ?_) (fun h171 => ?_)
            · replace hF := ifP h171 hF
              refine W.seq fun K172 hK172 => ?_
              refine W.region ?_
              refine wl_assign rfl rfl ?_
              refine WL.nil ?_
              refine fun a ha => hK172 _ _ ?_ a ha
              refine W.ret ?_
              have hr := Option.some.inj hF
              subst hr
              exact rets (vs := [(.bool false)]) hQ rfl ⟨rv_tmp rfl, trivial⟩ ⟨rfl, hB168⟩
            · replace hF := ifN h171 hF
              refine W.skip ?_
              refine fun a ha => hK155 _ _ ?_ a ha
              refine W.seq fun K173 hK173 => ?_
              refine W.region ?_
              refine wl_assign rfl rfl ?_
              refine WL.nil ?_
              refine fun a ha => hK173 _ _ ?_ a ha
              refine W.seq fun K174 hK174 => ?_
              refine W.region ?_
              refine wl_load_blk (i := 9) (vs := [v71, v73, (.int .i64 u70.2.2.1), (.int .i64 u70.2.2.2)]) (v := (.agg #[v71, v73, (.int .i64 u70.2.2.1), (.int .i64 u70.2.2.2)])) tf_31 rfl rfl hS169 rfl rfl rfl ?_
              refine wl_move rfl rfl ?_
              obtain ⟨u175, hu175, hF⟩ := bindE hF
              refine wl_call rfl Try.call21 (C_laws_markShow w166 u70 v71 F72 v73 F74 1 (hS169.sel [7, 8] rfl).base0 _ hu175) rfl ?_
              rintro _ w176 ⟨rfl, hE177, hM178⟩
              refine ⟨_, rfl, ?_⟩
              have hB179 := hS169.mutB [7, 8] rfl (M := [R.own ty_69 F72 v71 u70.1, R.own ty_3 F74 v73 u70.2.1]) rfl (M' := [R.own ty_69 F72 v71 u175.2.1, R.own ty_3 F74 v73 u175.2.2.1]) rfl hB168 hB168.size hE177 hM178
              have hS180 : Sep w0.heap.size w176 [R.own ty_69 F72 v71 u175.2.1, R.own ty_3 F74 v73 u175.2.2.1, R.own ty_116 F159 v158 u157, R.own ty_69 F137 v136 u135.1, R.own ty_3 F139 v138 u135.2.1, R.blk b2 25 [v0_0, v0_1, (.int .i64 x0.2.2.1), (.int .i64 x0.2.2.2)], R.own ty_69 F51 v50 u49.1.1, R.own ty_3 F53 v52 u49.1.2.1, R.blk b59 31 [v50, v52, (.int .i64 u49.1.2.2.1), (.int .i64 u49.1.2.2.2)], R.blk b80 31 [v71, v73, (.int .i64 u70.2.2.1), (.int .i64 u70.2.2.2)], R.own ty_116 F92 v91 u90, R.own ty_69 F101 v100 u99.1.1, R.own ty_3 F103 v102 u99.1.2.1, R.blk b109 31 [v100, v102, (.int .i64 u99.1.2.2.1), (.int .i64 u99.1.2.2.2)]] := hS169.mut [7, 8] [0, 1, 2, 3, 4, 5, 6, 9, 10, 11, 12, 13] rfl (M := [R.own ty_69 F72 v71 u70.1, R.own ty_3 F74 v73 u70.2.1]) rfl (M' := [R.own ty_69 F72 v71 u175.2.1, R.own ty_3 F74 v73 u175.2.2.1]) rfl hM178
              refine wl_assign rfl rfl ?_
              refine WL.nil ?_
              refine fun a ha => hK174 _ _ ?_ a ha
              refine W.seq fun K181 hK181 => ?_
              refine W.region ?_
              refine wl_move rfl rfl ?_
              refine wl_move rfl rfl ?_
              obtain ⟨u182, hu182, hF⟩ := bindE hF
              refine wl_call rfl Try.call49 (C_laws_markSpotS w176 u90 v91 F92 u175.1 (hS180.sel [10] rfl).base0 _ hu182) rfl ?_
              rintro _ w183 ⟨rfl, hE184, hM185⟩
              refine ⟨_, rfl, ?_⟩
              have hB186 := hS180.mutB [10] rfl (M := [R.own ty_116 F92 v91 u90]) rfl (M' := [R.own ty_116 F92 v91 u182.2]) rfl hB179 hB179.size hE184 hM185
              have hS187 : Sep w0.heap.size w183 [R.own ty_116 F92 v91 u182.2, R.own ty_69 F72 v71 u175.2.1, R.own ty_3 F74 v73 u175.2.2.1, R.own ty_116 F159 v158 u157, R.own ty_69 F137 v136 u135.1, R.own ty_3 F139 v138 u135.2.1, R.blk b2 25 [v0_0, v0_1, (.int .i64 x0.2.2.1), (.int .i64 x0.2.2.2)], R.own ty_69 F51 v50 u49.1.1, R.own ty_3 F53 v52 u49.1.2.1, R.blk b59 31 [v50, v52, (.int .i64 u49.1.2.2.1), (.int .i64 u49.1.2.2.2)], R.blk b80 31 [v71, v73, (.int .i64 u70.2.2.1), (.int .i64 u70.2.2.2)], R.own ty_69 F101 v100 u99.1.1, R.own ty_3 F103 v102 u99.1.2.1, R.blk b109 31 [v100, v102, (.int .i64 u99.1.2.2.1), (.int .i64 u99.1.2.2.2)]] := hS180.mut [10] [0, 1, 2, 3, 4, 5, 6, 7, 8, 9, 11, 12, 13] rfl (M := [R.own ty_116 F92 v91 u90]) rfl (M' := [R.own ty_116 F92 v91 u182.2]) rfl hM185
              refine wl_assign rfl rfl ?_
              refine WL.nil ?_
              refine fun a ha => hK181 _ _ ?_ a ha
              refine W.seq fun K188 hK188 => ?_
              refine W.seq fun K189 hK189 => ?_
              obtain ⟨k194, hk194, hF⟩ := jE1 hF
              have hJ195 : ∀ (y193 : Bool) (w190 : World) (_ : k194 y193 = some r) (_ : Below w0.heap.size w0 w190) (_ : Sep w0.heap.size w190 [R.blk b2 25 [v0_0, v0_1, (.int .i64 x0.2.2.1), (.int .i64 x0.2.2.2)], R.own ty_69 F51 v50 u49.1.1, R.own ty_3 F53 v52 u49.1.2.1, R.blk b59 31 [v50, v52, (.int .i64 u49.1.2.2.1), (.int .i64 u49.1.2.2.2)], R.own ty_69 F101 v100 u99.1.1, R.own ty_3 F103 v102 u99.1.2.1, R.blk b109 31 [v100, v102, (.int .i64 u99.1.2.2.1), (.int .i64 u99.1.2.2.2)]]), ∀ a, St 124 [(1, v1_0), (2, (.int .i64 x2)), (3, (.pointer (some ⟨b2, 0, none⟩))), (8, (.pointer (some ⟨b59, 0, none⟩))), (9, (.bool u49.2)), (12, (.pointer (some ⟨b109, 0, none⟩))), (86, (.bool y193))] a → K189 a w190 := by
                intro y193 w190 hF hB191 hS192
                subst hk194
                refine fun a ha => hK189 _ _ ?_ a ha
                refine W.cond rfl (fun h196 => ?_) (fun h196 => ?_)
                · replace hF := ifP h196 hF
                  refine W.seq fun K197 hK197 => ?_
                  refine W.region ?_
                  refine wl_assign rfl rfl ?_
                  refine WL.nil ?_
                  refine fun a ha => hK197 _ _ ?_ a ha
                  refine W.ret ?_
                  have hr := Option.some.inj hF
                  subst hr
                  exact rets (vs := [(.bool false)]) hQ rfl ⟨rv_tmp rfl, trivial⟩ ⟨rfl, hB191⟩
                · replace hF := ifN h196 hF
                  refine W.skip ?_
                  refine fun a ha => hK188 _ _ ?_ a ha
                  refine W.seq fun K198 hK198 => ?_
                  refine W.region ?_
                  refine wl_assign rfl rfl ?_
                  refine WL.nil ?_
                  refine fun a ha => hK198 _ _ ?_ a ha
                  refine W.seq fun K199 hK199 => ?_
                  refine W.region ?_
                  refine wl_load_blk (i := 6) (vs := [v100, v102, (.int .i64 u99.1.2.2.1), (.int .i64 u99.1.2.2.2)]) (v := (.agg #[v100, v102, (.int .i64 u99.1.2.2.1), (.int .i64 u99.1.2.2.2)])) tf_31 rfl rfl hS192 rfl rfl rfl ?_
                  refine wl_move rfl rfl ?_
                  obtain ⟨u200, hu200, hF⟩ := bindE hF
                  refine wl_call rfl Try.call21 (C_laws_markShow w190 u99.1 v100 F101 v102 F103 1 (hS192.sel [4, 5] rfl).base0 _ hu200) rfl ?_
                  rintro _ w201 ⟨rfl, hE202, hM203⟩
                  refine ⟨_, rfl, ?_⟩
                  have hB204 := hS192.mutB [4, 5] rfl (M := [R.own ty_69 F101 v100 u99.1.1, R.own ty_3 F103 v102 u99.1.2.1]) rfl (M' := [R.own ty_69 F101 v100 u200.2.1, R.own ty_3 F103 v102 u200.2.2.1]) rfl hB191 hB191.size hE202 hM203
                  have hS205 : Sep w0.heap.size w201 [R.own ty_69 F101 v100 u200.2.1, R.own ty_3 F103 v102 u200.2.2.1, R.blk b2 25 [v0_0, v0_1, (.int .i64 x0.2.2.1), (.int .i64 x0.2.2.2)], R.own ty_69 F51 v50 u49.1.1, R.own ty_3 F53 v52 u49.1.2.1, R.blk b59 31 [v50, v52, (.int .i64 u49.1.2.2.1), (.int .i64 u49.1.2.2.2)], R.blk b109 31 [v100, v102, (.int .i64 u99.1.2.2.1), (.int .i64 u99.1.2.2.2)]] := hS192.mut [4, 5] [0, 1, 2, 3, 6] rfl (M := [R.own ty_69 F101 v100 u99.1.1, R.own ty_3 F103 v102 u99.1.2.1]) rfl (M' := [R.own ty_69 F101 v100 u200.2.1, R.own ty_3 F103 v102 u200.2.2.1]) rfl hM203
                  refine wl_assign rfl rfl ?_
                  refine WL.nil ?_
                  refine fun a ha => hK199 _ _ ?_ a ha
                  refine W.seq fun K206 hK206 => ?_
                  refine W.region ?_
                  refine wl_assign rfl rfl ?_
                  refine WL.nil ?_
                  refine fun a ha => hK206 _ _ ?_ a ha
                  refine W.seq fun K207 hK207 => ?_
                  refine W.region ?_
                  refine wl_load_blk (i := 6) (vs := [v100, v102, (.int .i64 u99.1.2.2.1), (.int .i64 u99.1.2.2.2)]) (v := (.agg #[v100, v102, (.int .i64 u99.1.2.2.1), (.int .i64 u99.1.2.2.2)])) tf_31 rfl rfl hS205 rfl rfl rfl ?_
                  refine wl_move rfl rfl ?_
                  obtain ⟨u208, hu208, hF⟩ := bindE hF
                  refine wl_call rfl Try.call43 (C_laws_heldShow w201 (u200.2.1, u200.2.2.1, u99.1.2.2.1, u99.1.2.2.2) v100 (hS205.own_ro (i := 0) rfl) v102 (hS205.own_ro (i := 1) rfl) 1 _ hu208) rfl ?_
                  rintro _ w209 ⟨rfl, hb210⟩
                  refine ⟨_, rfl, ?_⟩
                  have hB211 := hB204.trans (hb210.mono hB204.size)
                  have hS212 := hS205.below hb210
                  refine wl_assign rfl rfl ?_
                  refine WL.nil ?_
                  refine fun a ha => hK207 _ _ ?_ a ha
                  refine W.seq fun K214 hK214 => ?_
                  refine W.seq fun K215 hK215 => ?_
                  refine W.region ?_
                  refine wl_move rfl rfl ?_
                  refine wl_lss rfl rfl rfl ?_
                  refine WL.nil ?_
                  refine fun a ha => hK215 _ _ ?_ a ha
                  refine W.cond rfl (fun h216 => ?_) (fun h216 => ?_)
                  · replace hF := ifP h216 hF
                    refine W.seq fun K217 hK217 => ?_
                    refine W.region ?_
                    refine wl_assign rfl rfl ?_
                    refine WL.nil ?_
                    refine fun a ha => hK217 _ _ ?_ a ha
                    refine W.ret ?_
                    have hr := Option.some.inj hF
                    subst hr
                    exact rets (vs := [(.bool false)]) hQ rfl ⟨rv_tmp rfl, trivial⟩ ⟨rfl, hB211⟩
                  · replace hF := ifN h216 hF
                    refine W.skip ?_
                    refine fun a ha => hK214 _ _ ?_ a ha
                    refine W.seq fun K218 hK218 => ?_
                    refine W.seq fun K219 hK219 => ?_
                    refine W.region ?_
                    refine wl_move rfl rfl ?_
                    refine wl_move rfl rfl ?_
                    refine wl_neq rfl rfl rfl ?_
                    refine WL.nil ?_
                    refine fun a ha => hK219 _ _ ?_ a ha
                    refine W.cond rfl (fun h220 => ?_) (fun h220 => ?_)
                    · replace hF := ifP h220 hF
                      refine W.seq fun K221 hK221 => ?_
                      refine W.region ?_
                      refine wl_assign rfl rfl ?_
                      refine WL.nil ?_
                      refine fun a ha => hK221 _ _ ?_ a ha
                      refine W.ret ?_
                      have hr := Option.some.inj hF
                      subst hr
                      exact rets (vs := [(.bool false)]) hQ rfl ⟨rv_tmp rfl, trivial⟩ ⟨rfl, hB211⟩
                    · replace hF := ifN h220 hF
                      refine W.skip ?_
                      refine fun a ha => hK218 _ _ ?_ a ha
                      refine W.seq fun K222 hK222 => ?_
                      refine W.region ?_
                      refine wl_load_blk (i := 2) (vs := [v0_0, v0_1, (.int .i64 x0.2.2.1), (.int .i64 x0.2.2.2)]) (v := (.agg #[v0_0, v0_1, (.int .i64 x0.2.2.1), (.int .i64 x0.2.2.2)])) tf_25 rfl rfl hS212 rfl rfl rfl ?_
                      obtain ⟨u223, hu223, hF⟩ := bindE hF
                      refine wl_call rfl Try.call17 (C_laws_toShow w209 x0 v0_0 (h0_0.ro hB211) v0_1 (h0_1.ro hB211) _ hu223) rfl ?_
                      rintro _ w228 ⟨v224, F225, v226, F227, rfl, hb229, hM232⟩
                      refine ⟨_, rfl, ?_⟩
                      have hB230 := hB211.trans (hb229.mono hB211.size)
                      have hS231 := hS212.join hb229 hM232 hB211.size
                      refine wl_move rfl rfl ?_
                      obtain ⟨u233, hu233, hF⟩ := bindE hF
                      refine wl_call rfl Try.call46 (C_laws_toSpotS w228 x1 v1_0 (h1_0.ro hB230) _ hu233) rfl ?_
                      rintro _ w236 ⟨v234, F235, rfl, hb237, hM240⟩
                      refine ⟨_, rfl, ?_⟩
                      have hB238 := hB230.trans (hb237.mono hB230.size)
                      have hS239 := hS231.join hb237 hM240 hB230.size
                      refine wl_move rfl rfl ?_
                      obtain ⟨u241, hu241, hF⟩ := bindE hF
                      refine wl_call rfl Try.call47 (C_impl_AddShowChart w236 u223 v224 (hS239.own_ro (i := 1) rfl) v226 (hS239.own_ro (i := 2) rfl) u233 v234 (hS239.own_ro (i := 0) rfl) x2 _ hu241) rfl ?_
                      rintro _ w246 ⟨v242, F243, v244, F245, rfl, hb247, hM250⟩
                      refine ⟨_, rfl, ?_⟩
                      have hB248 := hB238.trans (hb247.mono hB238.size)
                      have hS249 := hS239.join hb247 hM250 hB238.size
                      refine wl_move rfl rfl ?_
                      refine wl_extract rfl rfl rfl ?_
                      refine wl_extract rfl rfl rfl ?_
                      refine wl_alloc (cs := [(.slice none 0 0), (.slice none 0 0), (.int .i64 0), (.int .i64 0)]) tf_31 rfl rfl hB248 hS249 ?_
                      intro b251 w252 hb253 hB254 hS255
                      refine wl_store_blk (i := 0) (vs := [v242, v244, (.int .i64 u241.1.2.2.1), (.int .i64 u241.1.2.2.2)]) (cs' := [v242, v244, (.int .i64 u241.1.2.2.1), (.int .i64 u241.1.2.2.2)]) tf_31 rfl rfl rfl rfl hB254 hS255 rfl rfl ⟨(hS255.own_ro (i := 1) rfl).one, (hS255.own_ro (i := 2) rfl).one, rfl, rfl, trivial⟩ rfl ?_
                      intro w256 hk259 hB257 hS258
                      refine wl_assign rfl rfl ?_
                      refine WL.nil ?_
                      refine fun a ha => hK222 _ _ ?_ a ha
                      refine W.seq fun K260 hK260 => ?_
                      refine W.seq fun K261 hK261 => ?_
                      obtain ⟨k266, hk266, hF⟩ := jE1 hF
                      have hJ267 : ∀ (y265 : Bool) (w262 : World) (_ : k266 y265 = some r) (_ : Below w0.heap.size w0 w262) (_ : Sep w0.heap.size w262 [R.own ty_69 F101 v100 u200.2.1, R.own ty_3 F103 v102 u200.2.2.1, R.blk b109 31 [v100, v102, (.int .i64 u99.1.2.2.1), (.int .i64 u99.1.2.2.2)]]), ∀ a, St 124 [(12, (.pointer (some ⟨b109, 0, none⟩))), (15, (.int .i64 u200.1)), (115, (.bool y265))] a → K261 a w262 := by
                        intro y265 w262 hF hB263 hS264
                        subst hk266
                        refine fun a ha => hK261 _ _ ?_ a ha
                        refine W.cond rfl (fun h268 => ?_) (fun h268 => ?_)
                        · replace hF := ifP h268 hF
                          refine W.seq fun K269 hK269 => ?_
                          refine W.region ?_
                          refine wl_assign rfl rfl ?_
                          refine WL.nil ?_
                          refine fun a ha => hK269 _ _ ?_ a ha
                          refine W.ret ?_
                          have hr := Option.some.inj hF
                          subst hr
                          exact rets (vs := [(.bool false)]) hQ rfl ⟨rv_tmp rfl, trivial⟩ ⟨rfl, hB263⟩
                        · replace hF := ifN h268 hF
                          refine W.skip ?_
                          refine fun a ha => hK260 _ _ ?_ a ha
                          refine W.seq fun K270 hK270 => ?_
                          refine W.region ?_
                          refine wl_assign rfl rfl ?_
                          refine WL.nil ?_
                          refine fun a ha => hK270 _ _ ?_ a ha
                          refine W.seq fun K271 hK271 => ?_
                          refine W.region ?_
                          refine wl_load_blk (i := 2) (vs := [v100, v102, (.int .i64 u99.1.2.2.1), (.int .i64 u99.1.2.2.2)]) (v := (.agg #[v100, v102, (.int .i64 u99.1.2.2.1), (.int .i64 u99.1.2.2.2)])) tf_31 rfl rfl hS264 rfl rfl rfl ?_
                          refine wl_move rfl rfl ?_
                          obtain ⟨u272, hu272, hF⟩ := bindE hF
                          refine wl_call rfl Try.call43 (C_laws_heldShow w262 (u200.2.1, u200.2.2.1, u99.1.2.2.1, u99.1.2.2.2) v100 (hS264.own_ro (i := 0) rfl) v102 (hS264.own_ro (i := 1) rfl) 1 _ hu272) rfl ?_
                          rintro _ w273 ⟨rfl, hb274⟩
                          refine ⟨_, rfl, ?_⟩
                          have hB275 := hB263.trans (hb274.mono hB263.size)
                          have hS276 := hS264.below hb274
                          refine wl_assign rfl rfl ?_
                          refine WL.nil ?_
                          refine fun a ha => hK271 _ _ ?_ a ha
                          refine W.seq fun K278 hK278 => ?_
                          refine W.seq fun K279 hK279 => ?_
                          refine W.region ?_
                          refine wl_move rfl rfl ?_
                          refine wl_lss rfl rfl rfl ?_
                          refine WL.nil ?_
                          refine fun a ha => hK279 _ _ ?_ a ha
                          refine W.cond rfl (fun h280 => ?_) (fun h280 => ?_)
                          · replace hF := ifP h280 hF
                            refine W.seq fun K281 hK281 => ?_
                            refine W.region ?_
                            refine wl_assign rfl rfl ?_
                            refine WL.nil ?_
                            refine fun a ha => hK281 _ _ ?_ a ha
                            refine W.ret ?_
                            have hr := Option.some.inj hF
                            subst hr
                            exact rets (vs := [(.bool false)]) hQ rfl ⟨rv_tmp rfl, trivial⟩ ⟨rfl, hB275⟩
                          · replace hF := ifN h280 hF
                            refine W.skip ?_
                            refine fun a ha => hK278 _ _ ?_ a ha
                            refine W.seq fun K282 hK282 => ?_
                            refine W.seq fun K283 hK283 => ?_
                            refine W.region ?_
                            refine wl_move rfl rfl ?_
                            refine wl_move rfl rfl ?_
                            refine wl_neq rfl rfl rfl ?_
                            refine WL.nil ?_
                            refine fun a ha => hK283 _ _ ?_ a ha
                            refine W.cond rfl (fun h284 => ?_) (fun h284 => ?_)
                            · replace hF := ifP h284 hF
                              refine W.seq fun K285 hK285 => ?_
                              refine W.region ?_
                              refine wl_assign rfl rfl ?_
                              refine WL.nil ?_
                              refine fun a ha => hK285 _ _ ?_ a ha
                              refine W.ret ?_
                              have hr := Option.some.inj hF
                              subst hr
                              exact rets (vs := [(.bool false)]) hQ rfl ⟨rv_tmp rfl, trivial⟩ ⟨rfl, hB275⟩
                            · replace hF := ifN h284 hF
                              refine W.skip ?_
                              refine fun a ha => hK282 _ _ ?_ a ha
                              refine W.seq fun K286 hK286 => ?_
                              refine W.region ?_
                              refine wl_assign rfl rfl ?_
                              refine WL.nil ?_
                              refine fun a ha => hK286 _ _ ?_ a ha
                              refine W.ret ?_
                              have hr := Option.some.inj hF
                              subst hr
                              exact rets (vs := [(.bool true)]) hQ rfl ⟨rv_tmp rfl, trivial⟩ ⟨rfl, hB275⟩
                      refine W.region ?_
                      refine wl_load_blk (i := 0) (vs := [v242, v244, (.int .i64 u241.1.2.2.1), (.int .i64 u241.1.2.2.2)]) (v := (.agg #[v242, v244, (.int .i64 u241.1.2.2.1), (.int .i64 u241.1.2.2.2)])) tf_31 rfl rfl hS258 rfl rfl rfl ?_
                      refine wl_load_blk (i := 11) (vs := [v50, v52, (.int .i64 u49.1.2.2.1), (.int .i64 u49.1.2.2.2)]) (v := (.agg #[v50, v52, (.int .i64 u49.1.2.2.1), (.int .i64 u49.1.2.2.2)])) tf_31 rfl rfl hS258 rfl rfl rfl ?_
                      obtain ⟨u287, hu287, hF⟩ := bindE hF
                      refine wl_call rfl Try.call20 (C_laws_eqShow w256 u241.1 v242 (hS258.own_ro (i := 1) rfl) v244 (hS258.own_ro (i := 2) rfl) u49.1 v50 (hS258.own_ro (i := 9) rfl) v52 (hS258.own_ro (i := 10) rfl) _ hu287) rfl ?_
                      rintro _ w288 ⟨rfl, hb289⟩
                      refine ⟨_, rfl, ?_⟩
                      have hB290 := hB257.trans (hb289.mono hB257.size)
                      have hS291 := hS258.below hb289
                      refine wl_not rfl rfl ?_
                      refine wl_move rfl rfl ?_
                      rcases bE (!u287) with h293 | h293
                      · replace hF := ifP h293 hF
                        refine wl_off rfl rfl rfl h293 ?_
                        refine wl_off rfl rfl rfl h293 ?_
                        refine wl_off rfl rfl rfl h293 ?_
                        refine wl_pick_t rfl rfl h293 rfl ?_
                        refine WL.nil ?_
                        exact fun a ha => hJ267 (true) _ hF hB290 (hS291.sel [6, 7, 12] rfl) a (ha.sub ⟨rfl, rfl, rfl, trivial⟩)
                      · replace hF := ifN h293 hF
                        refine wl_on rfl rfl h293 ?_
                        refine wl_move rfl rfl ?_
                        refine wl_on rfl rfl h293 ?_
                        refine wl_move rfl rfl ?_
                        refine wl_on rfl rfl h293 ?_
                        refine wl_neqb Try.underlying4 rfl rfl rfl ?_
                        refine wl_pick_f rfl rfl h293 rfl ?_
                        refine WL.nil ?_
                        exact fun a ha => hJ267 ((u241.2 != u49.2)) _ hF hB290 (hS291.sel [6, 7, 12] rfl) a (ha.sub ⟨rfl, rfl, rfl, trivial⟩)
              refine W.region ?_
              refine wl_move rfl rfl ?_
              refine wl_lss rfl rfl rfl ?_
              refine wl_move rfl rfl ?_
              rcases bE (decide (u182.1 < 0)) with h294 | h294
              · replace hF := ifP h294 hF
                refine wl_off rfl rfl rfl h294 ?_
                refine wl_off rfl rfl rfl h294 ?_
                refine wl_off rfl rfl rfl h294 ?_
                refine wl_off rfl rfl rfl h294 ?_
                refine wl_pick_t rfl rfl h294 rfl ?_
                refine wl_move rfl rfl ?_
                refine wl_off rfl rfl rfl rfl ?_
                refine wl_off rfl rfl rfl rfl ?_
                refine wl_off rfl rfl rfl rfl ?_
                refine wl_pick_t rfl rfl rfl rfl ?_
                refine WL.nil ?_
                exact fun a ha => hJ195 (true) _ hF hB186 (hS187.sel [6, 7, 8, 9, 11, 12, 13] rfl) a (ha.sub ⟨rfl, rfl, rfl, rfl, rfl, rfl, rfl, trivial⟩)
              · replace hF := ifN h294 hF
                refine wl_on rfl rfl h294 ?_
                refine wl_load_blk (i := 13) (vs := [v100, v102, (.int .i64 u99.1.2.2.1), (.int .i64 u99.1.2.2.2)]) (v := (.agg #[v100, v102, (.int .i64 u99.1.2.2.1), (.int .i64 u99.1.2.2.2)])) tf_31 rfl rfl hS187 rfl rfl rfl ?_
                refine wl_on rfl rfl h294 ?_
                refine wl_load_blk (i := 9) (vs := [v50, v52, (.int .i64 u49.1.2.2.1), (.int .i64 u49.1.2.2.2)]) (v := (.agg #[v50, v52, (.int .i64 u49.1.2.2.1), (.int .i64 u49.1.2.2.2)])) tf_31 rfl rfl hS187 rfl rfl rfl ?_
                refine wl_on rfl rfl h294 ?_
                obtain ⟨u295, hu295, hF⟩ := bindE hF
                refine wl_call rfl Try.call20 (C_laws_eqShow w183 u99.1 v100 (hS187.own_ro (i := 11) rfl) v102 (hS187.own_ro (i := 12) rfl) u49.1 v50 (hS187.own_ro (i := 7) rfl) v52 (hS187.own_ro (i := 8) rfl) _ hu295) rfl ?_
                rintro _ w296 ⟨rfl, hb297⟩
                refine ⟨_, rfl, ?_⟩
                have hB298 := hB186.trans (hb297.mono hB186.size)
                have hS299 := hS187.below hb297
                refine wl_on rfl rfl h294 ?_
                refine wl_not rfl rfl ?_
                refine wl_pick_f rfl rfl h294 rfl ?_
                refine wl_move rfl rfl ?_
                rcases bE (!u295) with h301 | h301
                · replace hF := ifP h301 hF
                  refine wl_off rfl rfl rfl h301 ?_
                  refine wl_off rfl rfl rfl h301 ?_
                  refine wl_off rfl rfl rfl h301 ?_
                  refine wl_pick_t rfl rfl h301 rfl ?_
                  refine WL.nil ?_
                  exact fun a ha => hJ195 (true) _ hF hB298 (hS299.sel [6, 7, 8, 9, 11, 12, 13] rfl) a (ha.sub ⟨rfl, rfl, rfl, rfl, rfl, rfl, rfl, trivial⟩)
                · replace hF := ifN h301 hF
                  refine wl_on rfl rfl h301 ?_
                  refine wl_move rfl rfl ?_
                  refine wl_on rfl rfl h301 ?_
                  refine wl_move rfl rfl ?_
                  refine wl_on rfl rfl h301 ?_
                  refine wl_neqb Try.underlying4 rfl rfl rfl ?_
                  refine wl_pick_f rfl rfl h301 rfl ?_
                  refine WL.nil ?_
                  exact fun a ha => hJ195 ((u99.2 != u49.2)) _ hF hB298 (hS299.sel [6, 7, 8, 9, 11, 12, 13] rfl) a (ha.sub ⟨rfl, rfl, rfl, rfl, rfl, rfl, rfl, trivial⟩)
      refine W.region ?_
      refine wl_load_blk (i := 0) (vs := [v100, v102, (.int .i64 u99.1.2.2.1), (.int .i64 u99.1.2.2.2)]) (v := (.agg #[v100, v102, (.int .i64 u99.1.2.2.1), (.int .i64 u99.1.2.2.2)])) tf_31 rfl rfl hS116 rfl rfl rfl ?_
      refine wl_load_blk (i := 7) (vs := [v50, v52, (.int .i64 u49.1.2.2.1), (.int .i64 u49.1.2.2.2)]) (v := (.agg #[v50, v52, (.int .i64 u49.1.2.2.1), (.int .i64 u49.1.2.2.2)])) tf_31 rfl rfl hS116 rfl rfl rfl ?_
      obtain ⟨u302, hu302, hF⟩ := bindE hF
      refine wl_call rfl Try.call20 (C_laws_eqShow w114 u99.1 v100 (hS116.own_ro (i := 1) rfl) v102 (hS116.own_ro (i := 2) rfl) u49.1 v50 (hS116.own_ro (i := 8) rfl) v52 (hS116.own_ro (i := 9) rfl) _ hu302) rfl ?_
      rintro _ w303 ⟨rfl, hb304⟩
      refine ⟨_, rfl, ?_⟩
      have hB305 := hB115.trans (hb304.mono hB115.size)
      have hS306 := hS116.below hb304
      refine wl_not rfl rfl ?_
      refine wl_move rfl rfl ?_
      rcases bE (!u302) with h308 | h308
      · replace hF := ifP h308 hF
        refine wl_off rfl rfl rfl h308 ?_
        refine wl_off rfl rfl rfl h308 ?_
        refine wl_off rfl rfl rfl h308 ?_
        refine wl_pick_t rfl rfl h308 rfl ?_
        refine WL.nil ?_
        exact fun a ha => hJ125 (true) _ hF hB305 (hS306.sel [13, 8, 9, 7, 5, 6, 4, 3, 1, 2, 0] rfl) a (ha.sub ⟨rfl, rfl, rfl, rfl, rfl, rfl, rfl, rfl, rfl, rfl, trivial⟩)
      · replace hF := ifN h308 hF
        refine wl_on rfl rfl h308 ?_
        refine wl_move rfl rfl ?_
        refine wl_on rfl rfl h308 ?_
        refine wl_move rfl rfl ?_
        refine wl_on rfl rfl h308 ?_
        refine wl_neqb Try.underlying4 rfl rfl rfl ?_
        refine wl_pick_f rfl rfl h308 rfl ?_
        refine WL.nil ?_
        exact fun a ha => hJ125 ((u99.2 != u49.2)) _ hF hB305 (hS306.sel [13, 8, 9, 7, 5, 6, 4, 3, 1, 2, 0] rfl) a (ha.sub ⟨rfl, rfl, rfl, rfl, rfl, rfl, rfl, rfl, rfl, rfl, trivial⟩)
end Go.Proofs.Ytadklddedeoniaa
