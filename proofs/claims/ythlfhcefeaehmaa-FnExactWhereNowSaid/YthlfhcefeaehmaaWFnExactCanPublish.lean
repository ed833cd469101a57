/-
  THE WALKS of functions of this seat, by program (gen.py).
-/
import Derived.Test.YthlfhcefeaehmaaH
import Derived.Test.YthlfhcefeaehmaaWFnExactLeastToKeep
set_option linter.unusedSimpArgs false
set_option linter.unusedVariables false
set_option maxRecDepth 100000
namespace Go.Proofs.Ythlfhcefeaehmaa
open Go Go.RowKit
theorem C_spec_apStay (w0 : World) (x0 : ((Int × Int) × (Int × Int) × Int)) (x1 : ((Int × Int) × (Int × Int) × Int)) (x2 : Int) (r : Bool) (hF : F_spec_apStay x0 x1 x2 = some r) :
    Calls Try.prog 124 [(.agg #[(.int .i64 x0.1.1), (.int .i64 x0.1.2), (.int .i64 x0.2.1.1), (.int .i64 x0.2.1.2), (.int .i64 x0.2.2)]), (.agg #[(.int .i64 x1.1.1), (.int .i64 x1.1.2), (.int .i64 x1.2.1.1), (.int .i64 x1.2.1.2), (.int .i64 x1.2.2)]), (.int .i64 x2)].toArray w0 fun e w' => e = .returned (.bool r) ∧ Below w0.heap.size w0 w' := by
  refine calls_mk' Try.func124 rfl Try.ntmps124 rfl rfl fun Q hQ hP => ?_
  have hB : Below w0.heap.size w0 w0 := Below.refl _ _
  have hS : Sep w0.heap.size w0 [] := Sep.nil _ _
  unfold F_spec_apStay at hF
  refine W.seq fun K1 hK1 => ?_
  refine W.region ?_
  refine wl_box (cs := [(.int .i64 x0.1.1), (.int .i64 x0.1.2), (.int .i64 x0.2.1.1), (.int .i64 x0.2.1.2), (.int .i64 x0.2.2)]) rfl rfl rfl hB hS ?_
  intro b2 w3 hb4 hB5 hS6
  refine wl_box (cs := [(.int .i64 x1.1.1), (.int .i64 x1.1.2), (.int .i64 x1.2.1.1), (.int .i64 x1.2.1.2), (.int .i64 x1.2.2)]) rfl rfl rfl hB5 hS6 ?_
  intro b7 w8 hb9 hB10 hS11
  refine wl_assign rfl rfl ?_
  refine WL.nil ?_
  refine fun a ha => hK1 _ _ ?_ a ha
  refine W.seq fun K12 hK12 => ?_
  refine W.region ?_
  refine wl_load_blk (i := 1) (vs := [(.int .i64 x0.1.1), (.int .i64 x0.1.2), (.int .i64 x0.2.1.1), (.int .i64 x0.2.1.2), (.int .i64 x0.2.2)]) (v := (.agg #[(.int .i64 x0.1.1), (.int .i64 x0.1.2), (.int .i64 x0.2.1.1), (.int .i64 x0.2.1.2), (.int .i64 x0.2.2)])) tf_96 rfl rfl hS11 rfl rfl rfl ?_
  refine wl_load_blk (i := 0) (vs := [(.int .i64 x1.1.1), (.int .i64 x1.1.2), (.int .i64 x1.2.1.1), (.int .i64 x1.2.1.2), (.int .i64 x1.2.2)]) (v := (.agg #[(.int .i64 x1.1.1), (.int .i64 x1.1.2), (.int .i64 x1.2.1.1), (.int .i64 x1.2.1.2), (.int .i64 x1.2.2)])) tf_96 rfl rfl hS11 rfl rfl rfl ?_
  obtain ⟨u13, hu13, hF⟩ := bindE hF
  refine wl_call rfl Try.call120 (C_spec_apLeast w8 x0 x1 _ hu13) rfl ?_
  rintro _ w14 ⟨rfl, hb15⟩
  refine ⟨_, rfl, ?_⟩
  have hB16 := hB10.trans (hb15.mono hB10.size)
  have hS17 := hS11.below hb15
  refine wl_move rfl rfl ?_
  refine wl_extract rfl rfl rfl ?_
  refine wl_extract rfl rfl rfl ?_
  refine wl_assign rfl rfl ?_
  refine wl_assign rfl rfl ?_
  refine WL.nil ?_
  refine fun a ha => hK12 _ _ ?_ a ha
  refine W.seq fun K19 hK19 => ?_
  refine W.region ?_
  refine wl_move rfl rfl ?_
  refine wl_move rfl rfl ?_
  refine wl_move rfl rfl ?_
  refine wl_mul rfl rfl rfl ?_
  refine wl_move rfl rfl ?_
  refine wl_mul rfl rfl rfl ?_
  refine wl_geq rfl rfl rfl ?_
  refine wl_assign rfl rfl ?_
  refine WL.nil ?_
  refine fun a ha => hK19 _ _ ?_ a ha
  refine W.ret ?_
  have hr := Option.some.inj hF
  subst hr
  exact rets (vs := [(.bool (decide ((w64 ((w64 (x2 * x2)) * u13.2)) ≤ u13.1)))]) hQ rfl ⟨rv_tmp rfl, trivial⟩ ⟨rfl, hB16⟩
theorem C_spec_swClose (w0 : World) (x0 : ((List (List (Int × Int))) × (List Int) × Int × Int)) (v0_0 : Value) (h0_0 : rdS ty_70 (· < w0.heap.size) w0 v0_0 x0.1) (v0_1 : Value) (h0_1 : rdS ty_3 (· < w0.heap.size) w0 v0_1 x0.2.1) (x1 : Int) (r : (List (List Int))) (hF : F_spec_swClose x0 x1 = some r) :
    Calls Try.prog 79 [(.agg #[v0_0, v0_1, (.int .i64 x0.2.2.1), (.int .i64 x0.2.2.2)]), (.int .i64 x1)].toArray w0 fun e w' => ∃ (q0 : Value) (G0 : List Nat), e = .returned q0 ∧ Below w0.heap.size w0 w' ∧ Sep w0.heap.size w' [R.own ty_23 G0 q0 r] := by
  refine calls_mk' Try.func79 rfl Try.ntmps79 rfl rfl fun Q hQ hP => ?_
  have hB : Below w0.heap.size w0 w0 := Below.refl _ _
  have hS : Sep w0.heap.size w0 [] := Sep.nil _ _
  unfold F_spec_swClose at hF
  refine W.seq fun K1 hK1 => ?_
  refine W.region ?_
  refine wl_box (cs := [v0_0, v0_1, (.int .i64 x0.2.2.1), (.int .i64 x0.2.2.2)]) rfl rfl rfl hB hS ?_
  intro b2 w3 hb4 hB5 hS6
  refine wl_assign rfl rfl ?_
  refine WL.nil ?_
  refine fun a ha => hK1 _ _ ?_ a ha
  refine W.seq fun K7 hK7 => ?_
  refine W.region ?_
  refine wl_load_blk (i := 0) (vs := [v0_0, v0_1, (.int .i64 x0.2.2.1), (.int .i64 x0.2.2.2)]) (v := (.agg #[v0_0, v0_1, (.int .i64 x0.2.2.1), (.int .i64 x0.2.2.2)])) tf_31 rfl rfl hS6 rfl rfl rfl ?_
  refine wl_move rfl rfl ?_
  obtain ⟨u8, hu8, hF⟩ := bindE hF
  refine wl_call rfl Try.call73 (C_spec_swMoves w3 x0 v0_0 (h0_0.ro hB5) v0_1 (h0_1.ro hB5) x1 _ hu8) rfl ?_
  rintro _ w11 ⟨v9, F10, rfl, hb12, hM15⟩
  refine ⟨_, rfl, ?_⟩
  have hB13 := hB5.trans (hb12.mono hB5.size)
  have hS14 := hS6.join hb12 hM15 hB5.size
  refine wl_assign rfl rfl ?_
  refine WL.nil ?_
  refine fun a ha => hK7 _ _ ?_ a ha
  refine W.seq fun K16 hK16 => ?_
  refine W.region ?_
  refine wl_assign rfl rfl ?_
  refine WL.nil ?_
  refine fun a ha => hK16 _ _ ?_ a ha
  refine W.seq fun K17 hK17 => ?_
  refine W.seq fun K18 hK18 => ?_
  refine W.region ?_
  refine wl_move rfl rfl ?_
  refine wl_lenr (e := ty_96) (l := u8) Try.underlying87 rfl rfl (hS14.own_ro (i := 0) rfl) ?_
  refine wl_move rfl rfl ?_
  refine WL.nil ?_
  refine fun a ha => hK18 _ _ ?_ a ha
  refine W.block ?_
  refine W.loopk (fun m a w19 => ∃ (l22 : (List (List Int))) (y25 : Int) (v23 : Value) (F24 : List Nat), St 45 [(2, (.pointer (some ⟨b2, 0, none⟩))), (5, v9), (6, v23), (13, v9), (14, (.int .i64 (List.length u8 : Int))), (15, (.int .i64 y25))] a ∧ Below w0.heap.size w0 w19 ∧ Sep w0.heap.size w19 [R.blk b2 31 [v0_0, v0_1, (.int .i64 x0.2.2.1), (.int .i64 x0.2.2.2)], R.own ty_96 F10 v9 u8, R.own ty_23 F24 v23 l22] ∧ F_spec_swClose_L1 u8 x0 m l22 y25 = some r) FU ?_ ?_
  ·
    have hS27 := hS14.push0 (r := R.own ty_23 [] (.slice none 0 0) []) rfl fun _ => .inl ⟨rfl, rfl, rfl⟩
    exact fun a ha => ⟨[], 0, (.slice none 0 0), [], ha.sub ⟨rfl, rfl, rfl, rfl, rfl, rfl, trivial⟩, hB13, (hS27.sel [2, 1, 0] rfl), hF⟩
  ·
    rintro m29 a w19 ⟨l22, y25, v23, F24, ha, hB20, hS21, hF⟩ KL28 hKL28
    refine W.at ?_ ha
    cases m29 with
    | zero => exact noneE hF
    | succ m29 =>
      obtain ⟨nx26, hnx26⟩ : ∃ k, k = F_spec_swClose_L1 u8 x0 m29 := ⟨_, rfl⟩
      rw [F_spec_swClose_L1, ← hnx26] at hF
      refine W.seq fun K30 hK30 => ?_
      refine W.region ?_
      refine wl_lss rfl rfl rfl ?_
      refine WL.nil ?_
      refine fun a ha => hK30 _ _ ?_ a ha
      refine W.seq fun K31 hK31 => ?_
      refine W.cond rfl (fun h32 => ?_) (fun h32 => ?_)
      · replace hF := ifP h32 hF
        refine W.skip ?_
        refine fun a ha => hK31 _ _ ?_ a ha
        refine W.seq fun K33 hK33 => ?_
        refine W.block ?_
        refine W.seq fun K34 hK34 => ?_
        refine W.region ?_
        refine wl_move rfl rfl ?_
        obtain ⟨u35, hu35, hF⟩ := bindE hF
        refine wl_indexo (e := ty_96) (i := 1) Try.underlying87 rfl rfl rfl hS21 rfl hu35 ?_
        rintro p36 _ rfl hp37 ho38
        refine wl_load_p (vs := [(.int .i64 u35.1.1), (.int .i64 u35.1.2), (.int .i64 u35.2.1.1), (.int .i64 u35.2.1.2), (.int .i64 u35.2.2)]) (v := (.agg #[(.int .i64 u35.1.1), (.int .i64 u35.1.2), (.int .i64 u35.2.1.1), (.int .i64 u35.2.1.2), (.int .i64 u35.2.2)])) tf_96 rfl rfl hp37 rfl rfl ?_
        refine wl_alloc (cs := [(.int .i64 0), (.int .i64 0), (.int .i64 0), (.int .i64 0), (.int .i64 0)]) tf_96 rfl rfl hB20 hS21 ?_
        intro b39 w40 hb41 hB42 hS43
        refine wl_assign rfl rfl ?_
        refine wl_store_blk (i := 0) (vs := [(.int .i64 u35.1.1), (.int .i64 u35.1.2), (.int .i64 u35.2.1.1), (.int .i64 u35.2.1.2), (.int .i64 u35.2.2)]) (cs' := [(.int .i64 u35.1.1), (.int .i64 u35.1.2), (.int .i64 u35.2.1.1), (.int .i64 u35.2.1.2), (.int .i64 u35.2.2)]) tf_96 rfl rfl rfl rfl hB42 hS43 rfl rfl ⟨rfl, rfl, rfl, rfl, rfl, trivial⟩ rfl ?_
        intro w44 hk47 hB45 hS46
        refine WL.nil ?_
        refine fun a ha => hK34 _ _ ?_ a ha
        refine W.seq fun K48 hK48 => ?_
        refine W.region ?_
        refine wl_move rfl rfl ?_
        refine wl_add rfl rfl rfl ?_
        refine wl_assign rfl rfl ?_
        refine WL.nil ?_
        refine fun a ha => hK48 _ _ ?_ a ha
        refine W.block ?_
        refine W.loopk (fun m a w49 => ∃ (l52 : (List (List Int))) (y55 : Int) (v53 : Value) (F54 : List Nat), St 45 [(2, (.pointer (some ⟨b2, 0, none⟩))), (5, v9), (6, v53), (7, (.int .i64 y25)), (8, (.pointer (some ⟨b39, 0, none⟩))), (9, (.int .i64 y55)), (13, v9), (14, (.int .i64 (List.length u8 : Int))), (15, (.int .i64 y25))] a ∧ Below w0.heap.size w0 w49 ∧ Sep w0.heap.size w49 [R.blk b2 31 [v0_0, v0_1, (.int .i64 x0.2.2.1), (.int .i64 x0.2.2.2)], R.own ty_96 F10 v9 u8, R.own ty_23 F54 v53 l52, R.blk b39 96 [(.int .i64 u35.1.1), (.int .i64 u35.1.2), (.int .i64 u35.2.1.1), (.int .i64 u35.2.1.2), (.int .i64 u35.2.2)]] ∧ F_spec_swClose_L2 u8 u35 x0 y25 nx26 m l52 y55 = some r) FU ?_ ?_
        ·
          exact fun a ha => ⟨l22, (w64 (y25 + 1)), v23, F24, ha.sub ⟨rfl, rfl, rfl, rfl, rfl, rfl, rfl, rfl, rfl, trivial⟩, hB45, (hS46.sel [1, 2, 3, 0] rfl), hF⟩
        ·
          rintro m58 a w49 ⟨l52, y55, v53, F54, ha, hB50, hS51, hF⟩ KL57 hKL57
          refine W.at ?_ ha
          cases m58 with
          | zero => exact noneE hF
          | succ m58 =>
            obtain ⟨nx56, hnx56⟩ : ∃ k, k = F_spec_swClose_L2 u8 u35 x0 y25 nx26 m58 := ⟨_, rfl⟩
            rw [F_spec_swClose_L2, ← hnx56] at hF
            refine W.seq fun K59 hK59 => ?_
            refine W.seq fun K60 hK60 => ?_
            refine W.region ?_
            refine wl_move rfl rfl ?_
            refine wl_move rfl rfl ?_
            refine wl_lenr (e := ty_96) (l := u8) Try.underlying87 rfl rfl (hS51.own_ro (i := 1) rfl) ?_
            refine wl_lss rfl rfl rfl ?_
            refine WL.nil ?_
            refine fun a ha => hK60 _ _ ?_ a ha
            refine W.cond rfl (fun h61 => ?_) (fun h61 => ?_)
            · replace hF := ifP h61 hF
              refine W.skip ?_
              refine fun a ha => hK59 _ _ ?_ a ha
              refine W.seq fun K62 hK62 => ?_
              obtain ⟨k69, hk69, hF⟩ := jE1 hF
              have hJ70 : ∀ (l66 : (List (List Int))) (v67 : Value) (F68 : List Nat) (w63 : World) (_ : k69 l66 = some r) (_ : Below w0.heap.size w0 w63) (_ : Sep w0.heap.size w63 [R.blk b2 31 [v0_0, v0_1, (.int .i64 x0.2.2.1), (.int .i64 x0.2.2.2)], R.own ty_96 F10 v9 u8, R.own ty_23 F68 v67 l66, R.blk b39 96 [(.int .i64 u35.1.1), (.int .i64 u35.1.2), (.int .i64 u35.2.1.1), (.int .i64 u35.2.1.2), (.int .i64 u35.2.2)]]), ∀ a, St 45 [(2, (.pointer (some ⟨b2, 0, none⟩))), (5, v9), (6, v67), (7, (.int .i64 y25)), (8, (.pointer (some ⟨b39, 0, none⟩))), (9, (.int .i64 y55)), (13, v9), (14, (.int .i64 (List.length u8 : Int))), (15, (.int .i64 y25))] a → K62 a w63 := by
                intro l66 v67 F68 w63 hF hB64 hS65
                subst hk69
                refine fun a ha => hK62 _ _ ?_ a ha
                refine W.region ?_
                refine wl_move rfl rfl ?_
                refine wl_add rfl rfl rfl ?_
                refine wl_assign rfl rfl ?_
                refine WL.nil ?_
                rw [hnx56] at hF
                exact fun a ha => hKL57 a _ m58 (Nat.lt_succ_self m58) ⟨l66, (w64 (y55 + 1)), v67, F68, ha.sub ⟨rfl, rfl, rfl, rfl, rfl, rfl, rfl, rfl, rfl, trivial⟩, hB64, (hS65.sel [0, 1, 2, 3] rfl), hF⟩
              refine W.block ?_
              refine W.seq fun K71 hK71 => ?_
              refine W.regionH mixed_ [] hB50 hS51 ?_
              intro w72 hb73 hB74 hS75
              have hSW76 := KeepX.refl w72 []
              refine WH.takex (i := 0) rfl (by kernel_rfl) (by kernel_rfl) (by kernel_rfl) hP hSW76 ?_
              refine pr_load_blk (i := 3) (vs := [(.int .i64 u35.1.1), (.int .i64 u35.1.2), (.int .i64 u35.2.1.1), (.int .i64 u35.2.1.2), (.int .i64 u35.2.2)]) (v := (.agg #[(.int .i64 u35.1.1), (.int .i64 u35.1.2), (.int .i64 u35.2.1.1), (.int .i64 u35.2.1.2), (.int .i64 u35.2.2)])) tf_96 rfl rfl hS75 rfl rfl rfl (by simp) ?_
              refine WH.takex (i := 1) rfl (by kernel_rfl) (by kernel_rfl) (by kernel_rfl) hP hSW76 ?_
              refine pr_move rfl rfl ?_
              refine WH.takex (i := 2) rfl (by kernel_rfl) (by kernel_rfl) (by kernel_rfl) hP hSW76 ?_
              refine pr_move rfl rfl ?_
              obtain ⟨u77, hu77, hF⟩ := bindE hF
              refine WH.takex (i := 3) rfl (by kernel_rfl) (by kernel_rfl) (by kernel_rfl) hP hSW76 ?_
              refine pr_indexo (e := ty_96) (i := 1) Try.underlying87 rfl rfl rfl hS75 rfl hu77 ?_
              rintro p78 _ rfl hp79 ho80
              refine WH.takex (i := 4) rfl (by kernel_rfl) (by kernel_rfl) (by kernel_rfl) hP hSW76 ?_
              refine pr_load_p (vs := [(.int .i64 u77.1.1), (.int .i64 u77.1.2), (.int .i64 u77.2.1.1), (.int .i64 u77.2.1.2), (.int .i64 u77.2.2)]) (v := (.agg #[(.int .i64 u77.1.1), (.int .i64 u77.1.2), (.int .i64 u77.2.1.1), (.int .i64 u77.2.1.2), (.int .i64 u77.2.2)])) tf_96 rfl rfl (hp79.kx0) rfl rfl ?_
              refine WH.takex (i := 5) rfl (by kernel_rfl) (by kernel_rfl) (by kernel_rfl) hP hSW76 ?_
              refine pr_field (o := 2) (off' := 2) ff_31_2 rfl rfl rfl ?_
              refine WH.takex (i := 6) rfl (by kernel_rfl) (by kernel_rfl) (by kernel_rfl) hP hSW76 ?_
              refine pr_load_blk (i := 0) (vs := [(.int .i64 x0.2.2.1)]) (v := (.int .i64 x0.2.2.1)) tf_3 rfl rfl hS75 rfl rfl rfl (by simp) ?_
              refine WH.one (i := 7) (by kernel_rfl) rfl ?_
              obtain ⟨u81, hu81, hF⟩ := bindE hF
              refine wl_call rfl Try.call124 (C_spec_apStay w72 u35 u77 x0.2.2.1 _ hu81) rfl ?_
              rintro _ w82 ⟨rfl, hb83⟩
              refine ⟨_, rfl, ?_⟩
              have hB84 := hB74.trans (hb83.mono hB74.size)
              have hS85 := hS75.below hb83
              have hSW87 := hSW76.ext hb83
              refine WL.nil (WH.ret hSW87 ?_)
              refine WH.takex (i := 8) rfl (by kernel_rfl) (by kernel_rfl) (by kernel_rfl) hP hSW87 ?_
              refine pr_not rfl rfl ?_
              refine WH.done (by kernel_rfl) ?_
              refine fun a ha => hK71 _ _ ?_ a ha
              refine W.cond rfl (fun h88 => ?_) (fun h88 => ?_)
              · replace hF := ifP h88 hF
                refine W.region ?_
                refine wl_move rfl rfl ?_
                refine wl_move rfl rfl ?_
                refine wl_move rfl rfl ?_
                refine wl_lit (vs := [(.int .i64 y25), (.int .i64 y55)]) (l := [y25, y55]) fl_3 Try.underlying23 rfl rfl rfl rfl rfl rfl hB84 hS85 ?_
                intro v89 F90 w91 hb92 hB93 hS94
                have hq95 := hS94.sel [0, 1, 2, 3, 4] rfl
                have hq96 := hq95.head (r' := R.cel ty_23 F90 [v89] [y25, y55]) (rfl) fun _ h0 => ⟨_, rfl, h0⟩
                refine wl_lit1 (e := ty_23) (vs := [v89]) Try.underlying39 rfl rfl (cells_one (hS94.own_ro (i := 0) rfl).one) rfl hB93 hq96 ?_
                intro v97 F98 w99 hb100 hf101 hB102 hS103
                obtain ⟨u104, hu104, hF⟩ := bindE hF
                refine wl_appendn (e := ty_23) Try.underlying39 rfl rfl rfl hB102 (hS103.sel [3, 0, 1, 2, 4] rfl) hu104 ?_
                intro v105 F106 w107 hk108 hB109 hS110
                refine wl_assign rfl rfl ?_
                refine WL.nil ?_
                exact fun a ha => hJ70 (u104) (v105) (F106) _ hF hB109 (hS110.sel [1, 2, 0, 3] rfl) a (ha.sub ⟨rfl, rfl, rfl, rfl, rfl, rfl, rfl, rfl, rfl, trivial⟩)
              · replace hF := ifN h88 hF
                refine W.skip ?_
                exact fun a ha => hJ70 (l52) (v53) (F54) _ hF hB84 (hS85.sel [0, 1, 2, 3] rfl) a (ha.sub ⟨rfl, rfl, rfl, rfl, rfl, rfl, rfl, rfl, rfl, trivial⟩)
            · replace hF := ifN h61 hF
              refine W.exit ?_
              refine fun a ha => hK33 _ _ ?_ a ha
              refine W.region ?_
              refine wl_add rfl rfl rfl ?_
              refine wl_move rfl rfl ?_
              refine WL.nil ?_
              rw [hnx26] at hF
              exact fun a ha => hKL28 a _ m29 (Nat.lt_succ_self m29) ⟨l52, (w64 (y25 + 1)), v53, F54, ha.sub ⟨rfl, rfl, rfl, rfl, rfl, rfl, trivial⟩, hB50, (hS51.sel [0, 1, 2] rfl), hF⟩
      · replace hF := ifN h32 hF
        refine W.exit ?_
        refine fun a ha => hK17 _ _ ?_ a ha
        refine W.seq fun K111 hK111 => ?_
        refine W.region ?_
        refine wl_move rfl rfl ?_
        refine wl_assign rfl rfl ?_
        refine WL.nil ?_
        refine fun a ha => hK111 _ _ ?_ a ha
        refine W.ret ?_
        have hr := Option.some.inj hF
        subst hr
        exact rets (vs := [v23]) hQ rfl ⟨rv_tmp rfl, trivial⟩ ⟨v23, F24, rfl, hB20, hS21.sel [2] rfl⟩
theorem C_spec_stSquare (w0 : World) (x0 : (Int × Int)) (x1 : (Int × Int)) (r : Int) (hF : F_spec_stSquare x0 x1 = some r) :
    Calls Try.prog 98 [(.agg #[(.int .i64 x0.1), (.int .i64 x0.2)]), (.agg #[(.int .i64 x1.1), (.int .i64 x1.2)])].toArray w0 fun e w' => e = .returned (.int .i64 r) ∧ Below w0.heap.size w0 w' := by
  refine calls_mk' Try.func98 rfl Try.ntmps98 rfl rfl fun Q hQ hP => ?_
  have hB : Below w0.heap.size w0 w0 := Below.refl _ _
  have hS : Sep w0.heap.size w0 [] := Sep.nil _ _
  unfold F_spec_stSquare at hF
  refine W.seq fun K1 hK1 => ?_
  refine W.region ?_
  refine wl_box (cs := [(.int .i64 x0.1), (.int .i64 x0.2)]) rfl rfl rfl hB hS ?_
  intro b2 w3 hb4 hB5 hS6
  refine wl_box (cs := [(.int .i64 x1.1), (.int .i64 x1.2)]) rfl rfl rfl hB5 hS6 ?_
  intro b7 w8 hb9 hB10 hS11
  refine wl_assign rfl rfl ?_
  refine WL.nil ?_
  refine fun a ha => hK1 _ _ ?_ a ha
  refine W.seq fun K12 hK12 => ?_
  refine W.region ?_
  refine wl_field (o := 0) (off' := 0) ff_54_0 rfl rfl rfl ?_
  refine wl_load_blk (i := 1) (vs := [(.int .i64 x0.1)]) (v := (.int .i64 x0.1)) tf_3 rfl rfl hS11 rfl rfl rfl ?_
  refine wl_field (o := 0) (off' := 0) ff_54_0 rfl rfl rfl ?_
  refine wl_load_blk (i := 0) (vs := [(.int .i64 x1.1)]) (v := (.int .i64 x1.1)) tf_3 rfl rfl hS11 rfl rfl rfl ?_
  refine wl_sub rfl rfl rfl ?_
  refine wl_field (o := 0) (off' := 0) ff_54_0 rfl rfl rfl ?_
  refine wl_load_blk (i := 1) (vs := [(.int .i64 x0.1)]) (v := (.int .i64 x0.1)) tf_3 rfl rfl hS11 rfl rfl rfl ?_
  refine wl_field (o := 0) (off' := 0) ff_54_0 rfl rfl rfl ?_
  refine wl_load_blk (i := 0) (vs := [(.int .i64 x1.1)]) (v := (.int .i64 x1.1)) tf_3 rfl rfl hS11 rfl rfl rfl ?_
  refine wl_sub rfl rfl rfl ?_
  refine wl_mul rfl rfl rfl ?_
  refine wl_field (o := 1) (off' := 1) ff_54_1 rfl rfl rfl ?_
  refine wl_load_blk (i := 1) (vs := [(.int .i64 x0.2)]) (v := (.int .i64 x0.2)) tf_3 rfl rfl hS11 rfl rfl rfl ?_
  refine wl_field (o := 1) (off' := 1) ff_54_1 rfl rfl rfl ?_
  refine wl_load_blk (i := 0) (vs := [(.int .i64 x1.2)]) (v := (.int .i64 x1.2)) tf_3 rfl rfl hS11 rfl rfl rfl ?_
  refine wl_sub rfl rfl rfl ?_
  refine wl_field (o := 1) (off' := 1) ff_54_1 rfl rfl rfl ?_
  refine wl_load_blk (i := 1) (vs := [(.int .i64 x0.2)]) (v := (.int .i64 x0.2)) tf_3 rfl rfl hS11 rfl rfl rfl ?_
  refine wl_field (o := 1) (off' := 1) ff_54_1 rfl rfl rfl ?_
  refine wl_load_blk (i := 0) (vs := [(.int .i64 x1.2)]) (v := (.int .i64 x1.2)) tf_3 rfl rfl hS11 rfl rfl rfl ?_
  refine wl_sub rfl rfl rfl ?_
  refine wl_mul rfl rfl rfl ?_
  refine wl_add rfl rfl rfl ?_
  refine wl_assign rfl rfl ?_
  refine WL.nil ?_
  refine fun a ha => hK12 _ _ ?_ a ha
  refine W.ret ?_
  have hr := Option.some.inj hF
  subst hr
  exact rets (vs := [(.int .i64 (w64 ((w64 ((w64 (x0.1 - x1.1)) * (w64 (x0.1 - x1.1)))) + (w64 ((w64 (x0.2 - x1.2)) * (w64 (x0.2 - x1.2)))))))]) hQ rfl ⟨rv_tmp rfl, trivial⟩ ⟨rfl, hB10⟩
theorem C_spec_mvWithin (w0 : World) (x0 : ((Int × Int) × (Int × Int) × Int)) (x1 : Int) (r : Bool) (hF : F_spec_mvWithin x0 x1 = some r) :
    Calls Try.prog 144 [(.agg #[(.int .i64 x0.1.1), (.int .i64 x0.1.2), (.int .i64 x0.2.1.1), (.int .i64 x0.2.1.2), (.int .i64 x0.2.2)]), (.int .i64 x1)].toArray w0 fun e w' => e = .returned (.bool r) ∧ Below w0.heap.size w0 w' := by
  refine calls_mk' Try.func144 rfl Try.ntmps144 rfl rfl fun Q hQ hP => ?_
  have hB : Below w0.heap.size w0 w0 := Below.refl _ _
  have hS : Sep w0.heap.size w0 [] := Sep.nil _ _
  unfold F_spec_mvWithin at hF
  refine W.seq fun K1 hK1 => ?_
  refine W.region ?_
  refine wl_box (cs := [(.int .i64 x0.1.1), (.int .i64 x0.1.2), (.int .i64 x0.2.1.1), (.int .i64 x0.2.1.2), (.int .i64 x0.2.2)]) rfl rfl rfl hB hS ?_
  intro b2 w3 hb4 hB5 hS6
  refine wl_assign rfl rfl ?_
  refine WL.nil ?_
  refine fun a ha => hK1 _ _ ?_ a ha
  refine W.seq fun K7 hK7 => ?_
  refine W.regionH mixed_ [] hB5 hS6 ?_
  intro w8 hb9 hB10 hS11
  have hSW12 := KeepX.refl w8 []
  refine WH.takex (i := 0) rfl (by kernel_rfl) (by kernel_rfl) (by kernel_rfl) hP hSW12 ?_
  refine pr_field (o := 0) (off' := 0) ff_96_0 rfl rfl rfl ?_
  refine WH.takex (i := 1) rfl (by kernel_rfl) (by kernel_rfl) (by kernel_rfl) hP hSW12 ?_
  refine pr_load_blk (i := 0) (vs := [(.int .i64 x0.1.1), (.int .i64 x0.1.2)]) (v := (.agg #[(.int .i64 x0.1.1), (.int .i64 x0.1.2)])) tf_54 rfl rfl hS11 rfl rfl rfl (by simp) ?_
  refine WH.takex (i := 2) rfl (by kernel_rfl) (by kernel_rfl) (by kernel_rfl) hP hSW12 ?_
  refine pr_field (o := 2) (off' := 2) ff_96_1 rfl rfl rfl ?_
  refine WH.takex (i := 3) rfl (by kernel_rfl) (by kernel_rfl) (by kernel_rfl) hP hSW12 ?_
  refine pr_load_blk (i := 0) (vs := [(.int .i64 x0.2.1.1), (.int .i64 x0.2.1.2)]) (v := (.agg #[(.int .i64 x0.2.1.1), (.int .i64 x0.2.1.2)])) tf_54 rfl rfl hS11 rfl rfl rfl (by simp) ?_
  refine WH.takex (i := 5) rfl (by kernel_rfl) (by kernel_rfl) (by kernel_rfl) hP hSW12 ?_
  refine pr_move rfl rfl ?_
  refine WH.takex (i := 6) rfl (by kernel_rfl) (by kernel_rfl) (by kernel_rfl) hP hSW12 ?_
  refine pr_move rfl rfl ?_
  refine WH.takex (i := 7) rfl (by kernel_rfl) (by kernel_rfl) (by kernel_rfl) hP hSW12 ?_
  refine pr_mul rfl rfl rfl ?_
  refine WH.takex (i := 8) rfl (by kernel_rfl) (by kernel_rfl) (by kernel_rfl) hP hSW12 ?_
  refine pr_field (o := 4) (off' := 4) ff_96_2 rfl rfl rfl ?_
  refine WH.takex (i := 9) rfl (by kernel_rfl) (by kernel_rfl) (by kernel_rfl) hP hSW12 ?_
  refine pr_load_blk (i := 0) (vs := [(.int .i64 x0.2.2)]) (v := (.int .i64 x0.2.2)) tf_3 rfl rfl hS11 rfl rfl rfl (by simp) ?_
  refine WH.takex (i := 10) rfl (by kernel_rfl) (by kernel_rfl) (by kernel_rfl) hP hSW12 ?_
  refine pr_mul rfl rfl rfl ?_
  refine WH.takex (i := 11) rfl (by kernel_rfl) (by kernel_rfl) (by kernel_rfl) hP hSW12 ?_
  refine pr_field (o := 4) (off' := 4) ff_96_2 rfl rfl rfl ?_
  refine WH.takex (i := 12) rfl (by kernel_rfl) (by kernel_rfl) (by kernel_rfl) hP hSW12 ?_
  refine pr_load_blk (i := 0) (vs := [(.int .i64 x0.2.2)]) (v := (.int .i64 x0.2.2)) tf_3 rfl rfl hS11 rfl rfl rfl (by simp) ?_
  refine WH.takex (i := 13) rfl (by kernel_rfl) (by kernel_rfl) (by kernel_rfl) hP hSW12 ?_
  refine pr_mul rfl rfl rfl ?_
  refine WH.one (i := 4) (by kernel_rfl) rfl ?_
  obtain ⟨u13, hu13, hF⟩ := bindE hF
  refine wl_call rfl Try.call98 (C_spec_stSquare w8 x0.1 x0.2.1 _ hu13) rfl ?_
  rintro _ w14 ⟨rfl, hb15⟩
  refine ⟨_, rfl, ?_⟩
  have hB16 := hB10.trans (hb15.mono hB10.size)
  have hS17 := hS11.below hb15
  have hSW19 := hSW12.ext hb15
  refine WL.nil (WH.ret hSW19 ?_)
  refine WH.takex (i := 14) rfl (by kernel_rfl) (by kernel_rfl) (by kernel_rfl) hP hSW19 ?_
  refine pr_leq rfl rfl rfl ?_
  refine WH.takex (i := 15) rfl (by kernel_rfl) (by kernel_rfl) (by kernel_rfl) hP hSW19 ?_
  refine pr_assign rfl rfl ?_
  refine WH.done (by kernel_rfl) ?_
  refine fun a ha => hK7 _ _ ?_ a ha
  refine W.ret ?_
  have hr := Option.some.inj hF
  subst hr
  exact rets (vs := [(.bool (decide (u13 ≤ (w64 ((w64 ((w64 (x1 * x1)) * x0.2.2)) * x0.2.2)))))]) hQ rfl ⟨rv_tmp rfl, trivial⟩ ⟨rfl, hB16⟩
theorem C_spec_swWide (w0 : World) (x0 : ((List (List (Int × Int))) × (List Int) × Int × Int)) (v0_0 : Value) (h0_0 : rdS ty_70 (· < w0.heap.size) w0 v0_0 x0.1) (v0_1 : Value) (h0_1 : rdS ty_3 (· < w0.heap.size) w0 v0_1 x0.2.1) (x1 : Int) (r : (List Int)) (hF : F_spec_swWide x0 x1 = some r) :
    Calls Try.prog 111 [(.agg #[v0_0, v0_1, (.int .i64 x0.2.2.1), (.int .i64 x0.2.2.2)]), (.int .i64 x1)].toArray w0 fun e w' => ∃ (q0 : Value) (G0 : List Nat), e = .returned q0 ∧ Below w0.heap.size w0 w' ∧ Sep w0.heap.size w' [R.own ty_3 G0 q0 r] := by
  refine calls_mk' Try.func111 rfl Try.ntmps111 rfl rfl fun Q hQ hP => ?_
  have hB : Below w0.heap.size w0 w0 := Below.refl _ _
  have hS : Sep w0.heap.size w0 [] := Sep.nil _ _
  unfold F_spec_swWide at hF
  refine W.seq fun K1 hK1 => ?_
  refine W.region ?_
  refine wl_box (cs := [v0_0, v0_1, (.int .i64 x0.2.2.1), (.int .i64 x0.2.2.2)]) rfl rfl rfl hB hS ?_
  intro b2 w3 hb4 hB5 hS6
  refine wl_assign rfl rfl ?_
  refine WL.nil ?_
  refine fun a ha => hK1 _ _ ?_ a ha
  refine W.seq fun K7 hK7 => ?_
  refine W.region ?_
  refine wl_assign rfl rfl ?_
  refine WL.nil ?_
  refine fun a ha => hK7 _ _ ?_ a ha
  refine W.seq fun K8 hK8 => ?_
  refine W.seq fun K9 hK9 => ?_
  refine W.region ?_
  refine wl_load_blk (i := 0) (vs := [v0_0, v0_1, (.int .i64 x0.2.2.1), (.int .i64 x0.2.2.2)]) (v := (.agg #[v0_0, v0_1, (.int .i64 x0.2.2.1), (.int .i64 x0.2.2.2)])) tf_31 rfl rfl hS6 rfl rfl rfl ?_
  refine wl_move rfl rfl ?_
  obtain ⟨u10, hu10, hF⟩ := bindE hF
  refine wl_call rfl Try.call73 (C_spec_swMoves w3 x0 v0_0 (h0_0.ro hB5) v0_1 (h0_1.ro hB5) x1 _ hu10) rfl ?_
  rintro _ w13 ⟨v11, F12, rfl, hb14, hM17⟩
  refine ⟨_, rfl, ?_⟩
  have hB15 := hB5.trans (hb14.mono hB5.size)
  have hS16 := hS6.join hb14 hM17 hB5.size
  refine wl_lenr (e := ty_96) (l := u10) Try.underlying87 rfl rfl (hS16.own_ro (i := 0) rfl) ?_
  refine wl_move rfl rfl ?_
  refine WL.nil ?_
  refine fun a ha => hK9 _ _ ?_ a ha
  refine W.block ?_
  refine W.loopk (fun m a w18 => ∃ (l21 : (List Int)) (y24 : Int) (v22 : Value) (F23 : List Nat), St 28 [(2, (.pointer (some ⟨b2, 0, none⟩))), (5, v22), (10, v11), (11, (.int .i64 (List.length u10 : Int))), (12, (.int .i64 y24))] a ∧ Below w0.heap.size w0 w18 ∧ Sep w0.heap.size w18 [R.blk b2 31 [v0_0, v0_1, (.int .i64 x0.2.2.1), (.int .i64 x0.2.2.2)], R.own ty_3 F23 v22 l21, R.own ty_96 F12 v11 u10] ∧ F_spec_swWide_L1 u10 x0 m l21 y24 = some r) FU ?_ ?_
  ·
    have hS26 := hS16.push0 (r := R.own ty_3 [] (.slice none 0 0) []) rfl fun _ => .inl ⟨rfl, rfl, rfl⟩
    exact fun a ha => ⟨[], 0, (.slice none 0 0), [], ha.sub ⟨rfl, rfl, rfl, rfl, rfl, trivial⟩, hB15, (hS26.sel [2, 0, 1] rfl), hF⟩
  ·
    rintro m28 a w18 ⟨l21, y24, v22, F23, ha, hB19, hS20, hF⟩ KL27 hKL27
    refine W.at ?_ ha
    cases m28 with
    | zero => exact noneE hF
    | succ m28 =>
      obtain ⟨nx25, hnx25⟩ : ∃ k, k = F_spec_swWide_L1 u10 x0 m28 := ⟨_, rfl⟩
      rw [F_spec_swWide_L1, ← hnx25] at hF
      refine W.seq fun K29 hK29 => ?_
      refine W.region ?_
      refine wl_lss rfl rfl rfl ?_
      refine WL.nil ?_
      refine fun a ha => hK29 _ _ ?_ a ha
      refine W.seq fun K30 hK30 => ?_
      refine W.cond rfl (fun h31 => ?_) (fun h31 => ?_)
      · replace hF := ifP h31 hF
        refine W.skip ?_
        refine fun a ha => hK30 _ _ ?_ a ha
        refine W.seq fun K32 hK32 => ?_
        obtain ⟨k39, hk39, hF⟩ := jE1 hF
        have hJ40 : ∀ (l36 : (List Int)) (v37 : Value) (F38 : List Nat) (w33 : World) (_ : k39 l36 = some r) (_ : Below w0.heap.size w0 w33) (_ : Sep w0.heap.size w33 [R.blk b2 31 [v0_0, v0_1, (.int .i64 x0.2.2.1), (.int .i64 x0.2.2.2)], R.own ty_3 F38 v37 l36, R.own ty_96 F12 v11 u10]), ∀ a, St 28 [(2, (.pointer (some ⟨b2, 0, none⟩))), (5, v37), (10, v11), (11, (.int .i64 (List.length u10 : Int))), (12, (.int .i64 y24))] a → K32 a w33 := by
          intro l36 v37 F38 w33 hF hB34 hS35
          subst hk39
          refine fun a ha => hK32 _ _ ?_ a ha
          refine W.region ?_
          refine wl_add rfl rfl rfl ?_
          refine wl_move rfl rfl ?_
          refine WL.nil ?_
          rw [hnx25] at hF
          exact fun a ha => hKL27 a _ m28 (Nat.lt_succ_self m28) ⟨l36, (w64 (y24 + 1)), v37, F38, ha.sub ⟨rfl, rfl, rfl, rfl, rfl, trivial⟩, hB34, (hS35.sel [0, 1, 2] rfl), hF⟩
        refine W.block ?_
        refine W.seq fun K41 hK41 => ?_
        refine W.region ?_
        refine wl_move rfl rfl ?_
        obtain ⟨u42, hu42, hF⟩ := bindE hF
        refine wl_indexo (e := ty_96) (i := 2) Try.underlying87 rfl rfl rfl hS20 rfl hu42 ?_
        rintro p43 _ rfl hp44 ho45
        refine wl_load_p (vs := [(.int .i64 u42.1.1), (.int .i64 u42.1.2), (.int .i64 u42.2.1.1), (.int .i64 u42.2.1.2), (.int .i64 u42.2.2)]) (v := (.agg #[(.int .i64 u42.1.1), (.int .i64 u42.1.2), (.int .i64 u42.2.1.1), (.int .i64 u42.2.1.2), (.int .i64 u42.2.2)])) tf_96 rfl rfl hp44 rfl rfl ?_
        refine wl_alloc (cs := [(.int .i64 0), (.int .i64 0), (.int .i64 0), (.int .i64 0), (.int .i64 0)]) tf_96 rfl rfl hB19 hS20 ?_
        intro b46 w47 hb48 hB49 hS50
        refine wl_assign rfl rfl ?_
        refine wl_store_blk (i := 0) (vs := [(.int .i64 u42.1.1), (.int .i64 u42.1.2), (.int .i64 u42.2.1.1), (.int .i64 u42.2.1.2), (.int .i64 u42.2.2)]) (cs' := [(.int .i64 u42.1.1), (.int .i64 u42.1.2), (.int .i64 u42.2.1.1), (.int .i64 u42.2.1.2), (.int .i64 u42.2.2)]) tf_96 rfl rfl rfl rfl hB49 hS50 rfl rfl ⟨rfl, rfl, rfl, rfl, rfl, trivial⟩ rfl ?_
        intro w51 hk54 hB52 hS53
        refine WL.nil ?_
        refine fun a ha => hK41 _ _ ?_ a ha
        refine W.seq fun K55 hK55 => ?_
        refine W.region ?_
        refine wl_load_blk (i := 0) (vs := [(.int .i64 u42.1.1), (.int .i64 u42.1.2), (.int .i64 u42.2.1.1), (.int .i64 u42.2.1.2), (.int .i64 u42.2.2)]) (v := (.agg #[(.int .i64 u42.1.1), (.int .i64 u42.1.2), (.int .i64 u42.2.1.1), (.int .i64 u42.2.1.2), (.int .i64 u42.2.2)])) tf_96 rfl rfl hS53 rfl rfl rfl ?_
        refine wl_field (o := 3) (off' := 3) ff_31_3 rfl rfl rfl ?_
        refine wl_load_blk (i := 1) (vs := [(.int .i64 x0.2.2.2)]) (v := (.int .i64 x0.2.2.2)) tf_3 rfl rfl hS53 rfl rfl rfl ?_
        obtain ⟨u56, hu56, hF⟩ := bindE hF
        refine wl_call rfl Try.call144 (C_spec_mvWithin w51 u42 x0.2.2.2 _ hu56) rfl ?_
        rintro _ w57 ⟨rfl, hb58⟩
        refine ⟨_, rfl, ?_⟩
        have hB59 := hB52.trans (hb58.mono hB52.size)
        have hS60 := hS53.below hb58
        refine wl_not rfl rfl ?_
        refine WL.nil ?_
        refine fun a ha => hK55 _ _ ?_ a ha
        refine W.cond rfl (fun h62 => ?_) (fun h62 => ?_)
        · replace hF := ifP h62 hF
          refine W.region ?_
          refine wl_move rfl rfl ?_
          refine wl_move rfl rfl ?_
          refine wl_lit (vs := [(.int .i64 y24)]) (l := [y24]) fl_3 Try.underlying23 rfl rfl rfl rfl rfl rfl hB59 hS60 ?_
          intro v63 F64 w65 hb66 hB67 hS68
          obtain ⟨u69, hu69, hF⟩ := bindE hF
          refine wl_append (i := 3) (S := (· < w65.heap.size)) fl_3 Try.underlying23 rfl rfl rfl hB67 hS68 rfl (hS68.own_ro (i := 0) rfl) hu69 ?_
          intro v70 F71 w72 hk73 hB74 hS75
          refine wl_assign rfl rfl ?_
          refine WL.nil ?_
          exact fun a ha => hJ40 (u69) (v70) (F71) _ hF hB74 (hS75.sel [2, 3, 4] rfl) a (ha.sub ⟨rfl, rfl, rfl, rfl, rfl, trivial⟩)
        · replace hF := ifN h62 hF
          refine W.skip ?_
          exact fun a ha => hJ40 (l21) (v22) (F23) _ hF hB59 (hS60.sel [1, 2, 3] rfl) a (ha.sub ⟨rfl, rfl, rfl, rfl, rfl, trivial⟩)
      · replace hF := ifN h31 hF
        refine W.exit ?_
        refine fun a ha => hK8 _ _ ?_ a ha
        refine W.seq fun K76 hK76 => ?_
        refine W.region ?_
        refine wl_move rfl rfl ?_
        refine wl_assign rfl rfl ?_
        refine WL.nil ?_
        refine fun a ha => hK76 _ _ ?_ a ha
        refine W.ret ?_
        have hr := Option.some.inj hF
        subst hr
        exact rets (vs := [v22]) hQ rfl ⟨rv_tmp rfl, trivial⟩ ⟨v22, F23, rfl, hB19, hS20.sel [1] rfl⟩
theorem C_spec_swUnsafe (w0 : World) (x0 : ((List (List (Int × Int))) × (List Int) × Int × Int)) (v0_0 : Value) (h0_0 : rdS ty_70 (· < w0.heap.size) w0 v0_0 x0.1) (v0_1 : Value) (h0_1 : rdS ty_3 (· < w0.heap.size) w0 v0_1 x0.2.1) (r : (List Int)) (hF : F_spec_swUnsafe x0 = some r) :
    Calls Try.prog 64 [(.agg #[v0_0, v0_1, (.int .i64 x0.2.2.1), (.int .i64 x0.2.2.2)])].toArray w0 fun e w' => ∃ (q0 : Value) (G0 : List Nat), e = .returned q0 ∧ Below w0.heap.size w0 w' ∧ Sep w0.heap.size w' [R.own ty_3 G0 q0 r] := by
  refine calls_mk' Try.func64 rfl Try.ntmps64 rfl rfl fun Q hQ hP => ?_
  have hB : Below w0.heap.size w0 w0 := Below.refl _ _
  have hS : Sep w0.heap.size w0 [] := Sep.nil _ _
  unfold F_spec_swUnsafe at hF
  refine W.seq fun K1 hK1 => ?_
  refine W.region ?_
  refine wl_box (cs := [v0_0, v0_1, (.int .i64 x0.2.2.1), (.int .i64 x0.2.2.2)]) rfl rfl rfl hB hS ?_
  intro b2 w3 hb4 hB5 hS6
  refine wl_assign rfl rfl ?_
  refine WL.nil ?_
  refine fun a ha => hK1 _ _ ?_ a ha
  refine W.seq fun K7 hK7 => ?_
  refine W.region ?_
  refine wl_assign rfl rfl ?_
  refine WL.nil ?_
  refine fun a ha => hK7 _ _ ?_ a ha
  refine W.seq fun K8 hK8 => ?_
  refine W.seq fun K9 hK9 => ?_
  refine W.region ?_
  refine wl_field (o := 1) (off' := 1) ff_31_1 rfl rfl rfl ?_
  refine wl_load_blk (i := 0) (vs := [v0_1]) (v := v0_1) tf_23 rfl rfl hS6 rfl rfl rfl ?_
  refine wl_lenr (e := ty_3) (l := x0.2.1) Try.underlying23 rfl rfl h0_1 ?_
  refine wl_move rfl rfl ?_
  refine WL.nil ?_
  refine fun a ha => hK9 _ _ ?_ a ha
  refine W.block ?_
  refine W.loopk (fun m a w10 => ∃ (l13 : (List Int)) (y16 : Int) (v14 : Value) (F15 : List Nat), St 27 [(1, (.pointer (some ⟨b2, 0, none⟩))), (3, v14), (7, (.int .i64 (List.length x0.2.1 : Int))), (8, (.int .i64 y16))] a ∧ Below w0.heap.size w0 w10 ∧ Sep w0.heap.size w10 [R.blk b2 31 [v0_0, v0_1, (.int .i64 x0.2.2.1), (.int .i64 x0.2.2.2)], R.own ty_3 F15 v14 l13] ∧ F_spec_swUnsafe_L1 x0 m l13 y16 = some r) FU ?_ ?_
  ·
    have hS18 := hS6.push0 (r := R.own ty_3 [] (.slice none 0 0) []) rfl fun _ => .inl ⟨rfl, rfl, rfl⟩
    exact fun a ha => ⟨[], 0, (.slice none 0 0), [], ha.sub ⟨rfl, rfl, rfl, rfl, trivial⟩, hB5, (hS18.sel [1, 0] rfl), hF⟩
  ·
    rintro m20 a w10 ⟨l13, y16, v14, F15, ha, hB11, hS12, hF⟩ KL19 hKL19
    refine W.at ?_ ha
    cases m20 with
    | zero => exact noneE hF
    | succ m20 =>
      obtain ⟨nx17, hnx17⟩ : ∃ k, k = F_spec_swUnsafe_L1 x0 m20 := ⟨_, rfl⟩
      rw [F_spec_swUnsafe_L1, ← hnx17] at hF
      refine W.seq fun K21 hK21 => ?_
      refine W.region ?_
      refine wl_lss rfl rfl rfl ?_
      refine WL.nil ?_
      refine fun a ha => hK21 _ _ ?_ a ha
      refine W.seq fun K22 hK22 => ?_
      refine W.cond rfl (fun h23 => ?_) (fun h23 => ?_)
      · replace hF := ifP h23 hF
        refine W.skip ?_
        refine fun a ha => hK22 _ _ ?_ a ha
        refine W.seq fun K24 hK24 => ?_
        obtain ⟨k31, hk31, hF⟩ := jE1 hF
        have hJ32 : ∀ (l28 : (List Int)) (v29 : Value) (F30 : List Nat) (w25 : World) (_ : k31 l28 = some r) (_ : Below w0.heap.size w0 w25) (_ : Sep w0.heap.size w25 [R.blk b2 31 [v0_0, v0_1, (.int .i64 x0.2.2.1), (.int .i64 x0.2.2.2)], R.own ty_3 F30 v29 l28]), ∀ a, St 27 [(1, (.pointer (some ⟨b2, 0, none⟩))), (3, v29), (7, (.int .i64 (List.length x0.2.1 : Int))), (8, (.int .i64 y16))] a → K24 a w25 := by
          intro l28 v29 F30 w25 hF hB26 hS27
          subst hk31
          refine fun a ha => hK24 _ _ ?_ a ha
          refine W.region ?_
          refine wl_add rfl rfl rfl ?_
          refine wl_move rfl rfl ?_
          refine WL.nil ?_
          rw [hnx17] at hF
          exact fun a ha => hKL19 a _ m20 (Nat.lt_succ_self m20) ⟨l28, (w64 (y16 + 1)), v29, F30, ha.sub ⟨rfl, rfl, rfl, rfl, trivial⟩, hB26, (hS27.sel [0, 1] rfl), hF⟩
        refine W.block ?_
        refine W.seq fun K33 hK33 => ?_
        refine W.region ?_
        refine wl_move rfl rfl ?_
        refine wl_assign rfl rfl ?_
        refine WL.nil ?_
        refine fun a ha => hK33 _ _ ?_ a ha
        refine W.seq fun K34 hK34 => ?_
        refine W.regionH mixed_ [] hB11 hS12 ?_
        intro w35 hb36 hB37 hS38
        have hSW39 := KeepX.refl w35 []
        refine WH.takex (i := 0) rfl (by kernel_rfl) (by kernel_rfl) (by kernel_rfl) hP hSW39 ?_
        refine pr_load_blk (i := 0) (vs := [v0_0, v0_1, (.int .i64 x0.2.2.1), (.int .i64 x0.2.2.2)]) (v := (.agg #[v0_0, v0_1, (.int .i64 x0.2.2.1), (.int .i64 x0.2.2.2)])) tf_31 rfl rfl hS38 rfl rfl rfl (by simp) ?_
        refine WH.takex (i := 1) rfl (by kernel_rfl) (by kernel_rfl) (by kernel_rfl) hP hSW39 ?_
        refine pr_move rfl rfl ?_
        refine WH.takex (i := 4) rfl (by kernel_rfl) (by kernel_rfl) (by kernel_rfl) hP hSW39 ?_
        refine pr_load_blk (i := 0) (vs := [v0_0, v0_1, (.int .i64 x0.2.2.1), (.int .i64 x0.2.2.2)]) (v := (.agg #[v0_0, v0_1, (.int .i64 x0.2.2.1), (.int .i64 x0.2.2.2)])) tf_31 rfl rfl hS38 rfl rfl rfl (by simp) ?_
        refine WH.takex (i := 5) rfl (by kernel_rfl) (by kernel_rfl) (by kernel_rfl) hP hSW39 ?_
        refine pr_move rfl rfl ?_
        refine WH.one (i := 2) (by kernel_rfl) rfl ?_
        obtain ⟨u40, hu40, hF⟩ := bindE hF
        refine wl_call rfl Try.call79 (C_spec_swClose w35 x0 v0_0 (h0_0.ro hB37) v0_1 (h0_1.ro hB37) y16 _ hu40) rfl ?_
        rintro _ w43 ⟨v41, F42, rfl, hb44, hM47⟩
        refine ⟨_, rfl, ?_⟩
        have hB45 := hB37.trans (hb44.mono hB37.size)
        have hS46 := hS38.join hb44 hM47 hB37.size
        have hSW48 := hSW39.ext hb44
        refine WL.nil (WH.ret hSW48 ?_)
        refine WH.takex (i := 3) rfl (by kernel_rfl) (by kernel_rfl) (by kernel_rfl) hP hSW48 ?_
        refine pr_lenr (e := ty_23) (l := u40) Try.underlying39 rfl rfl (hS46.own_ro (i := 0) rfl) ?_
        refine WH.one (i := 6) (by kernel_rfl) rfl ?_
        obtain ⟨u49, hu49, hF⟩ := bindE hF
        refine wl_call rfl Try.call111 (C_spec_swWide w43 x0 v0_0 (h0_0.ro hB45) v0_1 (h0_1.ro hB45) y16 _ hu49) rfl ?_
        rintro _ w52 ⟨v50, F51, rfl, hb53, hM56⟩
        refine ⟨_, rfl, ?_⟩
        have hB54 := hB45.trans (hb53.mono hB45.size)
        have hS55 := hS46.join hb53 hM56 hB45.size
        have hSW57 := hSW48.ext hb53
        refine WL.nil (WH.ret hSW57 ?_)
        refine WH.takex (i := 7) rfl (by kernel_rfl) (by kernel_rfl) (by kernel_rfl) hP hSW57 ?_
        refine pr_lenr (e := ty_3) (l := u49) Try.underlying23 rfl rfl (hS55.own_ro (i := 0) rfl) ?_
        refine WH.takex (i := 8) rfl (by kernel_rfl) (by kernel_rfl) (by kernel_rfl) hP hSW57 ?_
        refine pr_add rfl rfl rfl ?_
        refine WH.takex (i := 9) rfl (by kernel_rfl) (by kernel_rfl) (by kernel_rfl) hP hSW57 ?_
        refine pr_gtr rfl rfl rfl ?_
        refine WH.done (by kernel_rfl) ?_
        refine fun a ha => hK34 _ _ ?_ a ha
        refine W.cond rfl (fun h58 => ?_) (fun h58 => ?_)
        · replace hF := ifP h58 hF
          refine W.region ?_
          refine wl_move rfl rfl ?_
          refine wl_move rfl rfl ?_
          refine wl_lit (vs := [(.int .i64 y16)]) (l := [y16]) fl_3 Try.underlying23 rfl rfl rfl rfl rfl rfl hB54 hS55 ?_
          intro v59 F60 w61 hb62 hB63 hS64
          obtain ⟨u65, hu65, hF⟩ := bindE hF
          refine wl_append (i := 4) (S := (· < w61.heap.size)) fl_3 Try.underlying23 rfl rfl rfl hB63 hS64 rfl (hS64.own_ro (i := 0) rfl) hu65 ?_
          intro v66 F67 w68 hk69 hB70 hS71
          refine wl_assign rfl rfl ?_
          refine WL.nil ?_
          exact fun a ha => hJ32 (u65) (v66) (F67) _ hF hB70 (hS71.sel [3, 4] rfl) a (ha.sub ⟨rfl, rfl, rfl, rfl, trivial⟩)
        · replace hF := ifN h58 hF
          refine W.skip ?_
          exact fun a ha => hJ32 (l13) (v14) (F15) _ hF hB54 (hS55.sel [2, 3] rfl) a (ha.sub ⟨rfl, rfl, rfl, rfl, trivial⟩)
      · replace hF := ifN h23 hF
        refine W.exit ?_
        refine fun a ha => hK8 _ _ ?_ a ha
        refine W.seq fun K72 hK72 => ?_
        refine W.region ?_
        refine wl_move rfl rfl ?_
        refine wl_assign rfl rfl ?_
        refine WL.nil ?_
        refine fun a ha => hK72 _ _ ?_ a ha
        refine W.ret ?_
        have hr := Option.some.inj hF
        subst hr
        exact rets (vs := [v14]) hQ rfl ⟨rv_tmp rfl, trivial⟩ ⟨v14, F15, rfl, hB11, hS12.sel [1] rfl⟩
theorem C_spec_CanPublish (w0 : World) (x0 : ((List (List (Int × Int))) × (List Int) × Int × Int)) (v0_0 : Value) (h0_0 : rdS ty_70 (· < w0.heap.size) w0 v0_0 x0.1) (v0_1 : Value) (h0_1 : rdS ty_3 (· < w0.heap.size) w0 v0_1 x0.2.1) (r : (Bool × Bool)) (hF : F_spec_CanPublish x0 = some r) :
    Calls Try.prog 16 [(.agg #[v0_0, v0_1, (.int .i64 x0.2.2.1), (.int .i64 x0.2.2.2)])].toArray w0 fun e w' => e = .returned (.tuple #[(.bool r.1), (.bool r.2)]) ∧ Below w0.heap.size w0 w' := by
  refine calls_mk' Try.func16 rfl Try.ntmps16 rfl rfl fun Q hQ hP => ?_
  have hB : Below w0.heap.size w0 w0 := Below.refl _ _
  have hS : Sep w0.heap.size w0 [] := Sep.nil _ _
  unfold F_spec_CanPublish at hF
  refine W.seq fun K1 hK1 => ?_
  refine W.region ?_
  refine wl_box (cs := [v0_0, v0_1, (.int .i64 x0.2.2.1), (.int .i64 x0.2.2.2)]) rfl rfl rfl hB hS ?_
  intro b2 w3 hb4 hB5 hS6
  refine wl_assign rfl rfl ?_
  refine wl_assign rfl rfl ?_
  refine WL.nil ?_
  refine fun a ha => hK1 _ _ ?_ a ha
  refine W.seq fun K7 hK7 => ?_
  refine W.seq fun K8 hK8 => ?_
  refine W.region ?_
  refine wl_load_blk (i := 0) (vs := [v0_0, v0_1, (.int .i64 x0.2.2.1), (.int .i64 x0.2.2.2)]) (v := (.agg #[v0_0, v0_1, (.int .i64 x0.2.2.1), (.int .i64 x0.2.2.2)])) tf_31 rfl rfl hS6 rfl rfl rfl ?_
  obtain ⟨u9, hu9, hF⟩ := bindE hF
  refine wl_call rfl Try.call63 (C_spec_swGood w3 x0 v0_0 (h0_0.ro hB5) v0_1 (h0_1.ro hB5) _ hu9) rfl ?_
  rintro _ w10 ⟨rfl, hb11⟩
  refine ⟨_, rfl, ?_⟩
  have hB12 := hB5.trans (hb11.mono hB5.size)
  have hS13 := hS6.below hb11
  refine wl_not rfl rfl ?_
  refine WL.nil ?_
  refine fun a ha => hK8 _ _ ?_ a ha
  refine W.cond rfl (fun h15 => ?_) (fun h15 => ?_)
  · replace hF := ifP h15 hF
    refine W.seq fun K16 hK16 => ?_
    refine W.region ?_
    refine wl_assign rfl rfl ?_
    refine wl_assign rfl rfl ?_
    refine WL.nil ?_
    refine fun a ha => hK16 _ _ ?_ a ha
    refine W.ret ?_
    have hr := Option.some.inj hF
    subst hr
    exact rets (vs := [(.bool false), (.bool false)]) hQ rfl ⟨rv_tmp rfl, rv_tmp rfl, trivial⟩ ⟨rfl, hB12⟩
  · replace hF := ifN h15 hF
    refine W.skip ?_
    refine fun a ha => hK7 _ _ ?_ a ha
    refine W.seq fun K17 hK17 => ?_
    refine W.region ?_
    refine wl_load_blk (i := 0) (vs := [v0_0, v0_1, (.int .i64 x0.2.2.1), (.int .i64 x0.2.2.2)]) (v := (.agg #[v0_0, v0_1, (.int .i64 x0.2.2.1), (.int .i64 x0.2.2.2)])) tf_31 rfl rfl hS13 rfl rfl rfl ?_
    obtain ⟨u18, hu18, hF⟩ := bindE hF
    refine wl_call rfl Try.call64 (C_spec_swUnsafe w10 x0 v0_0 (h0_0.ro hB12) v0_1 (h0_1.ro hB12) _ hu18) rfl ?_
    rintro _ w21 ⟨v19, F20, rfl, hb22, hM25⟩
    refine ⟨_, rfl, ?_⟩
    have hB23 := hB12.trans (hb22.mono hB12.size)
    have hS24 := hS13.join hb22 hM25 hB12.size
    refine wl_lenr (e := ty_3) (l := u18) Try.underlying23 rfl rfl (hS24.own_ro (i := 0) rfl) ?_
    refine wl_eql rfl rfl rfl ?_
    refine wl_assign rfl rfl ?_
    refine wl_assign rfl rfl ?_
    refine WL.nil ?_
    refine fun a ha => hK17 _ _ ?_ a ha
    refine W.ret ?_
    have hr := Option.some.inj hF
    subst hr
    exact rets (vs := [(.bool ((List.length u18 : Int) == 0)), (.bool true)]) hQ rfl ⟨rv_tmp rfl, rv_tmp rfl, trivial⟩ ⟨rfl, hB23⟩
theorem C_impl_withinStep (w0 : World) (x0 : ((Int × Int) × (Int × Int) × Int)) (x1 : Int) (r : Bool) (hF : F_impl_withinStep x0 x1 = some r) :
    Calls Try.prog 147 [(.agg #[(.int .i64 x0.1.1), (.int .i64 x0.1.2), (.int .i64 x0.2.1.1), (.int .i64 x0.2.1.2), (.int .i64 x0.2.2)]), (.int .i64 x1)].toArray w0 fun e w' => e = .returned (.bool r) ∧ Below w0.heap.size w0 w' := by
  refine calls_mk' Try.func147 rfl Try.ntmps147 rfl rfl fun Q hQ hP => ?_
  have hB : Below w0.heap.size w0 w0 := Below.refl _ _
  have hS : Sep w0.heap.size w0 [] := Sep.nil _ _
  unfold F_impl_withinStep at hF
  refine W.seq fun K1 hK1 => ?_
  refine W.region ?_
  refine wl_box (cs := [(.int .i64 x0.1.1), (.int .i64 x0.1.2), (.int .i64 x0.2.1.1), (.int .i64 x0.2.1.2), (.int .i64 x0.2.2)]) rfl rfl rfl hB hS ?_
  intro b2 w3 hb4 hB5 hS6
  refine wl_assign rfl rfl ?_
  refine WL.nil ?_
  refine fun a ha => hK1 _ _ ?_ a ha
  refine W.seq fun K7 hK7 => ?_
  refine W.regionH mixed_ [] hB5 hS6 ?_
  intro w8 hb9 hB10 hS11
  have hSW12 := KeepX.refl w8 []
  refine WH.takex (i := 0) rfl (by kernel_rfl) (by kernel_rfl) (by kernel_rfl) hP hSW12 ?_
  refine pr_field (o := 0) (off' := 0) ff_96_0 rfl rfl rfl ?_
  refine WH.takex (i := 1) rfl (by kernel_rfl) (by kernel_rfl) (by kernel_rfl) hP hSW12 ?_
  refine pr_load_blk (i := 0) (vs := [(.int .i64 x0.1.1), (.int .i64 x0.1.2)]) (v := (.agg #[(.int .i64 x0.1.1), (.int .i64 x0.1.2)])) tf_54 rfl rfl hS11 rfl rfl rfl (by simp) ?_
  refine WH.takex (i := 2) rfl (by kernel_rfl) (by kernel_rfl) (by kernel_rfl) hP hSW12 ?_
  refine pr_field (o := 2) (off' := 2) ff_96_1 rfl rfl rfl ?_
  refine WH.takex (i := 3) rfl (by kernel_rfl) (by kernel_rfl) (by kernel_rfl) hP hSW12 ?_
  refine pr_load_blk (i := 0) (vs := [(.int .i64 x0.2.1.1), (.int .i64 x0.2.1.2)]) (v := (.agg #[(.int .i64 x0.2.1.1), (.int .i64 x0.2.1.2)])) tf_54 rfl rfl hS11 rfl rfl rfl (by simp) ?_
  refine WH.takex (i := 5) rfl (by kernel_rfl) (by kernel_rfl) (by kernel_rfl) hP hSW12 ?_
  refine pr_move rfl rfl ?_
  refine WH.takex (i := 6) rfl (by kernel_rfl) (by kernel_rfl) (by kernel_rfl) hP hSW12 ?_
  refine pr_move rfl rfl ?_
  refine WH.takex (i := 7) rfl (by kernel_rfl) (by kernel_rfl) (by kernel_rfl) hP hSW12 ?_
  refine pr_mul rfl rfl rfl ?_
  refine WH.takex (i := 8) rfl (by kernel_rfl) (by kernel_rfl) (by kernel_rfl) hP hSW12 ?_
  refine pr_field (o := 4) (off' := 4) ff_96_2 rfl rfl rfl ?_
  refine WH.takex (i := 9) rfl (by kernel_rfl) (by kernel_rfl) (by kernel_rfl) hP hSW12 ?_
  refine pr_load_blk (i := 0) (vs := [(.int .i64 x0.2.2)]) (v := (.int .i64 x0.2.2)) tf_3 rfl rfl hS11 rfl rfl rfl (by simp) ?_
  refine WH.takex (i := 10) rfl (by kernel_rfl) (by kernel_rfl) (by kernel_rfl) hP hSW12 ?_
  refine pr_mul rfl rfl rfl ?_
  refine WH.takex (i := 11) rfl (by kernel_rfl) (by kernel_rfl) (by kernel_rfl) hP hSW12 ?_
  refine pr_field (o := 4) (off' := 4) ff_96_2 rfl rfl rfl ?_
  refine WH.takex (i := 12) rfl (by kernel_rfl) (by kernel_rfl) (by kernel_rfl) hP hSW12 ?_
  refine pr_load_blk (i := 0) (vs := [(.int .i64 x0.2.2)]) (v := (.int .i64 x0.2.2)) tf_3 rfl rfl hS11 rfl rfl rfl (by simp) ?_
  refine WH.takex (i := 13) rfl (by kernel_rfl) (by kernel_rfl) (by kernel_rfl) hP hSW12 ?_
  refine pr_mul rfl rfl rfl ?_
  refine WH.one (i := 4) (by kernel_rfl) rfl ?_
  obtain ⟨u13, hu13, hF⟩ := bindE hF
  refine wl_call rfl Try.call99 (C_impl_squareOf w8 x0.1 x0.2.1 _ hu13) rfl ?_
  rintro _ w14 ⟨rfl, hb15⟩
  refine ⟨_, rfl, ?_⟩
  have hB16 := hB10.trans (hb15.mono hB10.size)
  have hS17 := hS11.below hb15
  have hSW19 := hSW12.ext hb15
  refine WL.nil (WH.ret hSW19 ?_)
  refine WH.takex (i := 14) rfl (by kernel_rfl) (by kernel_rfl) (by kernel_rfl) hP hSW19 ?_
  refine pr_leq rfl rfl rfl ?_
  refine WH.takex (i := 15) rfl (by kernel_rfl) (by kernel_rfl) (by kernel_rfl) hP hSW19 ?_
  refine pr_assign rfl rfl ?_
  refine WH.done (by kernel_rfl) ?_
  refine fun a ha => hK7 _ _ ?_ a ha
  refine W.ret ?_
  have hr := Option.some.inj hF
  subst hr
  exact rets (vs := [(.bool (decide (u13 ≤ (w64 ((w64 ((w64 (x1 * x1)) * x0.2.2)) * x0.2.2)))))]) hQ rfl ⟨rv_tmp rfl, trivial⟩ ⟨rfl, hB16⟩
theorem C_impl_wideSteps (w0 : World) (x0 : ((List (List (Int × Int))) × (List Int) × Int × Int)) (v0_0 : Value) (h0_0 : rdS ty_70 (· < w0.heap.size) w0 v0_0 x0.1) (v0_1 : Value) (h0_1 : rdS ty_3 (· < w0.heap.size) w0 v0_1 x0.2.1) (x1 : Int) (r : (List Int)) (hF : F_impl_wideSteps x0 x1 = some r) :
    Calls Try.prog 116 [(.agg #[v0_0, v0_1, (.int .i64 x0.2.2.1), (.int .i64 x0.2.2.2)]), (.int .i64 x1)].toArray w0 fun e w' => ∃ (q0 : Value) (G0 : List Nat), e = .returned q0 ∧ Below w0.heap.size w0 w' ∧ Sep w0.heap.size w' [R.own ty_3 G0 q0 r] := by
  refine calls_mk' Try.func116 rfl Try.ntmps116 rfl rfl fun Q hQ hP => ?_
  have hB : Below w0.heap.size w0 w0 := Below.refl _ _
  have hS : Sep w0.heap.size w0 [] := Sep.nil _ _
  unfold F_impl_wideSteps at hF
  refine W.seq fun K1 hK1 => ?_
  refine W.region ?_
  refine wl_box (cs := [v0_0, v0_1, (.int .i64 x0.2.2.1), (.int .i64 x0.2.2.2)]) rfl rfl rfl hB hS ?_
  intro b2 w3 hb4 hB5 hS6
  refine wl_assign rfl rfl ?_
  refine WL.nil ?_
  refine fun a ha => hK1 _ _ ?_ a ha
  refine W.seq fun K7 hK7 => ?_
  refine W.region ?_
  refine wl_lit (vs := []) (l := []) fl_3 Try.underlying23 rfl rfl rfl rfl rfl rfl hB5 hS6 ?_
  intro v8 F9 w10 hb11 hB12 hS13
  refine wl_assign rfl rfl ?_
  refine WL.nil ?_
  refine fun a ha => hK7 _ _ ?_ a ha
  refine W.seq fun K14 hK14 => ?_
  refine W.seq fun K15 hK15 => ?_
  refine W.region ?_
  refine wl_load_blk (i := 1) (vs := [v0_0, v0_1, (.int .i64 x0.2.2.1), (.int .i64 x0.2.2.2)]) (v := (.agg #[v0_0, v0_1, (.int .i64 x0.2.2.1), (.int .i64 x0.2.2.2)])) tf_31 rfl rfl hS13 rfl rfl rfl ?_
  refine wl_move rfl rfl ?_
  obtain ⟨u16, hu16, hF⟩ := bindE hF
  refine wl_call rfl Try.call70 (C_impl_showMoves w10 x0 v0_0 (h0_0.ro hB12) v0_1 (h0_1.ro hB12) x1 _ hu16) rfl ?_
  rintro _ w19 ⟨v17, F18, rfl, hb20, hM23⟩
  refine ⟨_, rfl, ?_⟩
  have hB21 := hB12.trans (hb20.mono hB12.size)
  have hS22 := hS13.join hb20 hM23 hB12.size
  refine wl_lenr (e := ty_96) (l := u16) Try.underlying87 rfl rfl (hS22.own_ro (i := 0) rfl) ?_
  refine wl_move rfl rfl ?_
  refine WL.nil ?_
  refine fun a ha => hK15 _ _ ?_ a ha
  refine W.block ?_
  refine W.loopk (fun m a w24 => ∃ (l27 : (List Int)) (y30 : Int) (v28 : Value) (F29 : List Nat), St 29 [(2, (.pointer (some ⟨b2, 0, none⟩))), (5, v28), (11, v17), (12, (.int .i64 (List.length u16 : Int))), (13, (.int .i64 y30))] a ∧ Below w0.heap.size w0 w24 ∧ Sep w0.heap.size w24 [R.blk b2 31 [v0_0, v0_1, (.int .i64 x0.2.2.1), (.int .i64 x0.2.2.2)], R.own ty_3 F29 v28 l27, R.own ty_96 F18 v17 u16] ∧ F_impl_wideSteps_L1 u16 x0 m l27 y30 = some r) FU ?_ ?_
  ·
    exact fun a ha => ⟨[], 0, v8, F9, ha.sub ⟨rfl, rfl, rfl, rfl, rfl, trivial⟩, hB21, (hS22.sel [2, 1, 0] rfl), hF⟩
  ·
    rintro m33 a w24 ⟨l27, y30, v28, F29, ha, hB25, hS26, hF⟩ KL32 hKL32
    refine W.at ?_ ha
    cases m33 with
    | zero => exact noneE hF
    | succ m33 =>
      obtain ⟨nx31, hnx31⟩ : ∃ k, k = F_impl_wideSteps_L1 u16 x0 m33 := ⟨_, rfl⟩
      rw [F_impl_wideSteps_L1, ← hnx31] at hF
      refine W.seq fun K34 hK34 => ?_
      refine W.region ?_
      refine wl_lss rfl rfl rfl ?_
      refine WL.nil ?_
      refine fun a ha => hK34 _ _ ?_ a ha
      refine W.seq fun K35 hK35 => ?_
      refine W.cond rfl (fun h36 => ?_) (fun h36 => ?_)
      · replace hF := ifP h36 hF
        refine W.skip ?_
        refine fun a ha => hK35 _ _ ?_ a ha
        refine W.seq fun K37 hK37 => ?_
        obtain ⟨k44, hk44, hF⟩ := jE1 hF
        have hJ45 : ∀ (l41 : (List Int)) (v42 : Value) (F43 : List Nat) (w38 : World) (_ : k44 l41 = some r) (_ : Below w0.heap.size w0 w38) (_ : Sep w0.heap.size w38 [R.blk b2 31 [v0_0, v0_1, (.int .i64 x0.2.2.1), (.int .i64 x0.2.2.2)], R.own ty_3 F43 v42 l41, R.own ty_96 F18 v17 u16]), ∀ a, St 29 [(2, (.pointer (some ⟨b2, 0, none⟩))), (5, v42), (11, v17), (12, (.int .i64 (List.length u16 : Int))), (13, (.int .i64 y30))] a → K37 a w38 := by
          intro l41 v42 F43 w38 hF hB39 hS40
          subst hk44
          refine fun a ha => hK37 _ _ ?_ a ha
          refine W.region ?_
          refine wl_add rfl rfl rfl ?_
          refine wl_move rfl rfl ?_
          refine WL.nil ?_
          rw [hnx31] at hF
          exact fun a ha => hKL32 a _ m33 (Nat.lt_succ_self m33) ⟨l41, (w64 (y30 + 1)), v42, F43, ha.sub ⟨rfl, rfl, rfl, rfl, rfl, trivial⟩, hB39, (hS40.sel [0, 1, 2] rfl), hF⟩
        refine W.block ?_
        refine W.seq fun K46 hK46 => ?_
        refine W.region ?_
        refine wl_move rfl rfl ?_
        obtain ⟨u47, hu47, hF⟩ := bindE hF
        refine wl_indexo (e := ty_96) (i := 2) Try.underlying87 rfl rfl rfl hS26 rfl hu47 ?_
        rintro p48 _ rfl hp49 ho50
        refine wl_load_p (vs := [(.int .i64 u47.1.1), (.int .i64 u47.1.2), (.int .i64 u47.2.1.1), (.int .i64 u47.2.1.2), (.int .i64 u47.2.2)]) (v := (.agg #[(.int .i64 u47.1.1), (.int .i64 u47.1.2), (.int .i64 u47.2.1.1), (.int .i64 u47.2.1.2), (.int .i64 u47.2.2)])) tf_96 rfl rfl hp49 rfl rfl ?_
        refine wl_alloc (cs := [(.int .i64 0), (.int .i64 0), (.int .i64 0), (.int .i64 0), (.int .i64 0)]) tf_96 rfl rfl hB25 hS26 ?_
        intro b51 w52 hb53 hB54 hS55
        refine wl_assign rfl rfl ?_
        refine wl_store_blk (i := 0) (vs := [(.int .i64 u47.1.1), (.int .i64 u47.1.2), (.int .i64 u47.2.1.1), (.int .i64 u47.2.1.2), (.int .i64 u47.2.2)]) (cs' := [(.int .i64 u47.1.1), (.int .i64 u47.1.2), (.int .i64 u47.2.1.1), (.int .i64 u47.2.1.2), (.int .i64 u47.2.2)]) tf_96 rfl rfl rfl rfl hB54 hS55 rfl rfl ⟨rfl, rfl, rfl, rfl, rfl, trivial⟩ rfl ?_
        intro w56 hk59 hB57 hS58
        refine WL.nil ?_
        refine fun a ha => hK46 _ _ ?_ a ha
        refine W.seq fun K60 hK60 => ?_
        refine W.region ?_
        refine wl_load_blk (i := 0) (vs := [(.int .i64 u47.1.1), (.int .i64 u47.1.2), (.int .i64 u47.2.1.1), (.int .i64 u47.2.1.2), (.int .i64 u47.2.2)]) (v := (.agg #[(.int .i64 u47.1.1), (.int .i64 u47.1.2), (.int .i64 u47.2.1.1), (.int .i64 u47.2.1.2), (.int .i64 u47.2.2)])) tf_96 rfl rfl hS58 rfl rfl rfl ?_
        refine wl_field (o := 3) (off' := 3) ff_31_3 rfl rfl rfl ?_
        refine wl_load_blk (i := 1) (vs := [(.int .i64 x0.2.2.2)]) (v := (.int .i64 x0.2.2.2)) tf_3 rfl rfl hS58 rfl rfl rfl ?_
        obtain ⟨u61, hu61, hF⟩ := bindE hF
        refine wl_call rfl Try.call147 (C_impl_withinStep w56 u47 x0.2.2.2 _ hu61) rfl ?_
        rintro _ w62 ⟨rfl, hb63⟩
        refine ⟨_, rfl, ?_⟩
        have hB64 := hB57.trans (hb63.mono hB57.size)
        have hS65 := hS58.below hb63
        refine wl_not rfl rfl ?_
        refine WL.nil ?_
        refine fun a ha => hK60 _ _ ?_ a ha
        refine W.cond rfl (fun h67 => ?_) (fun h67 => ?_)
        · replace hF := ifP h67 hF
          refine W.region ?_
          refine wl_move rfl rfl ?_
          refine wl_move rfl rfl ?_
          refine wl_lit (vs := [(.int .i64 y30)]) (l := [y30]) fl_3 Try.underlying23 rfl rfl rfl rfl rfl rfl hB64 hS65 ?_
          intro v68 F69 w70 hb71 hB72 hS73
          obtain ⟨u74, hu74, hF⟩ := bindE hF
          refine wl_append (i := 3) (S := (· < w70.heap.size)) fl_3 Try.underlying23 rfl rfl rfl hB72 hS73 rfl (hS73.own_ro (i := 0) rfl) hu74 ?_
          intro v75 F76 w77 hk78 hB79 hS80
          refine wl_assign rfl rfl ?_
          refine WL.nil ?_
          exact fun a ha => hJ45 (u74) (v75) (F76) _ hF hB79 (hS80.sel [2, 3, 4] rfl) a (ha.sub ⟨rfl, rfl, rfl, rfl, rfl, trivial⟩)
        · replace hF := ifN h67 hF
          refine W.skip ?_
          exact fun a ha => hJ45 (l27) (v28) (F29) _ hF hB64 (hS65.sel [1, 2, 3] rfl) a (ha.sub ⟨rfl, rfl, rfl, rfl, rfl, trivial⟩)
      · replace hF := ifN h36 hF
        refine W.exit ?_
        refine fun a ha => hK14 _ _ ?_ a ha
        refine W.seq fun K81 hK81 => ?_
        refine W.region ?_
        refine wl_move rfl rfl ?_
        refine wl_assign rfl rfl ?_
        refine WL.nil ?_
        refine fun a ha => hK81 _ _ ?_ a ha
        refine W.ret ?_
        have hr := Option.some.inj hF
        subst hr
        exact rets (vs := [v28]) hQ rfl ⟨rv_tmp rfl, trivial⟩ ⟨v28, F29, rfl, hB25, hS26.sel [1] rfl⟩
theorem C_impl_unsafParts (w0 : World) (x0 : ((List (List (Int × Int))) × (List Int) × Int × Int)) (v0_0 : Value) (h0_0 : rdS ty_70 (· < w0.heap.size) w0 v0_0 x0.1) (v0_1 : Value) (h0_1 : rdS ty_3 (· < w0.heap.size) w0 v0_1 x0.2.1) (r : (List Int)) (hF : F_impl_unsafParts x0 = some r) :
    Calls Try.prog 68 [(.agg #[v0_0, v0_1, (.int .i64 x0.2.2.1), (.int .i64 x0.2.2.2)])].toArray w0 fun e w' => ∃ (q0 : Value) (G0 : List Nat), e = .returned q0 ∧ Below w0.heap.size w0 w' ∧ Sep w0.heap.size w' [R.own ty_3 G0 q0 r] := by
  refine calls_mk' Try.func68 rfl Try.ntmps68 rfl rfl fun Q hQ hP => ?_
  have hB : Below w0.heap.size w0 w0 := Below.refl _ _
  have hS : Sep w0.heap.size w0 [] := Sep.nil _ _
  unfold F_impl_unsafParts at hF
  refine W.seq fun K1 hK1 => ?_
  refine W.region ?_
  refine wl_box (cs := [v0_0, v0_1, (.int .i64 x0.2.2.1), (.int .i64 x0.2.2.2)]) rfl rfl rfl hB hS ?_
  intro b2 w3 hb4 hB5 hS6
  refine wl_assign rfl rfl ?_
  refine WL.nil ?_
  refine fun a ha => hK1 _ _ ?_ a ha
  refine W.seq fun K7 hK7 => ?_
  refine W.region ?_
  refine wl_lit (vs := []) (l := []) fl_3 Try.underlying23 rfl rfl rfl rfl rfl rfl hB5 hS6 ?_
  intro v8 F9 w10 hb11 hB12 hS13
  refine wl_assign rfl rfl ?_
  refine WL.nil ?_
  refine fun a ha => hK7 _ _ ?_ a ha
  refine W.seq fun K14 hK14 => ?_
  refine W.seq fun K15 hK15 => ?_
  refine W.region ?_
  refine wl_field (o := 1) (off' := 1) ff_31_1 rfl rfl rfl ?_
  refine wl_load_blk (i := 1) (vs := [v0_1]) (v := v0_1) tf_23 rfl rfl hS13 rfl rfl rfl ?_
  refine wl_lenr (e := ty_3) (l := x0.2.1) Try.underlying23 rfl rfl h0_1 ?_
  refine wl_move rfl rfl ?_
  refine WL.nil ?_
  refine fun a ha => hK15 _ _ ?_ a ha
  refine W.block ?_
  refine W.loopk (fun m a w16 => ∃ (l19 : (List Int)) (y22 : Int) (v20 : Value) (F21 : List Nat), St 33 [(1, (.pointer (some ⟨b2, 0, none⟩))), (3, v20), (8, (.int .i64 (List.length x0.2.1 : Int))), (9, (.int .i64 y22))] a ∧ Below w0.heap.size w0 w16 ∧ Sep w0.heap.size w16 [R.blk b2 31 [v0_0, v0_1, (.int .i64 x0.2.2.1), (.int .i64 x0.2.2.2)], R.own ty_3 F21 v20 l19] ∧ F_impl_unsafParts_L1 x0 m l19 y22 = some r) FU ?_ ?_
  ·
    exact fun a ha => ⟨[], 0, v8, F9, ha.sub ⟨rfl, rfl, rfl, rfl, trivial⟩, hB12, (hS13.sel [1, 0] rfl), hF⟩
  ·
    rintro m25 a w16 ⟨l19, y22, v20, F21, ha, hB17, hS18, hF⟩ KL24 hKL24
    refine W.at ?_ ha
    cases m25 with
    | zero => exact noneE hF
    | succ m25 =>
      obtain ⟨nx23, hnx23⟩ : ∃ k, k = F_impl_unsafParts_L1 x0 m25 := ⟨_, rfl⟩
      rw [F_impl_unsafParts_L1, ← hnx23] at hF
      refine W.seq fun K26 hK26 => ?_
      refine W.region ?_
      refine wl_lss rfl rfl rfl ?_
      refine WL.nil ?_
      refine fun a ha => hK26 _ _ ?_ a ha
      refine W.seq fun K27 hK27 => ?_
      refine W.cond rfl (fun h28 => ?_) (fun h28 => ?_)
      · replace hF := ifP h28 hF
        refine W.skip ?_
        refine fun a ha => hK27 _ _ ?_ a ha
        refine W.seq fun K29 hK29 => ?_
        obtain ⟨k36, hk36, hF⟩ := jE1 hF
        have hJ37 : ∀ (l33 : (List Int)) (v34 : Value) (F35 : List Nat) (w30 : World) (_ : k36 l33 = some r) (_ : Below w0.heap.size w0 w30) (_ : Sep w0.heap.size w30 [R.blk b2 31 [v0_0, v0_1, (.int .i64 x0.2.2.1), (.int .i64 x0.2.2.2)], R.own ty_3 F35 v34 l33]), ∀ a, St 33 [(1, (.pointer (some ⟨b2, 0, none⟩))), (3, v34), (8, (.int .i64 (List.length x0.2.1 : Int))), (9, (.int .i64 y22))] a → K29 a w30 := by
          intro l33 v34 F35 w30 hF hB31 hS32
          subst hk36
          refine fun a ha => hK29 _ _ ?_ a ha
          refine W.region ?_
          refine wl_add rfl rfl rfl ?_
          refine wl_move rfl rfl ?_
          refine WL.nil ?_
          rw [hnx23] at hF
          exact fun a ha => hKL24 a _ m25 (Nat.lt_succ_self m25) ⟨l33, (w64 (y22 + 1)), v34, F35, ha.sub ⟨rfl, rfl, rfl, rfl, trivial⟩, hB31, (hS32.sel [0, 1] rfl), hF⟩
        refine W.block ?_
        refine W.seq fun K38 hK38 => ?_
        refine W.region ?_
        refine wl_move rfl rfl ?_
        refine wl_assign rfl rfl ?_
        refine WL.nil ?_
        refine fun a ha => hK38 _ _ ?_ a ha
        refine W.seq fun K39 hK39 => ?_
        obtain ⟨k44, hk44, hF⟩ := jE1 hF
        have hJ45 : ∀ (y43 : Bool) (w40 : World) (_ : k44 y43 = some r) (_ : Below w0.heap.size w0 w40) (_ : Sep w0.heap.size w40 [R.blk b2 31 [v0_0, v0_1, (.int .i64 x0.2.2.1), (.int .i64 x0.2.2.2)], R.own ty_3 F21 v20 l19]), ∀ a, St 33 [(1, (.pointer (some ⟨b2, 0, none⟩))), (3, v20), (4, (.int .i64 y22)), (8, (.int .i64 (List.length x0.2.1 : Int))), (9, (.int .i64 y22)), (26, (.bool y43))] a → K39 a w40 := by
          intro y43 w40 hF hB41 hS42
          subst hk44
          refine fun a ha => hK39 _ _ ?_ a ha
          refine W.cond rfl (fun h46 => ?_) (fun h46 => ?_)
          · replace hF := ifP h46 hF
            refine W.region ?_
            refine wl_move rfl rfl ?_
            refine wl_move rfl rfl ?_
            refine wl_lit (vs := [(.int .i64 y22)]) (l := [y22]) fl_3 Try.underlying23 rfl rfl rfl rfl rfl rfl hB41 hS42 ?_
            intro v47 F48 w49 hb50 hB51 hS52
            obtain ⟨u53, hu53, hF⟩ := bindE hF
            refine wl_append (i := 2) (S := (· < w49.heap.size)) fl_3 Try.underlying23 rfl rfl rfl hB51 hS52 rfl (hS52.own_ro (i := 0) rfl) hu53 ?_
            intro v54 F55 w56 hk57 hB58 hS59
            refine wl_assign rfl rfl ?_
            refine WL.nil ?_
            exact fun a ha => hJ37 (u53) (v54) (F55) _ hF hB58 (hS59.sel [1, 2] rfl) a (ha.sub ⟨rfl, rfl, rfl, rfl, trivial⟩)
          · replace hF := ifN h46 hF
            refine W.skip ?_
            exact fun a ha => hJ37 (l19) (v20) (F21) _ hF hB41 (hS42.sel [0, 1] rfl) a (ha.sub ⟨rfl, rfl, rfl, rfl, trivial⟩)
        refine W.regionH mixed_ [] hB17 hS18 ?_
        intro w60 hb61 hB62 hS63
        have hSW64 := KeepX.refl w60 []
        refine WH.takex (i := 0) rfl (by kernel_rfl) (by kernel_rfl) (by kernel_rfl) hP hSW64 ?_
        refine pr_load_blk (i := 0) (vs := [v0_0, v0_1, (.int .i64 x0.2.2.1), (.int .i64 x0.2.2.2)]) (v := (.agg #[v0_0, v0_1, (.int .i64 x0.2.2.1), (.int .i64 x0.2.2.2)])) tf_31 rfl rfl hS63 rfl rfl rfl (by simp) ?_
        refine WH.takex (i := 1) rfl (by kernel_rfl) (by kernel_rfl) (by kernel_rfl) hP hSW64 ?_
        refine pr_move rfl rfl ?_
        refine WH.one (i := 2) (by kernel_rfl) rfl ?_
        obtain ⟨u65, hu65, hF⟩ := bindE hF
        refine wl_call rfl Try.call116 (C_impl_wideSteps w60 x0 v0_0 (h0_0.ro hB62) v0_1 (h0_1.ro hB62) y22 _ hu65) rfl ?_
        rintro _ w68 ⟨v66, F67, rfl, hb69, hM72⟩
        refine ⟨_, rfl, ?_⟩
        have hB70 := hB62.trans (hb69.mono hB62.size)
        have hS71 := hS63.join hb69 hM72 hB62.size
        have hSW73 := hSW64.ext hb69
        refine WL.nil (WH.ret hSW73 ?_)
        refine WH.takex (i := 3) rfl (by kernel_rfl) (by kernel_rfl) (by kernel_rfl) hP hSW73 ?_
        refine pr_lenr (e := ty_3) (l := u65) Try.underlying23 rfl rfl (hS71.own_ro (i := 0) rfl) ?_
        refine WH.takex (i := 4) rfl (by kernel_rfl) (by kernel_rfl) (by kernel_rfl) hP hSW73 ?_
        refine pr_gtr rfl rfl rfl ?_
        refine WH.takex (i := 5) rfl (by kernel_rfl) (by kernel_rfl) (by kernel_rfl) hP hSW73 ?_
        refine pr_move rfl rfl ?_
        rcases bE (decide (0 < (List.length u65 : Int))) with h74 | h74
        · replace hF := ifP h74 hF
          refine WH.off (i := 6) rfl (by kernel_rfl) (by kernel_rfl) (by kernel_rfl) hP rfl rfl h74 rfl hSW73 ?_
          refine WH.off (i := 7) rfl (by kernel_rfl) (by kernel_rfl) (by kernel_rfl) hP rfl rfl h74 rfl hSW73 ?_
          refine WH.off (i := 8) rfl (by kernel_rfl) (by kernel_rfl) (by kernel_rfl) hP rfl rfl h74 rfl hSW73 ?_
          refine WH.off (i := 9) rfl (by kernel_rfl) (by kernel_rfl) (by kernel_rfl) hP rfl rfl h74 rfl hSW73 ?_
          refine WH.off (i := 10) rfl (by kernel_rfl) (by kernel_rfl) (by kernel_rfl) hP rfl rfl h74 rfl hSW73 ?_
          refine WH.off (i := 11) rfl (by kernel_rfl) (by kernel_rfl) (by kernel_rfl) hP rfl rfl h74 rfl hSW73 ?_
          refine WH.off (i := 12) rfl (by kernel_rfl) (by kernel_rfl) (by kernel_rfl) hP rfl rfl h74 rfl hSW73 ?_
          refine WH.off (i := 13) rfl (by kernel_rfl) (by kernel_rfl) (by kernel_rfl) hP rfl rfl h74 rfl hSW73 ?_
          refine WH.takex (i := 14) rfl (by kernel_rfl) (by kernel_rfl) (by kernel_rfl) hP hSW73 ?_
          refine pr_pick_t rfl rfl h74 rfl ?_
          refine WH.done (by kernel_rfl) ?_
          exact fun a ha => hJ45 (true) _ hF hB70 (hS71.sel [1, 2] rfl) a (ha.sub ⟨rfl, rfl, rfl, rfl, rfl, rfl, trivial⟩)
        · replace hF := ifN h74 hF
          refine WH.takexg (i := 6) rfl (by kernel_rfl) (by kernel_rfl) (by kernel_rfl) hP rfl rfl h74 hSW73 ?_
          refine pr_load_blk (i := 0) (vs := [v0_0, v0_1, (.int .i64 x0.2.2.1), (.int .i64 x0.2.2.2)]) (v := (.agg #[v0_0, v0_1, (.int .i64 x0.2.2.1), (.int .i64 x0.2.2.2)])) tf_31 rfl rfl hS63 rfl rfl rfl (by simp) ?_
          refine WH.takexg (i := 7) rfl (by kernel_rfl) (by kernel_rfl) (by kernel_rfl) hP rfl rfl h74 hSW73 ?_
          refine pr_move rfl rfl ?_
          refine WH.takexg (i := 9) rfl (by kernel_rfl) (by kernel_rfl) (by kernel_rfl) hP rfl rfl h74 hSW73 ?_
          refine pr_field (o := 2) (off' := 2) ff_31_2 rfl rfl rfl ?_
          refine WH.takexg (i := 10) rfl (by kernel_rfl) (by kernel_rfl) (by kernel_rfl) hP rfl rfl h74 hSW73 ?_
          refine pr_load_blk (i := 0) (vs := [(.int .i64 x0.2.2.1)]) (v := (.int .i64 x0.2.2.1)) tf_3 rfl rfl hS63 rfl rfl rfl (by simp) ?_
          refine WH.one (i := 8) (by kernel_rfl) rfl ?_
          refine wl_on rfl rfl h74 ?_
          obtain ⟨u75, hu75, hF⟩ := bindE hF
          refine wl_call rfl Try.call70 (C_impl_showMoves w68 x0 v0_0 (h0_0.ro hB70) v0_1 (h0_1.ro hB70) y22 _ hu75) rfl ?_
          rintro _ w78 ⟨v76, F77, rfl, hb79, hM82⟩
          refine ⟨_, rfl, ?_⟩
          have hB80 := hB70.trans (hb79.mono hB70.size)
          have hS81 := hS71.join hb79 hM82 hB70.size
          have hSW83 := hSW73.ext hb79
          refine WL.nil (WH.ret hSW83 ?_)
          refine WH.one (i := 11) (by kernel_rfl) rfl ?_
          refine wl_on rfl rfl h74 ?_
          obtain ⟨u84, hu84, hF⟩ := bindE hF
          refine wl_call rfl Try.call71 (C_impl_pairsTooClose w78 u75 v76 (hS81.own_ro (i := 0) rfl) x0.2.2.1 _ hu84) rfl ?_
          rintro _ w87 ⟨v85, F86, rfl, hb88, hM91⟩
          refine ⟨_, rfl, ?_⟩
          have hB89 := hB80.trans (hb88.mono hB80.size)
          have hS90 := hS81.join hb88 hM91 hB80.size
          have hSW92 := hSW83.ext hb88
          refine WL.nil (WH.ret hSW92 ?_)
          refine WH.takexg (i := 12) rfl (by kernel_rfl) (by kernel_rfl) (by kernel_rfl) hP rfl rfl h74 hSW92 ?_
          refine pr_lenr (e := ty_23) (l := u84) Try.underlying39 rfl rfl (hS90.own_ro (i := 0) rfl) ?_
          refine WH.takexg (i := 13) rfl (by kernel_rfl) (by kernel_rfl) (by kernel_rfl) hP rfl rfl h74 hSW92 ?_
          refine pr_gtr rfl rfl rfl ?_
          refine WH.takex (i := 14) rfl (by kernel_rfl) (by kernel_rfl) (by kernel_rfl) hP hSW92 ?_
          refine pr_pick_f rfl rfl h74 rfl ?_
          refine WH.done (by kernel_rfl) ?_
          exact fun a ha => hJ45 ((decide (0 < (List.length u84 : Int)))) _ hF hB89 (hS90.sel [3, 4] rfl) a (ha.sub ⟨rfl, rfl, rfl, rfl, rfl, rfl, trivial⟩)
      · replace hF := ifN h28 hF
        refine W.exit ?_
        refine fun a ha => hK14 _ _ ?_ a ha
        refine W.seq fun K93 hK93 => ?_
        refine W.region ?_
        refine wl_move rfl rfl ?_
        refine wl_assign rfl rfl ?_
        refine WL.nil ?_
        refine fun a ha => hK93 _ _ ?_ a ha
        refine W.ret ?_
        have hr := Option.some.inj hF
        subst hr
        exact rets (vs := [v20]) hQ rfl ⟨rv_tmp rfl, trivial⟩ ⟨v20, F21, rfl, hB17, hS18.sel [1] rfl⟩
theorem C_impl_CanPublish (w0 : World) (x0 : ((List (List (Int × Int))) × (List Int) × Int × Int)) (v0_0 : Value) (h0_0 : rdS ty_70 (· < w0.heap.size) w0 v0_0 x0.1) (v0_1 : Value) (h0_1 : rdS ty_3 (· < w0.heap.size) w0 v0_1 x0.2.1) (r : (Bool × Bool)) (hF : F_impl_CanPublish x0 = some r) :
    Calls Try.prog 18 [(.agg #[v0_0, v0_1, (.int .i64 x0.2.2.1), (.int .i64 x0.2.2.2)])].toArray w0 fun e w' => e = .returned (.tuple #[(.bool r.1), (.bool r.2)]) ∧ Below w0.heap.size w0 w' := by
  refine calls_mk' Try.func18 rfl Try.ntmps18 rfl rfl fun Q hQ hP => ?_
  have hB : Below w0.heap.size w0 w0 := Below.refl _ _
  have hS : Sep w0.heap.size w0 [] := Sep.nil _ _
  unfold F_impl_CanPublish at hF
  refine W.seq fun K1 hK1 => ?_
  refine W.region ?_
  refine wl_box (cs := [v0_0, v0_1, (.int .i64 x0.2.2.1), (.int .i64 x0.2.2.2)]) rfl rfl rfl hB hS ?_
  intro b2 w3 hb4 hB5 hS6
  refine wl_assign rfl rfl ?_
  refine wl_assign rfl rfl ?_
  refine WL.nil ?_
  refine fun a ha => hK1 _ _ ?_ a ha
  refine W.seq fun K7 hK7 => ?_
  refine W.seq fun K8 hK8 => ?_
  refine W.region ?_
  refine wl_load_blk (i := 0) (vs := [v0_0, v0_1, (.int .i64 x0.2.2.1), (.int .i64 x0.2.2.2)]) (v := (.agg #[v0_0, v0_1, (.int .i64 x0.2.2.1), (.int .i64 x0.2.2.2)])) tf_31 rfl rfl hS6 rfl rfl rfl ?_
  obtain ⟨u9, hu9, hF⟩ := bindE hF
  refine wl_call rfl Try.call67 (C_impl_IsShow w3 x0 v0_0 (h0_0.ro hB5) v0_1 (h0_1.ro hB5) _ hu9) rfl ?_
  rintro _ w10 ⟨rfl, hb11⟩
  refine ⟨_, rfl, ?_⟩
  have hB12 := hB5.trans (hb11.mono hB5.size)
  have hS13 := hS6.below hb11
  refine wl_not rfl rfl ?_
  refine WL.nil ?_
  refine fun a ha => hK8 _ _ ?_ a ha
  refine W.cond rfl (fun h15 => ?_) (fun h15 => ?_)
  · replace hF := ifP h15 hF
    refine W.seq fun K16 hK16 => ?_
    refine W.region ?_
    refine wl_assign rfl rfl ?_
    refine wl_assign rfl rfl ?_
    refine WL.nil ?_
    refine fun a ha => hK16 _ _ ?_ a ha
    refine W.ret ?_
    have hr := Option.some.inj hF
    subst hr
    exact rets (vs := [(.bool false), (.bool false)]) hQ rfl ⟨rv_tmp rfl, rv_tmp rfl, trivial⟩ ⟨rfl, hB12⟩
  · replace hF := ifN h15 hF
    refine W.skip ?_
    refine fun a ha => hK7 _ _ ?_ a ha
    refine W.seq fun K17 hK17 => ?_
    refine W.region ?_
    refine wl_load_blk (i := 0) (vs := [v0_0, v0_1, (.int .i64 x0.2.2.1), (.int .i64 x0.2.2.2)]) (v := (.agg #[v0_0, v0_1, (.int .i64 x0.2.2.1), (.int .i64 x0.2.2.2)])) tf_31 rfl rfl hS13 rfl rfl rfl ?_
    obtain ⟨u18, hu18, hF⟩ := bindE hF
    refine wl_call rfl Try.call68 (C_impl_unsafParts w10 x0 v0_0 (h0_0.ro hB12) v0_1 (h0_1.ro hB12) _ hu18) rfl ?_
    rintro _ w21 ⟨v19, F20, rfl, hb22, hM25⟩
    refine ⟨_, rfl, ?_⟩
    have hB23 := hB12.trans (hb22.mono hB12.size)
    have hS24 := hS13.join hb22 hM25 hB12.size
    refine wl_lenr (e := ty_3) (l := u18) Try.underlying23 rfl rfl (hS24.own_ro (i := 0) rfl) ?_
    refine wl_eql rfl rfl rfl ?_
    refine wl_assign rfl rfl ?_
    refine wl_assign rfl rfl ?_
    refine WL.nil ?_
    refine fun a ha => hK17 _ _ ?_ a ha
    refine W.ret ?_
    have hr := Option.some.inj hF
    subst hr
    exact rets (vs := [(.bool ((List.length u18 : Int) == 0)), (.bool true)]) hQ rfl ⟨rv_tmp rfl, rv_tmp rfl, trivial⟩ ⟨rfl, hB23⟩
theorem C_laws_FnExactCanPublish (w0 : World) (x0 : ((List (List (Int × Int))) × (List Int) × Int × Int)) (v0_0 : Value) (h0_0 : rdS ty_119 (· < w0.heap.size) w0 v0_0 x0.1) (v0_1 : Value) (h0_1 : rdS ty_3 (· < w0.heap.size) w0 v0_1 x0.2.1) (r : Bool) (hF : F_laws_FnExactCanPublish x0 = some r) :
    Calls Try.prog 3 [(.agg #[v0_0, v0_1, (.int .i64 x0.2.2.1), (.int .i64 x0.2.2.2)])].toArray w0 fun e w' => e = .returned (.bool r) ∧ Below w0.heap.size w0 w' := by
  refine calls_mk' Try.func3 rfl Try.ntmps3 rfl rfl fun Q hQ hP => ?_
  have hB : Below w0.heap.size w0 w0 := Below.refl _ _
  have hS : Sep w0.heap.size w0 [] := Sep.nil _ _
  unfold F_laws_FnExactCanPublish at hF
  refine W.seq fun K1 hK1 => ?_
  refine W.region ?_
  refine wl_box (cs := [v0_0, v0_1, (.int .i64 x0.2.2.1), (.int .i64 x0.2.2.2)]) rfl rfl rfl hB hS ?_
  intro b2 w3 hb4 hB5 hS6
  refine wl_assign rfl rfl ?_
  refine WL.nil ?_
  refine fun a ha => hK1 _ _ ?_ a ha
  refine W.seq fun K7 hK7 => ?_
  refine W.region ?_
  refine wl_assign rfl rfl ?_
  refine WL.nil ?_
  refine fun a ha => hK7 _ _ ?_ a ha
  refine W.seq fun K8 hK8 => ?_
  refine W.region ?_
  refine wl_load_blk (i := 0) (vs := [v0_0, v0_1, (.int .i64 x0.2.2.1), (.int .i64 x0.2.2.2)]) (v := (.agg #[v0_0, v0_1, (.int .i64 x0.2.2.1), (.int .i64 x0.2.2.2)])) tf_25 rfl rfl hS6 rfl rfl rfl ?_
  refine wl_move rfl rfl ?_
  obtain ⟨u9, hu9, hF⟩ := bindE hF
  refine wl_call rfl Try.call15 (C_laws_szShow w3 x0 v0_0 (h0_0.ro hB5) v0_1 (h0_1.ro hB5) 1048576 _ hu9) rfl ?_
  rintro _ w10 ⟨rfl, hb11⟩
  refine ⟨_, rfl, ?_⟩
  have hB12 := hB5.trans (hb11.mono hB5.size)
  have hS13 := hS6.below hb11
  refine wl_assign rfl rfl ?_
  refine WL.nil ?_
  refine fun a ha => hK8 _ _ ?_ a ha
  refine W.seq fun K15 hK15 => ?_
  refine W.seq fun K16 hK16 => ?_
  refine W.region ?_
  refine wl_move rfl rfl ?_
  refine wl_lss rfl rfl rfl ?_
  refine WL.nil ?_
  refine fun a ha => hK16 _ _ ?_ a ha
  refine W.cond rfl (fun h17 => ?_) (fun h17 => ?_)
  · replace hF := ifP h17 hF
    refine W.seq fun K18 hK18 => ?_
    refine W.region ?_
    refine wl_assign rfl rfl ?_
    refine WL.nil ?_
    refine fun a ha => hK18 _ _ ?_ a ha
    refine W.ret ?_
    have hr := Option.some.inj hF
    subst hr
    exact rets (vs := [(.bool true)]) hQ rfl ⟨rv_tmp rfl, trivial⟩ ⟨rfl, hB12⟩
  · replace hF := ifN h17 hF
    refine W.skip ?_
    refine fun a ha => hK15 _ _ ?_ a ha
    refine W.seq fun K19 hK19 => ?_
    refine W.region ?_
    refine wl_load_blk (i := 0) (vs := [v0_0, v0_1, (.int .i64 x0.2.2.1), (.int .i64 x0.2.2.2)]) (v := (.agg #[v0_0, v0_1, (.int .i64 x0.2.2.1), (.int .i64 x0.2.2.2)])) tf_25 rfl rfl hS13 rfl rfl rfl ?_
    obtain ⟨u20, hu20, hF⟩ := bindE hF
    refine wl_call rfl Try.call17 (C_laws_toShow w10 x0 v0_0 (h0_0.ro hB12) v0_1 (h0_1.ro hB12) _ hu20) rfl ?_
    rintro _ w25 ⟨v21, F22, v23, F24, rfl, hb26, hM29⟩
    refine ⟨_, rfl, ?_⟩
    have hB27 := hB12.trans (hb26.mono hB12.size)
    have hS28 := hS13.join hb26 hM29 hB12.size
    obtain ⟨u30, hu30, hF⟩ := bindE hF
    refine wl_call rfl Try.call16 (C_spec_CanPublish w25 u20 v21 (hS28.own_ro (i := 0) rfl) v23 (hS28.own_ro (i := 1) rfl) _ hu30) rfl ?_
    rintro _ w31 ⟨rfl, hb32⟩
    refine ⟨_, rfl, ?_⟩
    have hB33 := hB27.trans (hb32.mono hB27.size)
    have hS34 := hS28.below hb32
    refine wl_move rfl rfl ?_
    refine wl_extract rfl rfl rfl ?_
    refine wl_extract rfl rfl rfl ?_
    refine wl_assign rfl rfl ?_
    refine wl_assign rfl rfl ?_
    refine WL.nil ?_
    refine fun a ha => hK19 _ _ ?_ a ha
    refine W.seq fun K36 hK36 => ?_
    refine W.region ?_
    refine wl_load_blk (i := 2) (vs := [v0_0, v0_1, (.int .i64 x0.2.2.1), (.int .i64 x0.2.2.2)]) (v := (.agg #[v0_0, v0_1, (.int .i64 x0.2.2.1), (.int .i64 x0.2.2.2)])) tf_25 rfl rfl hS34 rfl rfl rfl ?_
    obtain ⟨u37, hu37, hF⟩ := bindE hF
    refine wl_call rfl Try.call17 (C_laws_toShow w31 x0 v0_0 (h0_0.ro hB33) v0_1 (h0_1.ro hB33) _ hu37) rfl ?_
    rintro _ w42 ⟨v38, F39, v40, F41, rfl, hb43, hM46⟩
    refine ⟨_, rfl, ?_⟩
    have hB44 := hB33.trans (hb43.mono hB33.size)
    have hS45 := hS34.join hb43 hM46 hB33.size
    refine wl_alloc (cs := [(.slice none 0 0), (.slice none 0 0), (.int .i64 0), (.int .i64 0)]) tf_31 rfl rfl hB44 hS45 ?_
    intro b47 w48 hb49 hB50 hS51
    refine wl_store_blk (i := 0) (vs := [v38, v40, (.int .i64 u37.2.2.1), (.int .i64 u37.2.2.2)]) (cs' := [v38, v40, (.int .i64 u37.2.2.1), (.int .i64 u37.2.2.2)]) tf_31 rfl rfl rfl rfl hB50 hS51 rfl rfl ⟨(hS51.own_ro (i := 1) rfl).one, (hS51.own_ro (i := 2) rfl).one, rfl, rfl, trivial⟩ rfl ?_
    intro w52 hk55 hB53 hS54
    refine WL.nil ?_
    refine fun a ha => hK36 _ _ ?_ a ha
    refine W.seq fun K56 hK56 => ?_
    refine W.region ?_
    refine wl_load_blk (i := 0) (vs := [v38, v40, (.int .i64 u37.2.2.1), (.int .i64 u37.2.2.2)]) (v := (.agg #[v38, v40, (.int .i64 u37.2.2.1), (.int .i64 u37.2.2.2)])) tf_31 rfl rfl hS54 rfl rfl rfl ?_
    obtain ⟨u57, hu57, hF⟩ := bindE hF
    refine wl_call rfl Try.call18 (C_impl_CanPublish w52 u37 v38 (hS54.own_ro (i := 1) rfl) v40 (hS54.own_ro (i := 2) rfl) _ hu57) rfl ?_
    rintro _ w58 ⟨rfl, hb59⟩
    refine ⟨_, rfl, ?_⟩
    have hB60 := hB53.trans (hb59.mono hB53.size)
    have hS61 := hS54.below hb59
    refine wl_move rfl rfl ?_
    refine wl_extract rfl rfl rfl ?_
    refine wl_extract rfl rfl rfl ?_
    refine wl_assign rfl rfl ?_
    refine wl_assign rfl rfl ?_
    refine WL.nil ?_
    refine fun a ha => hK56 _ _ ?_ a ha
    refine W.seq fun K63 hK63 => ?_
    refine W.seq fun K64 hK64 => ?_
    obtain ⟨k69, hk69, hF⟩ := jE1 hF
    have hJ70 : ∀ (y68 : Bool) (w65 : World) (_ : k69 y68 = some r) (_ : Below w0.heap.size w0 w65) (_ : Sep w0.heap.size w65 [R.blk b2 25 [v0_0, v0_1, (.int .i64 x0.2.2.1), (.int .i64 x0.2.2.2)], R.own ty_70 F39 v38 u37.1, R.own ty_3 F41 v40 u37.2.1, R.blk b47 31 [v38, v40, (.int .i64 u37.2.2.1), (.int .i64 u37.2.2.2)]]), ∀ a, St 40 [(1, (.pointer (some ⟨b2, 0, none⟩))), (6, (.pointer (some ⟨b47, 0, none⟩))), (34, (.bool y68))] a → K64 a w65 := by
      intro y68 w65 hF hB66 hS67
      subst hk69
      refine fun a ha => hK64 _ _ ?_ a ha
      refine W.cond rfl (fun h71 => ?_) (fun h71 => ?_)
      · replace hF := ifP h71 hF
        refine W.seq fun K72 hK72 => ?_
        refine W.region ?_
        refine wl_assign rfl rfl ?_
        refine WL.nil ?_
        refine fun a ha => hK72 _ _ ?_ a ha
        refine W.ret ?_
        have hr := Option.some.inj hF
        subst hr
        exact rets (vs := [(.bool false)]) hQ rfl ⟨rv_tmp rfl, trivial⟩ ⟨rfl, hB66⟩
      · replace hF := ifN h71 hF
        refine W.skip ?_
        refine fun a ha => hK63 _ _ ?_ a ha
        refine W.seq fun K73 hK73 => ?_
        refine W.seq fun K74 hK74 => ?_
        refine W.regionH mixed_ [] hB66 hS67 ?_
        intro w75 hb76 hB77 hS78
        have hSW79 := KeepX.refl w75 []
        refine WH.takex (i := 0) rfl (by kernel_rfl) (by kernel_rfl) (by kernel_rfl) hP hSW79 ?_
        refine pr_load_blk (i := 3) (vs := [v38, v40, (.int .i64 u37.2.2.1), (.int .i64 u37.2.2.2)]) (v := (.agg #[v38, v40, (.int .i64 u37.2.2.1), (.int .i64 u37.2.2.2)])) tf_31 rfl rfl hS78 rfl rfl rfl (by simp) ?_
        refine WH.takex (i := 1) rfl (by kernel_rfl) (by kernel_rfl) (by kernel_rfl) hP hSW79 ?_
        refine pr_load_blk (i := 0) (vs := [v0_0, v0_1, (.int .i64 x0.2.2.1), (.int .i64 x0.2.2.2)]) (v := (.agg #[v0_0, v0_1, (.int .i64 x0.2.2.1), (.int .i64 x0.2.2.2)])) tf_25 rfl rfl hS78 rfl rfl rfl (by simp) ?_
        refine WH.one (i := 2) (by kernel_rfl) rfl ?_
        obtain ⟨u80, hu80, hF⟩ := bindE hF
        refine wl_call rfl Try.call17 (C_laws_toShow w75 x0 v0_0 (h0_0.ro hB77) v0_1 (h0_1.ro hB77) _ hu80) rfl ?_
        rintro _ w85 ⟨v81, F82, v83, F84, rfl, hb86, hM89⟩
        refine ⟨_, rfl, ?_⟩
        have hB87 := hB77.trans (hb86.mono hB77.size)
        have hS88 := hS78.join hb86 hM89 hB77.size
        have hSW90 := hSW79.ext hb86
        refine WL.nil (WH.ret hSW90 ?_)
        refine WH.one (i := 3) (by kernel_rfl) rfl ?_
        obtain ⟨u91, hu91, hF⟩ := bindE hF
        refine wl_call rfl Try.call19 (C_laws_eqShow w85 u37 v38 (hS88.own_ro (i := 3) rfl) v40 (hS88.own_ro (i := 4) rfl) u80 v81 (hS88.own_ro (i := 0) rfl) v83 (hS88.own_ro (i := 1) rfl) _ hu91) rfl ?_
        rintro _ w92 ⟨rfl, hb93⟩
        refine ⟨_, rfl, ?_⟩
        have hB94 := hB87.trans (hb93.mono hB87.size)
        have hS95 := hS88.below hb93
        have hSW97 := hSW90.ext hb93
        refine WL.nil (WH.ret hSW97 ?_)
        refine WH.takex (i := 4) rfl (by kernel_rfl) (by kernel_rfl) (by kernel_rfl) hP hSW97 ?_
        refine pr_not rfl rfl ?_
        refine WH.done (by kernel_rfl) ?_
        refine fun a ha => hK74 _ _ ?_ a ha
        refine W.cond rfl (fun h98 => ?_) (fun h98 => ?_)
        · replace hF := ifP h98 hF
          refine W.seq fun K99 hK99 => ?_
          refine W.region ?_
          refine wl_assign rfl rfl ?_
          refine WL.nil ?_
          refine fun a ha => hK99 _ _ ?_ a ha
          refine W.ret ?_
          have hr := Option.some.inj hF
          subst hr
          exact rets (vs := [(.bool false)]) hQ rfl ⟨rv_tmp rfl, trivial⟩ ⟨rfl, hB94⟩
        · replace hF := ifN h98 hF
          refine W.skip ?_
          refine fun a ha => hK73 _ _ ?_ a ha
          refine W.seq fun K100 hK100 => ?_
          refine W.region ?_
          refine wl_assign rfl rfl ?_
          refine WL.nil ?_
          refine fun a ha => hK100 _ _ ?_ a ha
          refine W.ret ?_
          have hr := Option.some.inj hF
          subst hr
          exact rets (vs := [(.bool true)]) hQ rfl ⟨rv_tmp rfl, trivial⟩ ⟨rfl, hB94⟩
    refine W.region ?_
    refine wl_move rfl rfl ?_
    refine wl_move rfl rfl ?_
    refine wl_neqb Try.underlying4 rfl rfl rfl ?_
    refine wl_move rfl rfl ?_
    rcases bE (u57.1 != u30.1) with h101 | h101
    · replace hF := ifP h101 hF
      refine wl_off rfl rfl rfl h101 ?_
      refine wl_off rfl rfl rfl h101 ?_
      refine wl_off rfl rfl rfl h101 ?_
      refine wl_pick_t rfl rfl h101 rfl ?_
      refine WL.nil ?_
      exact fun a ha => hJ70 (true) _ hF hB60 (hS61.sel [5, 1, 2, 0] rfl) a (ha.sub ⟨rfl, rfl, rfl, trivial⟩)
    · replace hF := ifN h101 hF
      refine wl_on rfl rfl h101 ?_
      refine wl_move rfl rfl ?_
      refine wl_on rfl rfl h101 ?_
      refine wl_move rfl rfl ?_
      refine wl_on rfl rfl h101 ?_
      refine wl_neqb Try.underlying4 rfl rfl rfl ?_
      refine wl_pick_f rfl rfl h101 rfl ?_
      refine WL.nil ?_
      exact fun a ha => hJ70 ((u57.2 != u30.2)) _ hF hB60 (hS61.sel [5, 1, 2, 0] rfl) a (ha.sub ⟨rfl, rfl, rfl, trivial⟩)
end Go.Proofs.Ythlfhcefeaehmaa
