/-
  THE WALKS of functions of this seat, by program (gen.py, prune.py).
-/
import Derived.Test.YtmkignciedkidaaWXFnShowChangesd
set_option linter.unusedSimpArgs false
set_option linter.unusedVariables false
set_option maxRecDepth 100000
set_option maxHeartbeats 1600000
namespace Go.Proofs.Ytmkignciedkidaa
open Go Go.RowKit
theorem C_spec_swClose (w0 : World) (x0 : ((List (List (Int × Int))) × (List Int) × Int × Int)) (v0_0 : Value) (h0_0 : rdS ty_63 (· < w0.heap.size) w0 v0_0 x0.1) (v0_1 : Value) (h0_1 : rdS ty_3 (· < w0.heap.size) w0 v0_1 x0.2.1) (x1 : Int) (r : (List (List Int))) (hF : F_spec_swClose x0 x1 = some r) :
    Calls Try.prog 180 [(.agg #[v0_0, v0_1, (.int .i64 x0.2.2.1), (.int .i64 x0.2.2.2)]), (.int .i64 x1)].toArray w0 fun e w' => ∃ (q0 : Value) (G0 : List Nat), e = .returned q0 ∧ Below w0.heap.size w0 w' ∧ Sep w0.heap.size w' [R.own ty_29 G0 q0 r] := by
  refine calls_mk' Try.func180 rfl Try.ntmps180 rfl rfl fun Q hQ hP => ?_
  have hB : Below w0.heap.size w0 w0 := Below.refl _ _
  have hS : Sep w0.heap.size w0 [] := Sep.nil _ _
  unfold F_spec_swClose at hF
  refine W.seq fun K1 hK1 => ?_
  refine W.region ?_
  refine wl_box (cs := [v0_0, v0_1, (.int .i64 x0.2.2.1), (.int .i64 x0.2.2.2)]) rfl rfl rfl hB hS ?_
  intro b2 w3 hb4 hB5 hS6
  refine wl_assign rfl rfl ?_
  refine WL.nil ?_
  refine fun a ha => hK1 _ _ ?_ a ha
  refine W.seq fun K7 hK7 => ?_
  refine W.region ?_
  refine wl_load_blk (i := 0) (vs := [v0_0, v0_1, (.int .i64 x0.2.2.1), (.int .i64 x0.2.2.2)]) (v := (.agg #[v0_0, v0_1, (.int .i64 x0.2.2.1), (.int .i64 x0.2.2.2)])) tf_53 rfl rfl hS6 rfl rfl rfl ?_
  refine wl_move rfl rfl ?_
  obtain ⟨u8, hu8, hF⟩ := bindE hF
  refine wl_call rfl Try.call160 (C_spec_swMoves w3 x0 v0_0 (h0_0.ro hB5) v0_1 (h0_1.ro hB5) x1 _ hu8) rfl ?_
  rintro _ w11 ⟨v9, F10, rfl, hb12, hM15⟩
  refine ⟨_, rfl, ?_⟩
  have hB13 := hB5.trans (hb12.mono hB5.size)
  have hS14 := hS6.join hb12 hM15 hB5.size
  refine wl_assign rfl rfl ?_
  refine WL.nil ?_
  refine fun a ha => hK7 _ _ ?_ a ha
  refine W.seq fun K16 hK16 => ?_
  refine W.region ?_
  refine wl_assign rfl rfl ?_
  refine WL.nil ?_
  refine fun a ha => hK16 _ _ ?_ a ha
  refine W.seq fun K17 hK17 => ?_
  refine W.seq fun K18 hK18 => ?_
  refine W.region ?_
  refine wl_move rfl rfl ?_
  refine wl_lenr (e := ty_70) (l := u8) Try.underlying64 rfl rfl (hS14.own_ro (i := 0) rfl) ?_
  refine wl_move rfl rfl ?_
  refine WL.nil ?_
  refine fun a ha => hK18 _ _ ?_ a ha
  refine W.block ?_
  refine W.loopk (fun m a w19 => ∃ (l22 : (List (List Int))) (y25 : Int) (v23 : Value) (F24 : List Nat), St 45 [(2, (.pointer (some ⟨b2, 0, none⟩))), (5, v9), (6, v23), (13, v9), (14, (.int .i64 (List.length u8 : Int))), (15, (.int .i64 y25))] a ∧ Below w0.heap.size w0 w19 ∧ Sep w0.heap.size w19 [R.blk b2 53 [v0_0, v0_1, (.int .i64 x0.2.2.1), (.int .i64 x0.2.2.2)], R.own ty_70 F10 v9 u8, R.own ty_29 F24 v23 l22] ∧ F_spec_swClose_L1 u8 x0 m l22 y25 = some r) FU ?_ ?_
  ·
    have hS27 := hS14.push0 (r := R.own ty_29 [] (.slice none 0 0) []) rfl fun _ => .inl ⟨rfl, rfl, rfl⟩
    exact fun a ha => ⟨[], 0, (.slice none 0 0), [], ha.sub ⟨rfl, rfl, rfl, rfl, rfl, rfl, trivial⟩, hB13, (hS27.sel [2, 1, 0] rfl), hF⟩
  ·
    rintro m29 a w19 ⟨l22, y25, v23, F24, ha, hB20, hS21, hF⟩ KL28 hKL28
    refine W.at ?_ ha
    cases m29 with
    | zero => exact noneE hF
    | succ m29 =>
      obtain ⟨nx26, hnx26⟩ : ∃ k, k = F_spec_swClose_L1 u8 x0 m29 := ⟨_, rfl⟩
      rw [F_spec_swClose_L1, ← hnx26] at hF
      refine W.seq fun K30 hK30 => ?_
      refine W.region ?_
      refine wl_lss rfl rfl rfl ?_
      refine WL.nil ?_
      refine fun a ha => hK30 _ _ ?_ a ha
      refine W.seq fun K31 hK31 => ?_
      refine W.cond rfl (fun h32 => ?_) (fun h32 => ?_)
      · replace hF := ifP h32 hF
        refine W.skip ?_
        refine fun a ha => hK31 _ _ ?_ a ha
        refine W.seq fun K33 hK33 => ?_
        refine W.block ?_
        refine W.seq fun K34 hK34 => ?_
        refine W.region ?_
        refine wl_move rfl rfl ?_
        obtain ⟨u35, hu35, hF⟩ := bindE hF
        refine wl_indexo (e := ty_70) (i := 1) Try.underlying64 rfl rfl rfl hS21 rfl hu35 ?_
        rintro p36 _ rfl hp37 ho38
        refine wl_load_p (vs := [(.int .i64 u35.1.1), (.int .i64 u35.1.2), (.int .i64 u35.2.1.1), (.int .i64 u35.2.1.2), (.int .i64 u35.2.2)]) (v := (.agg #[(.int .i64 u35.1.1), (.int .i64 u35.1.2), (.int .i64 u35.2.1.1), (.int .i64 u35.2.1.2), (.int .i64 u35.2.2)])) tf_70 rfl rfl hp37 rfl rfl ?_
        refine wl_alloc (cs := [(.int .i64 0), (.int .i64 0), (.int .i64 0), (.int .i64 0), (.int .i64 0)]) tf_70 rfl rfl hB20 hS21 ?_
        intro b39 w40 hb41 hB42 hS43
        refine wl_assign rfl rfl ?_
        refine wl_store_blk (i := 0) (vs := [(.int .i64 u35.1.1), (.int .i64 u35.1.2), (.int .i64 u35.2.1.1), (.int .i64 u35.2.1.2), (.int .i64 u35.2.2)]) (cs' := [(.int .i64 u35.1.1), (.int .i64 u35.1.2), (.int .i64 u35.2.1.1), (.int .i64 u35.2.1.2), (.int .i64 u35.2.2)]) tf_70 rfl rfl rfl rfl hB42 hS43 rfl rfl ⟨rfl, rfl, rfl, rfl, rfl, trivial⟩ rfl ?_
        intro w44 hk47 hB45 hS46
        refine WL.nil ?_
        refine fun a ha => hK34 _ _ ?_ a ha
        refine W.seq fun K48 hK48 => ?_
        refine W.region ?_
        refine wl_move rfl rfl ?_
        refine wl_add rfl rfl rfl ?_
        refine wl_assign rfl rfl ?_
        refine WL.nil ?_
        refine fun a ha => hK48 _ _ ?_ a ha
        refine W.block ?_
        refine W.loopk (fun m a w49 => ∃ (l52 : (List (List Int))) (y55 : Int) (v53 : Value) (F54 : List Nat), St 45 [(2, (.pointer (some ⟨b2, 0, none⟩))), (5, v9), (6, v53), (7, (.int .i64 y25)), (8, (.pointer (some ⟨b39, 0, none⟩))), (9, (.int .i64 y55)), (13, v9), (14, (.int .i64 (List.length u8 : Int))), (15, (.int .i64 y25))] a ∧ Below w0.heap.size w0 w49 ∧ Sep w0.heap.size w49 [R.blk b2 53 [v0_0, v0_1, (.int .i64 x0.2.2.1), (.int .i64 x0.2.2.2)], R.own ty_70 F10 v9 u8, R.own ty_29 F54 v53 l52, R.blk b39 70 [(.int .i64 u35.1.1), (.int .i64 u35.1.2), (.int .i64 u35.2.1.1), (.int .i64 u35.2.1.2), (.int .i64 u35.2.2)]] ∧ F_spec_swClose_L2 u8 u35 x0 y25 nx26 m l52 y55 = some r) FU ?_ ?_
        ·
          exact fun a ha => ⟨l22, (w64 (y25 + 1)), v23, F24, ha.sub ⟨rfl, rfl, rfl, rfl, rfl, rfl, rfl, rfl, rfl, trivial⟩, hB45, (hS46.sel [1, 2, 3, 0] rfl), hF⟩
        ·
          rintro m58 a w49 ⟨l52, y55, v53, F54, ha, hB50, hS51, hF⟩ KL57 hKL57
          refine W.at ?_ ha
          cases m58 with
          | zero => exact noneE hF
          | succ m58 =>
            obtain ⟨nx56, hnx56⟩ : ∃ k, k = F_spec_swClose_L2 u8 u35 x0 y25 nx26 m58 := ⟨_, rfl⟩
            rw [F_spec_swClose_L2, ← hnx56] at hF
            refine W.seq fun K59 hK59 => ?_
            refine W.seq fun K60 hK60 => ?_
            refine W.region ?_
            refine wl_move rfl rfl ?_
            refine wl_move rfl rfl ?_
            refine wl_lenr (e := ty_70) (l := u8) Try.underlying64 rfl rfl (hS51.own_ro (i := 1) rfl) ?_
            refine wl_lss rfl rfl rfl ?_
            refine WL.nil ?_
            refine fun a ha => hK60 _ _ ?_ a ha
            refine W.cond rfl (fun h61 => ?_) (fun h61 => ?_)
            · replace hF := ifP h61 hF
              refine W.skip ?_
              refine fun a ha => hK59 _ _ ?_ a ha
              refine W.seq fun K62 hK62 => ?_
              obtain ⟨k69, hk69, hF⟩ := jE1 hF
              have hJ70 : ∀ (l66 : (List (List Int))) (v67 : Value) (F68 : List Nat) (w63 : World) (_ : k69 l66 = some r) (_ : Below w0.heap.size w0 w63) (_ : Sep w0.heap.size w63 [R.blk b2 53 [v0_0, v0_1, (.int .i64 x0.2.2.1), (.int .i64 x0.2.2.2)], R.own ty_70 F10 v9 u8, R.own ty_29 F68 v67 l66, R.blk b39 70 [(.int .i64 u35.1.1), (.int .i64 u35.1.2), (.int .i64 u35.2.1.1), (.int .i64 u35.2.1.2), (.int .i64 u35.2.2)]]), ∀ a, St 45 [(2, (.pointer (some ⟨b2, 0, none⟩))), (5, v9), (6, v67), (7, (.int .i64 y25)), (8, (.pointer (some ⟨b39, 0, none⟩))), (9, (.int .i64 y55)), (13, v9), (14, (.int .i64 (List.length u8 : Int))), (15, (.int .i64 y25))] a → K62 a w63 := by
                intro l66 v67 F68 w63 hF hB64 hS65
                subst hk69
                refine fun a ha => hK62 _ _ ?_ a ha
                refine W.region ?_
                refine wl_move rfl rfl ?_
                refine wl_add rfl rfl rfl ?_
                refine wl_assign rfl rfl ?_
                refine WL.nil ?_
                rw [hnx56] at hF
                exact fun a ha => hKL57 a _ m58 (Nat.lt_succ_self m58) ⟨l66, (w64 (y55 + 1)), v67, F68, ha.sub ⟨rfl, rfl, rfl, rfl, rfl, rfl, rfl, rfl, rfl, trivial⟩, hB64, (hS65.sel [0, 1, 2, 3] rfl), hF⟩
              refine W.block ?_
              refine W.seq fun K71 hK71 => ?_
              refine W.regionH mixed_ [] hB50 hS51 ?_
              intro w72 hb73 hB74 hS75
              have hSW76 := KeepX.refl w72 []
              refine WH.takex (i := 0) rfl (by kernel_rfl) (by kernel_rfl) (by kernel_rfl) hP hSW76 ?_
              refine pr_load_blk (i := 3) (vs := [(.int .i64 u35.1.1), (.int .i64 u35.1.2), (.int .i64 u35.2.1.1), (.int .i64 u35.2.1.2), (.int .i64 u35.2.2)]) (v := (.agg #[(.int .i64 u35.1.1), (.int .i64 u35.1.2), (.int .i64 u35.2.1.1), (.int .i64 u35.2.1.2), (.int .i64 u35.2.2)])) tf_70 rfl rfl hS75 rfl rfl rfl (by simp) ?_
              refine WH.takex (i := 1) rfl (by kernel_rfl) (by kernel_rfl) (by kernel_rfl) hP hSW76 ?_
              refine pr_move rfl rfl ?_
              refine WH.takex (i := 2) rfl (by kernel_rfl) (by kernel_rfl) (by kernel_rfl) hP hSW76 ?_
              refine pr_move rfl rfl ?_
              obtain ⟨u77, hu77, hF⟩ := bindE hF
              refine WH.takex (i := 3) rfl (by kernel_rfl) (by kernel_rfl) (by kernel_rfl) hP hSW76 ?_
              refine pr_indexo (e := ty_70) (i := 1) Try.underlying64 rfl rfl rfl hS75 rfl hu77 ?_
              rintro p78 _ rfl hp79 ho80
              refine WH.takex (i := 4) rfl (by kernel_rfl) (by kernel_rfl) (by kernel_rfl) hP hSW76 ?_
              refine pr_load_p (vs := [(.int .i64 u77.1.1), (.int .i64 u77.1.2), (.int .i64 u77.2.1.1), (.int .i64 u77.2.1.2), (.int .i64 u77.2.2)]) (v := (.agg #[(.int .i64 u77.1.1), (.int .i64 u77.1.2), (.int .i64 u77.2.1.1), (.int .i64 u77.2.1.2), (.int .i64 u77.2.2)])) tf_70 rfl rfl (hp79.kx0) rfl rfl ?_
              refine WH.takex (i := 5) rfl (by kernel_rfl) (by kernel_rfl) (by kernel_rfl) hP hSW76 ?_
              refine pr_field (o := 2) (off' := 2) ff_53_2 rfl rfl rfl ?_
              refine WH.takex (i := 6) rfl (by kernel_rfl) (by kernel_rfl) (by kernel_rfl) hP hSW76 ?_
              refine pr_load_blk (i := 0) (vs := [(.int .i64 x0.2.2.1)]) (v := (.int .i64 x0.2.2.1)) tf_3 rfl rfl hS75 rfl rfl rfl (by simp) ?_
              refine WH.one (i := 7) (by kernel_rfl) rfl ?_
              obtain ⟨u81, hu81, hF⟩ := bindE hF
              refine wl_call rfl Try.call243 (C_spec_apStay w72 u35 u77 x0.2.2.1 _ hu81) rfl ?_
              rintro _ w82 ⟨rfl, hb83⟩
              refine ⟨_, rfl, ?_⟩
              have hB84 := hB74.trans (hb83.mono hB74.size)
              have hS85 := hS75.below hb83
              have hSW87 := hSW76.ext hb83
              refine WL.nil (WH.ret hSW87 ?_)
              refine WH.takex (i := 8) rfl (by kernel_rfl) (by kernel_rfl) (by kernel_rfl) hP hSW87 ?_
              refine pr_not rfl rfl ?_
              refine WH.done (by kernel_rfl) ?_
              refine fun a ha => hK71 _ _ ?_ a ha
              refine W.cond rfl (fun h88 => ?_) (fun h88 => ?_)
              · replace hF := ifP h88 hF
                refine W.region ?_
                refine wl_move rfl rfl ?_
                refine wl_move rfl rfl ?_
                refine wl_move rfl rfl ?_
                refine wl_lit (vs := [(.int .i64 y25), (.int .i64 y55)]) (l := [y25, y55]) fl_3 Try.underlying29 rfl rfl rfl rfl rfl rfl hB84 hS85 ?_
                intro v89 F90 w91 hb92 hB93 hS94
                have hq95 := hS94.sel [0, 1, 2, 3, 4] rfl
                have hq96 := hq95.head (r' := R.cel ty_29 F90 [v89] [y25, y55]) (rfl) fun _ h0 => ⟨_, rfl, h0⟩
                refine wl_lit1 (e := ty_29) (vs := [v89]) Try.underlying72 rfl rfl (cells_one (hS94.own_ro (i := 0) rfl).one) rfl hB93 hq96 ?_
                intro v97 F98 w99 hb100 hf101 hB102 hS103
                obtain ⟨u104, hu104, hF⟩ := bindE hF
                refine wl_appendn (e := ty_29) Try.underlying72 rfl rfl rfl hB102 (hS103.sel [3, 0, 1, 2, 4] rfl) hu104 ?_
                intro v105 F106 w107 hk108 hB109 hS110
                refine wl_assign rfl rfl ?_
                refine WL.nil ?_
                exact fun a ha => hJ70 (u104) (v105) (F106) _ hF hB109 (hS110.sel [1, 2, 0, 3] rfl) a (ha.sub ⟨rfl, rfl, rfl, rfl, rfl, rfl, rfl, rfl, rfl, trivial⟩)
              · replace hF := ifN h88 hF
                refine W.skip ?_
                exact fun a ha => hJ70 (l52) (v53) (F54) _ hF hB84 (hS85.sel [0, 1, 2, 3] rfl) a (ha.sub ⟨rfl, rfl, rfl, rfl, rfl, rfl, rfl, rfl, rfl, trivial⟩)
            · replace hF := ifN h61 hF
              refine W.exit ?_
              refine fun a ha => hK33 _ _ ?_ a ha
              refine W.region ?_
              refine wl_add rfl rfl rfl ?_
              refine wl_move rfl rfl ?_
              refine WL.nil ?_
              rw [hnx26] at hF
              exact fun a ha => hKL28 a _ m29 (Nat.lt_succ_self m29) ⟨l52, (w64 (y25 + 1)), v53, F54, ha.sub ⟨rfl, rfl, rfl, rfl, rfl, rfl, trivial⟩, hB50, (hS51.sel [0, 1, 2] rfl), hF⟩
      · replace hF := ifN h32 hF
        refine W.exit ?_
        refine fun a ha => hK17 _ _ ?_ a ha
        refine W.seq fun K111 hK111 => ?_
        refine W.region ?_
        refine wl_move rfl rfl ?_
        refine wl_assign rfl rfl ?_
        refine WL.nil ?_
        refine fun a ha => hK111 _ _ ?_ a ha
        refine W.ret ?_
        have hr := Option.some.inj hF
        subst hr
        exact rets (vs := [v23]) hQ rfl ⟨rv_tmp rfl, trivial⟩ ⟨v23, F24, rfl, hB20, hS21.sel [2] rfl⟩
theorem C_spec_ClosePairs (w0 : World) (x0 : ((List (List (Int × Int))) × (List Int) × Int × Int)) (v0_0 : Value) (h0_0 : rdS ty_63 (· < w0.heap.size) w0 v0_0 x0.1) (v0_1 : Value) (h0_1 : rdS ty_3 (· < w0.heap.size) w0 v0_1 x0.2.1) (x1 : Int) (r : ((List (List Int)) × Bool)) (hF : F_spec_ClosePairs x0 x1 = some r) :
    Calls Try.prog 67 [(.agg #[v0_0, v0_1, (.int .i64 x0.2.2.1), (.int .i64 x0.2.2.2)]), (.int .i64 x1)].toArray w0 fun e w' => ∃ (q0 : Value) (G0 : List Nat), e = .returned (.tuple #[q0, (.bool r.2)]) ∧ Below w0.heap.size w0 w' ∧ Sep w0.heap.size w' [R.own ty_29 G0 q0 r.1] := by
  refine calls_mk' Try.func67 rfl Try.ntmps67 rfl rfl fun Q hQ hP => ?_
  have hB : Below w0.heap.size w0 w0 := Below.refl _ _
  have hS : Sep w0.heap.size w0 [] := Sep.nil _ _
  unfold F_spec_ClosePairs at hF
  refine W.seq fun K1 hK1 => ?_
  refine W.region ?_
  refine wl_box (cs := [v0_0, v0_1, (.int .i64 x0.2.2.1), (.int .i64 x0.2.2.2)]) rfl rfl rfl hB hS ?_
  intro b2 w3 hb4 hB5 hS6
  refine wl_assign rfl rfl ?_
  refine wl_assign rfl rfl ?_
  refine WL.nil ?_
  refine fun a ha => hK1 _ _ ?_ a ha
  refine W.seq fun K7 hK7 => ?_
  refine W.seq fun K8 hK8 => ?_
  refine W.region ?_
  refine wl_load_blk (i := 0) (vs := [v0_0, v0_1, (.int .i64 x0.2.2.1), (.int .i64 x0.2.2.2)]) (v := (.agg #[v0_0, v0_1, (.int .i64 x0.2.2.1), (.int .i64 x0.2.2.2)])) tf_53 rfl rfl hS6 rfl rfl rfl ?_
  refine wl_move rfl rfl ?_
  obtain ⟨u9, hu9, hF⟩ := bindE hF
  refine wl_call rfl Try.call179 (C_spec_swHas w3 x0 v0_0 (h0_0.ro hB5) v0_1 (h0_1.ro hB5) x1 _ hu9) rfl ?_
  rintro _ w10 ⟨rfl, hb11⟩
  refine ⟨_, rfl, ?_⟩
  have hB12 := hB5.trans (hb11.mono hB5.size)
  have hS13 := hS6.below hb11
  refine wl_not rfl rfl ?_
  refine WL.nil ?_
  refine fun a ha => hK8 _ _ ?_ a ha
  refine W.cond rfl (fun h15 => ?_) (fun h15 => ?_)
  · replace hF := ifP h15 hF
    refine W.seq fun K16 hK16 => ?_
    refine W.region ?_
    refine wl_assign rfl rfl ?_
    refine wl_assign rfl rfl ?_
    refine WL.nil ?_
    refine fun a ha => hK16 _ _ ?_ a ha
    refine W.ret ?_
    have hS17 := hS13.push0 (r := R.own ty_29 [] (.slice none 0 0) []) rfl fun _ => .inl ⟨rfl, rfl, rfl⟩
    have hr := Option.some.inj hF
    subst hr
    exact rets (vs := [(.slice none 0 0), (.bool false)]) hQ rfl ⟨rv_tmp rfl, rv_tmp rfl, trivial⟩ ⟨(.slice none 0 0), [], rfl, hB12, hS17.sel [0] rfl⟩
  · replace hF := ifN h15 hF
    refine W.skip ?_
    refine fun a ha => hK7 _ _ ?_ a ha
    refine W.seq fun K18 hK18 => ?_
    refine W.region ?_
    refine wl_load_blk (i := 0) (vs := [v0_0, v0_1, (.int .i64 x0.2.2.1), (.int .i64 x0.2.2.2)]) (v := (.agg #[v0_0, v0_1, (.int .i64 x0.2.2.1), (.int .i64 x0.2.2.2)])) tf_53 rfl rfl hS13 rfl rfl rfl ?_
    refine wl_move rfl rfl ?_
    obtain ⟨u19, hu19, hF⟩ := bindE hF
    refine wl_call rfl Try.call180 (C_spec_swClose w10 x0 v0_0 (h0_0.ro hB12) v0_1 (h0_1.ro hB12) x1 _ hu19) rfl ?_
    rintro _ w22 ⟨v20, F21, rfl, hb23, hM26⟩
    refine ⟨_, rfl, ?_⟩
    have hB24 := hB12.trans (hb23.mono hB12.size)
    have hS25 := hS13.join hb23 hM26 hB12.size
    refine wl_assign rfl rfl ?_
    refine wl_assign rfl rfl ?_
    refine WL.nil ?_
    refine fun a ha => hK18 _ _ ?_ a ha
    refine W.ret ?_
    have hr := Option.some.inj hF
    subst hr
    exact rets (vs := [v20, (.bool true)]) hQ rfl ⟨rv_tmp rfl, rv_tmp rfl, trivial⟩ ⟨v20, F21, rfl, hB24, hS25.sel [0] rfl⟩
theorem C_laws_sameLists (w0 : World) (x0 : (List (List Int))) (v0_0 : Value) (h0_0 : rdS ty_29 (· < w0.heap.size) w0 v0_0 x0) (x1 : (List (List Int))) (v1_0 : Value) (h1_0 : rdS ty_29 (· < w0.heap.size) w0 v1_0 x1) (r : Bool) (hF : F_laws_sameLists x0 x1 = some r) :
    Calls Try.prog 68 [v0_0, v1_0].toArray w0 fun e w' => e = .returned (.bool r) ∧ Below w0.heap.size w0 w' := by
  refine calls_mk' Try.func68 rfl Try.ntmps68 rfl rfl fun Q hQ hP => ?_
  have hB : Below w0.heap.size w0 w0 := Below.refl _ _
  have hS : Sep w0.heap.size w0 [] := Sep.nil _ _
  unfold F_laws_sameLists at hF
  refine W.seq fun K1 hK1 => ?_
  refine W.region ?_
  refine wl_assign rfl rfl ?_
  refine WL.nil ?_
  refine fun a ha => hK1 _ _ ?_ a ha
  refine W.seq fun K2 hK2 => ?_
  refine W.seq fun K3 hK3 => ?_
  refine W.region ?_
  refine wl_move rfl rfl ?_
  refine wl_lenr (e := ty_29) (l := x0) Try.underlying72 rfl rfl h0_0 ?_
  refine wl_move rfl rfl ?_
  refine wl_lenr (e := ty_29) (l := x1) Try.underlying72 rfl rfl h1_0 ?_
  refine wl_neq rfl rfl rfl ?_
  refine WL.nil ?_
  refine fun a ha => hK3 _ _ ?_ a ha
  refine W.cond rfl (fun h4 => ?_) (fun h4 => ?_)
  · replace hF := ifP h4 hF
    refine W.seq fun K5 hK5 => ?_
    refine W.region ?_
    refine wl_assign rfl rfl ?_
    refine WL.nil ?_
    refine fun a ha => hK5 _ _ ?_ a ha
    refine W.ret ?_
    have hr := Option.some.inj hF
    subst hr
    exact rets (vs := [(.bool false)]) hQ rfl ⟨rv_tmp rfl, trivial⟩ ⟨rfl, hB⟩
  · replace hF := ifN h4 hF
    refine W.skip ?_
    refine fun a ha => hK2 _ _ ?_ a ha
    refine W.seq fun K6 hK6 => ?_
    refine W.seq fun K7 hK7 => ?_
    refine W.region ?_
    refine wl_move rfl rfl ?_
    refine wl_lenr (e := ty_29) (l := x0) Try.underlying72 rfl rfl h0_0 ?_
    refine wl_move rfl rfl ?_
    refine WL.nil ?_
    refine fun a ha => hK7 _ _ ?_ a ha
    refine W.block ?_
    refine W.loopk (fun m a w8 => ∃ (y11 : Int), St 27 [(0, v0_0), (1, v1_0), (12, (.int .i64 (List.length x0 : Int))), (13, (.int .i64 y11))] a ∧ Below w0.heap.size w0 w8 ∧ Sep w0.heap.size w8 [] ∧ F_laws_sameLists_L1 x0 x1 m y11 = some r) FU ?_ ?_
    ·
      exact fun a ha => ⟨0, ha.sub ⟨rfl, rfl, rfl, rfl, trivial⟩, hB, (hS.sel [] rfl), hF⟩
    ·
      rintro m14 a w8 ⟨y11, ha, hB9, hS10, hF⟩ KL13 hKL13
      refine W.at ?_ ha
      cases m14 with
      | zero => exact noneE hF
      | succ m14 =>
        obtain ⟨nx12, hnx12⟩ : ∃ k, k = F_laws_sameLists_L1 x0 x1 m14 := ⟨_, rfl⟩
        rw [F_laws_sameLists_L1, ← hnx12] at hF
        refine W.seq fun K15 hK15 => ?_
        refine W.region ?_
        refine wl_lss rfl rfl rfl ?_
        refine WL.nil ?_
        refine fun a ha => hK15 _ _ ?_ a ha
        refine W.seq fun K16 hK16 => ?_
        refine W.cond rfl (fun h17 => ?_) (fun h17 => ?_)
        · replace hF := ifP h17 hF
          refine W.skip ?_
          refine fun a ha => hK16 _ _ ?_ a ha
          refine W.seq fun K18 hK18 => ?_
          refine W.block ?_
          refine W.seq fun K19 hK19 => ?_
          refine W.region ?_
          refine wl_move rfl rfl ?_
          refine wl_assign rfl rfl ?_
          refine WL.nil ?_
          refine fun a ha => hK19 _ _ ?_ a ha
          refine W.seq fun K20 hK20 => ?_
          refine W.regionH mixed_ [] hB9 hS10 ?_
          intro w21 hb22 hB23 hS24
          have hSW25 := KeepX.refl w21 []
          refine WH.takex (i := 0) rfl (by kernel_rfl) (by kernel_rfl) (by kernel_rfl) hP hSW25 ?_
          refine pr_move rfl rfl ?_
          refine WH.takex (i := 1) rfl (by kernel_rfl) (by kernel_rfl) (by kernel_rfl) hP hSW25 ?_
          refine pr_move rfl rfl ?_
          obtain ⟨u26, hu26, hF⟩ := bindE hF
          refine WH.takex (i := 2) rfl (by kernel_rfl) (by kernel_rfl) (by kernel_rfl) hP hSW25 ?_
          refine pr_index (e := ty_29) Try.underlying72 rfl rfl rfl h0_0 hu26 ?_
          rintro p27 _ ⟨v29, rfl, hv30⟩ hp28
          refine WH.takex (i := 3) rfl (by kernel_rfl) (by kernel_rfl) (by kernel_rfl) hP hSW25 ?_
          refine pr_load_p (vs := [v29]) (v := v29) tf_29 rfl rfl (hp28.kx hB23 (by simp)) rfl rfl ?_
          refine WH.takex (i := 4) rfl (by kernel_rfl) (by kernel_rfl) (by kernel_rfl) hP hSW25 ?_
          refine pr_move rfl rfl ?_
          refine WH.takex (i := 5) rfl (by kernel_rfl) (by kernel_rfl) (by kernel_rfl) hP hSW25 ?_
          refine pr_move rfl rfl ?_
          obtain ⟨u31, hu31, hF⟩ := bindE hF
          refine WH.takex (i := 6) rfl (by kernel_rfl) (by kernel_rfl) (by kernel_rfl) hP hSW25 ?_
          refine pr_index (e := ty_29) Try.underlying72 rfl rfl rfl h1_0 hu31 ?_
          rintro p32 _ ⟨v34, rfl, hv35⟩ hp33
          refine WH.takex (i := 7) rfl (by kernel_rfl) (by kernel_rfl) (by kernel_rfl) hP hSW25 ?_
          refine pr_load_p (vs := [v34]) (v := v34) tf_29 rfl rfl (hp33.kx hB23 (by simp)) rfl rfl ?_
          refine WH.one (i := 8) (by kernel_rfl) rfl ?_
          obtain ⟨u36, hu36, hF⟩ := bindE hF
          refine wl_call rfl Try.call71 (C_laws_sameInts w21 u26 v29 (hv30.ro hB23) u31 v34 (hv35.ro hB23) _ hu36) rfl ?_
          rintro _ w37 ⟨rfl, hb38⟩
          refine ⟨_, rfl, ?_⟩
          have hB39 := hB23.trans (hb38.mono hB23.size)
          have hS40 := hS24.below hb38
          have hSW42 := hSW25.ext hb38
          refine WL.nil (WH.ret hSW42 ?_)
          refine WH.takex (i := 9) rfl (by kernel_rfl) (by kernel_rfl) (by kernel_rfl) hP hSW42 ?_
          refine pr_not rfl rfl ?_
          refine WH.done (by kernel_rfl) ?_
          refine fun a ha => hK20 _ _ ?_ a ha
          refine W.cond rfl (fun h43 => ?_) (fun h43 => ?_)
          · replace hF := ifP h43 hF
            refine W.seq fun K44 hK44 => ?_
            refine W.region ?_
            refine wl_assign rfl rfl ?_
            refine WL.nil ?_
            refine fun a ha => hK44 _ _ ?_ a ha
            refine W.ret ?_
            have hr := Option.some.inj hF
            subst hr
            exact rets (vs := [(.bool false)]) hQ rfl ⟨rv_tmp rfl, trivial⟩ ⟨rfl, hB39⟩
          · replace hF := ifN h43 hF
            refine W.skip ?_
            refine fun a ha => hK18 _ _ ?_ a ha
            refine W.region ?_
            refine wl_add rfl rfl rfl ?_
            refine wl_move rfl rfl ?_
            refine WL.nil ?_
            rw [hnx12] at hF
            exact fun a ha => hKL13 a _ m14 (Nat.lt_succ_self m14) ⟨(w64 (y11 + 1)), ha.sub ⟨rfl, rfl, rfl, rfl, trivial⟩, hB39, (hS40.sel [] rfl), hF⟩
        · replace hF := ifN h17 hF
          refine W.exit ?_
          refine fun a ha => hK6 _ _ ?_ a ha
          refine W.seq fun K45 hK45 => ?_
          refine W.region ?_
          refine wl_assign rfl rfl ?_
          refine WL.nil ?_
          refine fun a ha => hK45 _ _ ?_ a ha
          refine W.ret ?_
          have hr := Option.some.inj hF
          subst hr
          exact rets (vs := [(.bool true)]) hQ rfl ⟨rv_tmp rfl, trivial⟩ ⟨rfl, hB9⟩
theorem C_impl_withinStep (w0 : World) (x0 : ((Int × Int) × (Int × Int) × Int)) (x1 : Int) (r : Bool) (hF : F_impl_withinStep x0 x1 = some r) :
    Calls Try.prog 244 [(.agg #[(.int .i64 x0.1.1), (.int .i64 x0.1.2), (.int .i64 x0.2.1.1), (.int .i64 x0.2.1.2), (.int .i64 x0.2.2)]), (.int .i64 x1)].toArray w0 fun e w' => e = .returned (.bool r) ∧ Below w0.heap.size w0 w' := by
  refine calls_mk' Try.func244 rfl Try.ntmps244 rfl rfl fun Q hQ hP => ?_
  have hB : Below w0.heap.size w0 w0 := Below.refl _ _
  have hS : Sep w0.heap.size w0 [] := Sep.nil _ _
  unfold F_impl_withinStep at hF
  refine W.seq fun K1 hK1 => ?_
  refine W.region ?_
  refine wl_box (cs := [(.int .i64 x0.1.1), (.int .i64 x0.1.2), (.int .i64 x0.2.1.1), (.int .i64 x0.2.1.2), (.int .i64 x0.2.2)]) rfl rfl rfl hB hS ?_
  intro b2 w3 hb4 hB5 hS6
  refine wl_assign rfl rfl ?_
  refine WL.nil ?_
  refine fun a ha => hK1 _ _ ?_ a ha
  refine W.seq fun K7 hK7 => ?_
  refine W.regionH mixed_ [] hB5 hS6 ?_
  intro w8 hb9 hB10 hS11
  have hSW12 := KeepX.refl w8 []
  refine WH.takex (i := 0) rfl (by kernel_rfl) (by kernel_rfl) (by kernel_rfl) hP hSW12 ?_
  refine pr_field (o := 0) (off' := 0) ff_70_0 rfl rfl rfl ?_
  refine WH.takex (i := 1) rfl (by kernel_rfl) (by kernel_rfl) (by kernel_rfl) hP hSW12 ?_
  refine pr_load_blk (i := 0) (vs := [(.int .i64 x0.1.1), (.int .i64 x0.1.2)]) (v := (.agg #[(.int .i64 x0.1.1), (.int .i64 x0.1.2)])) tf_68 rfl rfl hS11 rfl rfl rfl (by simp) ?_
  refine WH.takex (i := 2) rfl (by kernel_rfl) (by kernel_rfl) (by kernel_rfl) hP hSW12 ?_
  refine pr_field (o := 2) (off' := 2) ff_70_1 rfl rfl rfl ?_
  refine WH.takex (i := 3) rfl (by kernel_rfl) (by kernel_rfl) (by kernel_rfl) hP hSW12 ?_
  refine pr_load_blk (i := 0) (vs := [(.int .i64 x0.2.1.1), (.int .i64 x0.2.1.2)]) (v := (.agg #[(.int .i64 x0.2.1.1), (.int .i64 x0.2.1.2)])) tf_68 rfl rfl hS11 rfl rfl rfl (by simp) ?_
  refine WH.takex (i := 5) rfl (by kernel_rfl) (by kernel_rfl) (by kernel_rfl) hP hSW12 ?_
  refine pr_move rfl rfl ?_
  refine WH.takex (i := 6) rfl (by kernel_rfl) (by kernel_rfl) (by kernel_rfl) hP hSW12 ?_
  refine pr_move rfl rfl ?_
  refine WH.takex (i := 7) rfl (by kernel_rfl) (by kernel_rfl) (by kernel_rfl) hP hSW12 ?_
  refine pr_mul rfl rfl rfl ?_
  refine WH.takex (i := 8) rfl (by kernel_rfl) (by kernel_rfl) (by kernel_rfl) hP hSW12 ?_
  refine pr_field (o := 4) (off' := 4) ff_70_2 rfl rfl rfl ?_
  refine WH.takex (i := 9) rfl (by kernel_rfl) (by kernel_rfl) (by kernel_rfl) hP hSW12 ?_
  refine pr_load_blk (i := 0) (vs := [(.int .i64 x0.2.2)]) (v := (.int .i64 x0.2.2)) tf_3 rfl rfl hS11 rfl rfl rfl (by simp) ?_
  refine WH.takex (i := 10) rfl (by kernel_rfl) (by kernel_rfl) (by kernel_rfl) hP hSW12 ?_
  refine pr_mul rfl rfl rfl ?_
  refine WH.takex (i := 11) rfl (by kernel_rfl) (by kernel_rfl) (by kernel_rfl) hP hSW12 ?_
  refine pr_field (o := 4) (off' := 4) ff_70_2 rfl rfl rfl ?_
  refine WH.takex (i := 12) rfl (by kernel_rfl) (by kernel_rfl) (by kernel_rfl) hP hSW12 ?_
  refine pr_load_blk (i := 0) (vs := [(.int .i64 x0.2.2)]) (v := (.int .i64 x0.2.2)) tf_3 rfl rfl hS11 rfl rfl rfl (by simp) ?_
  refine WH.takex (i := 13) rfl (by kernel_rfl) (by kernel_rfl) (by kernel_rfl) hP hSW12 ?_
  refine pr_mul rfl rfl rfl ?_
  refine WH.one (i := 4) (by kernel_rfl) rfl ?_
  obtain ⟨u13, hu13, hF⟩ := bindE hF
  refine wl_call rfl Try.call153 (C_impl_squareOf w8 x0.1 x0.2.1 _ hu13) rfl ?_
  rintro _ w14 ⟨rfl, hb15⟩
  refine ⟨_, rfl, ?_⟩
  have hB16 := hB10.trans (hb15.mono hB10.size)
  have hS17 := hS11.below hb15
  have hSW19 := hSW12.ext hb15
  refine WL.nil (WH.ret hSW19 ?_)
  refine WH.takex (i := 14) rfl (by kernel_rfl) (by kernel_rfl) (by kernel_rfl) hP hSW19 ?_
  refine pr_leq rfl rfl rfl ?_
  refine WH.takex (i := 15) rfl (by kernel_rfl) (by kernel_rfl) (by kernel_rfl) hP hSW19 ?_
  refine pr_assign rfl rfl ?_
  refine WH.done (by kernel_rfl) ?_
  refine fun a ha => hK7 _ _ ?_ a ha
  refine W.ret ?_
  have hr := Option.some.inj hF
  subst hr
  exact rets (vs := [(.bool (decide (u13 ≤ (w64 ((w64 ((w64 (x1 * x1)) * x0.2.2)) * x0.2.2)))))]) hQ rfl ⟨rv_tmp rfl, trivial⟩ ⟨rfl, hB16⟩
theorem C_impl_wideSteps (w0 : World) (x0 : ((List (List (Int × Int))) × (List Int) × Int × Int)) (v0_0 : Value) (h0_0 : rdS ty_63 (· < w0.heap.size) w0 v0_0 x0.1) (v0_1 : Value) (h0_1 : rdS ty_3 (· < w0.heap.size) w0 v0_1 x0.2.1) (x1 : Int) (r : (List Int)) (hF : F_impl_wideSteps x0 x1 = some r) :
    Calls Try.prog 181 [(.agg #[v0_0, v0_1, (.int .i64 x0.2.2.1), (.int .i64 x0.2.2.2)]), (.int .i64 x1)].toArray w0 fun e w' => ∃ (q0 : Value) (G0 : List Nat), e = .returned q0 ∧ Below w0.heap.size w0 w' ∧ Sep w0.heap.size w' [R.own ty_3 G0 q0 r] := by
  refine calls_mk' Try.func181 rfl Try.ntmps181 rfl rfl fun Q hQ hP => ?_
  have hB : Below w0.heap.size w0 w0 := Below.refl _ _
  have hS : Sep w0.heap.size w0 [] := Sep.nil _ _
  unfold F_impl_wideSteps at hF
  refine W.seq fun K1 hK1 => ?_
  refine W.region ?_
  refine wl_box (cs := [v0_0, v0_1, (.int .i64 x0.2.2.1), (.int .i64 x0.2.2.2)]) rfl rfl rfl hB hS ?_
  intro b2 w3 hb4 hB5 hS6
  refine wl_assign rfl rfl ?_
  refine WL.nil ?_
  refine fun a ha => hK1 _ _ ?_ a ha
  refine W.seq fun K7 hK7 => ?_
  refine W.region ?_
  refine wl_lit (vs := []) (l := []) fl_3 Try.underlying29 rfl rfl rfl rfl rfl rfl hB5 hS6 ?_
  intro v8 F9 w10 hb11 hB12 hS13
  refine wl_assign rfl rfl ?_
  refine WL.nil ?_
  refine fun a ha => hK7 _ _ ?_ a ha
  refine W.seq fun K14 hK14 => ?_
  refine W.seq fun K15 hK15 => ?_
  refine W.region ?_
  refine wl_load_blk (i := 1) (vs := [v0_0, v0_1, (.int .i64 x0.2.2.1), (.int .i64 x0.2.2.2)]) (v := (.agg #[v0_0, v0_1, (.int .i64 x0.2.2.1), (.int .i64 x0.2.2.2)])) tf_53 rfl rfl hS13 rfl rfl rfl ?_
  refine wl_move rfl rfl ?_
  obtain ⟨u16, hu16, hF⟩ := bindE hF
  refine wl_call rfl Try.call152 (C_impl_showMoves w10 x0 v0_0 (h0_0.ro hB12) v0_1 (h0_1.ro hB12) x1 _ hu16) rfl ?_
  rintro _ w19 ⟨v17, F18, rfl, hb20, hM23⟩
  refine ⟨_, rfl, ?_⟩
  have hB21 := hB12.trans (hb20.mono hB12.size)
  have hS22 := hS13.join hb20 hM23 hB12.size
  refine wl_lenr (e := ty_70) (l := u16) Try.underlying64 rfl rfl (hS22.own_ro (i := 0) rfl) ?_
  refine wl_move rfl rfl ?_
  refine WL.nil ?_
  refine fun a ha => hK15 _ _ ?_ a ha
  refine W.block ?_
  refine W.loopk (fun m a w24 => ∃ (l27 : (List Int)) (y30 : Int) (v28 : Value) (F29 : List Nat), St 29 [(2, (.pointer (some ⟨b2, 0, none⟩))), (5, v28), (11, v17), (12, (.int .i64 (List.length u16 : Int))), (13, (.int .i64 y30))] a ∧ Below w0.heap.size w0 w24 ∧ Sep w0.heap.size w24 [R.blk b2 53 [v0_0, v0_1, (.int .i64 x0.2.2.1), (.int .i64 x0.2.2.2)], R.own ty_3 F29 v28 l27, R.own ty_70 F18 v17 u16] ∧ F_impl_wideSteps_L1 u16 x0 m l27 y30 = some r) FU ?_ ?_
  ·
    exact fun a ha => ⟨[], 0, v8, F9, ha.sub ⟨rfl, rfl, rfl, rfl, rfl, trivial⟩, hB21, (hS22.sel [2, 1, 0] rfl), hF⟩
  ·
    rintro m33 a w24 ⟨l27, y30, v28, F29, ha, hB25, hS26, hF⟩ KL32 hKL32
    refine W.at ?_ ha
    cases m33 with
    | zero => exact noneE hF
    | succ m33 =>
      obtain ⟨nx31, hnx31⟩ : ∃ k, k = F_impl_wideSteps_L1 u16 x0 m33 := ⟨_, rfl⟩
      rw [F_impl_wideSteps_L1, ← hnx31] at hF
      refine W.seq fun K34 hK34 => ?_
      refine W.region ?_
      refine wl_lss rfl rfl rfl ?_
      refine WL.nil ?_
      refine fun a ha => hK34 _ _ ?_ a ha
      refine W.seq fun K35 hK35 => ?_
      refine W.cond rfl (fun h36 => ?_) (fun h36 => ?_)
      · replace hF := ifP h36 hF
        refine W.skip ?_
        refine fun a ha => hK35 _ _ ?_ a ha
        refine W.seq fun K37 hK37 => ?_
        obtain ⟨k44, hk44, hF⟩ := jE1 hF
        have hJ45 : ∀ (l41 : (List Int)) (v42 : Value) (F43 : List Nat) (w38 : World) (_ : k44 l41 = some r) (_ : Below w0.heap.size w0 w38) (_ : Sep w0.heap.size w38 [R.blk b2 53 [v0_0, v0_1, (.int .i64 x0.2.2.1), (.int .i64 x0.2.2.2)], R.own ty_3 F43 v42 l41, R.own ty_70 F18 v17 u16]), ∀ a, St 29 [(2, (.pointer (some ⟨b2, 0, none⟩))), (5, v42), (11, v17), (12, (.int .i64 (List.length u16 : Int))), (13, (.int .i64 y30))] a → K37 a w38 := by
          intro l41 v42 F43 w38 hF hB39 hS40
          subst hk44
          refine fun a ha => hK37 _ _ ?_ a ha
          refine W.region ?_
          refine wl_add rfl rfl rfl ?_
          refine wl_move rfl rfl ?_
          refine WL.nil ?_
          rw [hnx31] at hF
          exact fun a ha => hKL32 a _ m33 (Nat.lt_succ_self m33) ⟨l41, (w64 (y30 + 1)), v42, F43, ha.sub ⟨rfl, rfl, rfl, rfl, rfl, trivial⟩, hB39, (hS40.sel [0, 1, 2] rfl), hF⟩
        refine W.block ?_
        refine W.seq fun K46 hK46 => ?_
        refine W.region ?_
        refine wl_move rfl rfl ?_
        obtain ⟨u47, hu47, hF⟩ := bindE hF
        refine wl_indexo (e := ty_70) (i := 2) Try.underlying64 rfl rfl rfl hS26 rfl hu47 ?_
        rintro p48 _ rfl hp49 ho50
        refine wl_load_p (vs := [(.int .i64 u47.1.1), (.int .i64 u47.1.2), (.int .i64 u47.2.1.1), (.int .i64 u47.2.1.2), (.int .i64 u47.2.2)]) (v := (.agg #[(.int .i64 u47.1.1), (.int .i64 u47.1.2), (.int .i64 u47.2.1.1), (.int .i64 u47.2.1.2), (.int .i64 u47.2.2)])) tf_70 rfl rfl hp49 rfl rfl ?_
        refine wl_alloc (cs := [(.int .i64 0), (.int .i64 0), (.int .i64 0), (.int .i64 0), (.int .i64 0)]) tf_70 rfl rfl hB25 hS26 ?_
        intro b51 w52 hb53 hB54 hS55
        refine wl_assign rfl rfl ?_
        refine wl_store_blk (i := 0) (vs := [(.int .i64 u47.1.1), (.int .i64 u47.1.2), (.int .i64 u47.2.1.1), (.int .i64 u47.2.1.2), (.int .i64 u47.2.2)]) (cs' := [(.int .i64 u47.1.1), (.int .i64 u47.1.2), (.int .i64 u47.2.1.1), (.int .i64 u47.2.1.2), (.int .i64 u47.2.2)]) tf_70 rfl rfl rfl rfl hB54 hS55 rfl rfl ⟨rfl, rfl, rfl, rfl, rfl, trivial⟩ rfl ?_
        intro w56 hk59 hB57 hS58
        refine WL.nil ?_
        refine fun a ha => hK46 _ _ ?_ a ha
        refine W.seq fun K60 hK60 => ?_
        refine W.region ?_
        refine wl_load_blk (i := 0) (vs := [(.int .i64 u47.1.1), (.int .i64 u47.1.2), (.int .i64 u47.2.1.1), (.int .i64 u47.2.1.2), (.int .i64 u47.2.2)]) (v := (.agg #[(.int .i64 u47.1.1), (.int .i64 u47.1.2), (.int .i64 u47.2.1.1), (.int .i64 u47.2.1.2), (.int .i64 u47.2.2)])) tf_70 rfl rfl hS58 rfl rfl rfl ?_
        refine wl_field (o := 3) (off' := 3) ff_53_3 rfl rfl rfl ?_
        refine wl_load_blk (i := 1) (vs := [(.int .i64 x0.2.2.2)]) (v := (.int .i64 x0.2.2.2)) tf_3 rfl rfl hS58 rfl rfl rfl ?_
        obtain ⟨u61, hu61, hF⟩ := bindE hF
        refine wl_call rfl Try.call244 (C_impl_withinStep w56 u47 x0.2.2.2 _ hu61) rfl ?_
        rintro _ w62 ⟨rfl, hb63⟩
        refine ⟨_, rfl, ?_⟩
        have hB64 := hB57.trans (hb63.mono hB57.size)
        have hS65 := hS58.below hb63
        refine wl_not rfl rfl ?_
        refine WL.nil ?_
        refine fun a ha => hK60 _ _ ?_ a ha
        refine W.cond rfl (fun h67 => ?_) (fun h67 => ?_)
        · replace hF := ifP h67 hF
          refine W.region ?_
          refine wl_move rfl rfl ?_
          refine wl_move rfl rfl ?_
          refine wl_lit (vs := [(.int .i64 y30)]) (l := [y30]) fl_3 Try.underlying29 rfl rfl rfl rfl rfl rfl hB64 hS65 ?_
          intro v68 F69 w70 hb71 hB72 hS73
          obtain ⟨u74, hu74, hF⟩ := bindE hF
          refine wl_append (i := 3) (S := (· < w70.heap.size)) fl_3 Try.underlying29 rfl rfl rfl hB72 hS73 rfl (hS73.own_ro (i := 0) rfl) hu74 ?_
          intro v75 F76 w77 hk78 hB79 hS80
          refine wl_assign rfl rfl ?_
          refine WL.nil ?_
          exact fun a ha => hJ45 (u74) (v75) (F76) _ hF hB79 (hS80.sel [2, 3, 4] rfl) a (ha.sub ⟨rfl, rfl, rfl, rfl, rfl, trivial⟩)
        · replace hF := ifN h67 hF
          refine W.skip ?_
          exact fun a ha => hJ45 (l27) (v28) (F29) _ hF hB64 (hS65.sel [1, 2, 3] rfl) a (ha.sub ⟨rfl, rfl, rfl, rfl, rfl, trivial⟩)
      · replace hF := ifN h36 hF
        refine W.exit ?_
        refine fun a ha => hK14 _ _ ?_ a ha
        refine W.seq fun K81 hK81 => ?_
        refine W.region ?_
        refine wl_move rfl rfl ?_
        refine wl_assign rfl rfl ?_
        refine WL.nil ?_
        refine fun a ha => hK81 _ _ ?_ a ha
        refine W.ret ?_
        have hr := Option.some.inj hF
        subst hr
        exact rets (vs := [v28]) hQ rfl ⟨rv_tmp rfl, trivial⟩ ⟨v28, F29, rfl, hB25, hS26.sel [1] rfl⟩
theorem C_impl_WideSteps (w0 : World) (x0 : ((List (List (Int × Int))) × (List Int) × Int × Int)) (v0_0 : Value) (h0_0 : rdS ty_63 (· < w0.heap.size) w0 v0_0 x0.1) (v0_1 : Value) (h0_1 : rdS ty_3 (· < w0.heap.size) w0 v0_1 x0.2.1) (x1 : Int) (r : ((List Int) × Bool)) (hF : F_impl_WideSteps x0 x1 = some r) :
    Calls Try.prog 69 [(.agg #[v0_0, v0_1, (.int .i64 x0.2.2.1), (.int .i64 x0.2.2.2)]), (.int .i64 x1)].toArray w0 fun e w' => ∃ (q0 : Value) (G0 : List Nat), e = .returned (.tuple #[q0, (.bool r.2)]) ∧ Below w0.heap.size w0 w' ∧ Sep w0.heap.size w' [R.own ty_3 G0 q0 r.1] := by
  refine calls_mk' Try.func69 rfl Try.ntmps69 rfl rfl fun Q hQ hP => ?_
  have hB : Below w0.heap.size w0 w0 := Below.refl _ _
  have hS : Sep w0.heap.size w0 [] := Sep.nil _ _
  unfold F_impl_WideSteps at hF
  refine W.seq fun K1 hK1 => ?_
  refine W.region ?_
  refine wl_box (cs := [v0_0, v0_1, (.int .i64 x0.2.2.1), (.int .i64 x0.2.2.2)]) rfl rfl rfl hB hS ?_
  intro b2 w3 hb4 hB5 hS6
  refine wl_assign rfl rfl ?_
  refine wl_assign rfl rfl ?_
  refine WL.nil ?_
  refine fun a ha => hK1 _ _ ?_ a ha
  refine W.seq fun K7 hK7 => ?_
  refine W.seq fun K8 hK8 => ?_
  refine W.region ?_
  refine wl_load_blk (i := 0) (vs := [v0_0, v0_1, (.int .i64 x0.2.2.1), (.int .i64 x0.2.2.2)]) (v := (.agg #[v0_0, v0_1, (.int .i64 x0.2.2.1), (.int .i64 x0.2.2.2)])) tf_53 rfl rfl hS6 rfl rfl rfl ?_
  refine wl_move rfl rfl ?_
  obtain ⟨u9, hu9, hF⟩ := bindE hF
  refine wl_call rfl Try.call163 (C_impl_isPart w3 x0 v0_0 (h0_0.ro hB5) v0_1 (h0_1.ro hB5) x1 _ hu9) rfl ?_
  rintro _ w10 ⟨rfl, hb11⟩
  refine ⟨_, rfl, ?_⟩
  have hB12 := hB5.trans (hb11.mono hB5.size)
  have hS13 := hS6.below hb11
  refine wl_not rfl rfl ?_
  refine WL.nil ?_
  refine fun a ha => hK8 _ _ ?_ a ha
  refine W.cond rfl (fun h15 => ?_) (fun h15 => ?_)
  · replace hF := ifP h15 hF
    refine W.seq fun K16 hK16 => ?_
    refine W.region ?_
    refine wl_assign rfl rfl ?_
    refine wl_assign rfl rfl ?_
    refine WL.nil ?_
    refine fun a ha => hK16 _ _ ?_ a ha
    refine W.ret ?_
    have hS17 := hS13.push0 (r := R.own ty_3 [] (.slice none 0 0) []) rfl fun _ => .inl ⟨rfl, rfl, rfl⟩
    have hr := Option.some.inj hF
    subst hr
    exact rets (vs := [(.slice none 0 0), (.bool false)]) hQ rfl ⟨rv_tmp rfl, rv_tmp rfl, trivial⟩ ⟨(.slice none 0 0), [], rfl, hB12, hS17.sel [0] rfl⟩
  · replace hF := ifN h15 hF
    refine W.skip ?_
    refine fun a ha => hK7 _ _ ?_ a ha
    refine W.seq fun K18 hK18 => ?_
    refine W.region ?_
    refine wl_load_blk (i := 0) (vs := [v0_0, v0_1, (.int .i64 x0.2.2.1), (.int .i64 x0.2.2.2)]) (v := (.agg #[v0_0, v0_1, (.int .i64 x0.2.2.1), (.int .i64 x0.2.2.2)])) tf_53 rfl rfl hS13 rfl rfl rfl ?_
    refine wl_move rfl rfl ?_
    obtain ⟨u19, hu19, hF⟩ := bindE hF
    refine wl_call rfl Try.call181 (C_impl_wideSteps w10 x0 v0_0 (h0_0.ro hB12) v0_1 (h0_1.ro hB12) x1 _ hu19) rfl ?_
    rintro _ w22 ⟨v20, F21, rfl, hb23, hM26⟩
    refine ⟨_, rfl, ?_⟩
    have hB24 := hB12.trans (hb23.mono hB12.size)
    have hS25 := hS13.join hb23 hM26 hB12.size
    refine wl_assign rfl rfl ?_
    refine wl_assign rfl rfl ?_
    refine WL.nil ?_
    refine fun a ha => hK18 _ _ ?_ a ha
    refine W.ret ?_
    have hr := Option.some.inj hF
    subst hr
    exact rets (vs := [v20, (.bool true)]) hQ rfl ⟨rv_tmp rfl, rv_tmp rfl, trivial⟩ ⟨v20, F21, rfl, hB24, hS25.sel [0] rfl⟩
theorem C_spec_mvWithin (w0 : World) (x0 : ((Int × Int) × (Int × Int) × Int)) (x1 : Int) (r : Bool) (hF : F_spec_mvWithin x0 x1 = some r) :
    Calls Try.prog 210 [(.agg #[(.int .i64 x0.1.1), (.int .i64 x0.1.2), (.int .i64 x0.2.1.1), (.int .i64 x0.2.1.2), (.int .i64 x0.2.2)]), (.int .i64 x1)].toArray w0 fun e w' => e = .returned (.bool r) ∧ Below w0.heap.size w0 w' := by
  refine calls_mk' Try.func210 rfl Try.ntmps210 rfl rfl fun Q hQ hP => ?_
  have hB : Below w0.heap.size w0 w0 := Below.refl _ _
  have hS : Sep w0.heap.size w0 [] := Sep.nil _ _
  unfold F_spec_mvWithin at hF
  refine W.seq fun K1 hK1 => ?_
  refine W.region ?_
  refine wl_box (cs := [(.int .i64 x0.1.1), (.int .i64 x0.1.2), (.int .i64 x0.2.1.1), (.int .i64 x0.2.1.2), (.int .i64 x0.2.2)]) rfl rfl rfl hB hS ?_
  intro b2 w3 hb4 hB5 hS6
  refine wl_assign rfl rfl ?_
  refine WL.nil ?_
  refine fun a ha => hK1 _ _ ?_ a ha
  refine W.seq fun K7 hK7 => ?_
  refine W.regionH mixed_ [] hB5 hS6 ?_
  intro w8 hb9 hB10 hS11
  have hSW12 := KeepX.refl w8 []
  refine WH.takex (i := 0) rfl (by kernel_rfl) (by kernel_rfl) (by kernel_rfl) hP hSW12 ?_
  refine pr_field (o := 0) (off' := 0) ff_70_0 rfl rfl rfl ?_
  refine WH.takex (i := 1) rfl (by kernel_rfl) (by kernel_rfl) (by kernel_rfl) hP hSW12 ?_
  refine pr_load_blk (i := 0) (vs := [(.int .i64 x0.1.1), (.int .i64 x0.1.2)]) (v := (.agg #[(.int .i64 x0.1.1), (.int .i64 x0.1.2)])) tf_68 rfl rfl hS11 rfl rfl rfl (by simp) ?_
  refine WH.takex (i := 2) rfl (by kernel_rfl) (by kernel_rfl) (by kernel_rfl) hP hSW12 ?_
  refine pr_field (o := 2) (off' := 2) ff_70_1 rfl rfl rfl ?_
  refine WH.takex (i := 3) rfl (by kernel_rfl) (by kernel_rfl) (by kernel_rfl) hP hSW12 ?_
  refine pr_load_blk (i := 0) (vs := [(.int .i64 x0.2.1.1), (.int .i64 x0.2.1.2)]) (v := (.agg #[(.int .i64 x0.2.1.1), (.int .i64 x0.2.1.2)])) tf_68 rfl rfl hS11 rfl rfl rfl (by simp) ?_
  refine WH.takex (i := 5) rfl (by kernel_rfl) (by kernel_rfl) (by kernel_rfl) hP hSW12 ?_
  refine pr_move rfl rfl ?_
  refine WH.takex (i := 6) rfl (by kernel_rfl) (by kernel_rfl) (by kernel_rfl) hP hSW12 ?_
  refine pr_move rfl rfl ?_
  refine WH.takex (i := 7) rfl (by kernel_rfl) (by kernel_rfl) (by kernel_rfl) hP hSW12 ?_
  refine pr_mul rfl rfl rfl ?_
  refine WH.takex (i := 8) rfl (by kernel_rfl) (by kernel_rfl) (by kernel_rfl) hP hSW12 ?_
  refine pr_field (o := 4) (off' := 4) ff_70_2 rfl rfl rfl ?_
  refine WH.takex (i := 9) rfl (by kernel_rfl) (by kernel_rfl) (by kernel_rfl) hP hSW12 ?_
  refine pr_load_blk (i := 0) (vs := [(.int .i64 x0.2.2)]) (v := (.int .i64 x0.2.2)) tf_3 rfl rfl hS11 rfl rfl rfl (by simp) ?_
  refine WH.takex (i := 10) rfl (by kernel_rfl) (by kernel_rfl) (by kernel_rfl) hP hSW12 ?_
  refine pr_mul rfl rfl rfl ?_
  refine WH.takex (i := 11) rfl (by kernel_rfl) (by kernel_rfl) (by kernel_rfl) hP hSW12 ?_
  refine pr_field (o := 4) (off' := 4) ff_70_2 rfl rfl rfl ?_
  refine WH.takex (i := 12) rfl (by kernel_rfl) (by kernel_rfl) (by kernel_rfl) hP hSW12 ?_
  refine pr_load_blk (i := 0) (vs := [(.int .i64 x0.2.2)]) (v := (.int .i64 x0.2.2)) tf_3 rfl rfl hS11 rfl rfl rfl (by simp) ?_
  refine WH.takex (i := 13) rfl (by kernel_rfl) (by kernel_rfl) (by kernel_rfl) hP hSW12 ?_
  refine pr_mul rfl rfl rfl ?_
  refine WH.one (i := 4) (by kernel_rfl) rfl ?_
  obtain ⟨u13, hu13, hF⟩ := bindE hF
  refine wl_call rfl Try.call197 (C_spec_stSquare w8 x0.1 x0.2.1 _ hu13) rfl ?_
  rintro _ w14 ⟨rfl, hb15⟩
  refine ⟨_, rfl, ?_⟩
  have hB16 := hB10.trans (hb15.mono hB10.size)
  have hS17 := hS11.below hb15
  have hSW19 := hSW12.ext hb15
  refine WL.nil (WH.ret hSW19 ?_)
  refine WH.takex (i := 14) rfl (by kernel_rfl) (by kernel_rfl) (by kernel_rfl) hP hSW19 ?_
  refine pr_leq rfl rfl rfl ?_
  refine WH.takex (i := 15) rfl (by kernel_rfl) (by kernel_rfl) (by kernel_rfl) hP hSW19 ?_
  refine pr_assign rfl rfl ?_
  refine WH.done (by kernel_rfl) ?_
  refine fun a ha => hK7 _ _ ?_ a ha
  refine W.ret ?_
  have hr := Option.some.inj hF
  subst hr
  exact rets (vs := [(.bool (decide (u13 ≤ (w64 ((w64 ((w64 (x1 * x1)) * x0.2.2)) * x0.2.2)))))]) hQ rfl ⟨rv_tmp rfl, trivial⟩ ⟨rfl, hB16⟩
theorem C_spec_swWide (w0 : World) (x0 : ((List (List (Int × Int))) × (List Int) × Int × Int)) (v0_0 : Value) (h0_0 : rdS ty_63 (· < w0.heap.size) w0 v0_0 x0.1) (v0_1 : Value) (h0_1 : rdS ty_3 (· < w0.heap.size) w0 v0_1 x0.2.1) (x1 : Int) (r : (List Int)) (hF : F_spec_swWide x0 x1 = some r) :
    Calls Try.prog 182 [(.agg #[v0_0, v0_1, (.int .i64 x0.2.2.1), (.int .i64 x0.2.2.2)]), (.int .i64 x1)].toArray w0 fun e w' => ∃ (q0 : Value) (G0 : List Nat), e = .returned q0 ∧ Below w0.heap.size w0 w' ∧ Sep w0.heap.size w' [R.own ty_3 G0 q0 r] := by
  refine calls_mk' Try.func182 rfl Try.ntmps182 rfl rfl fun Q hQ hP => ?_
  have hB : Below w0.heap.size w0 w0 := Below.refl _ _
  have hS : Sep w0.heap.size w0 [] := Sep.nil _ _
  unfold F_spec_swWide at hF
  refine W.seq fun K1 hK1 => ?_
  refine W.region ?_
  refine wl_box (cs := [v0_0, v0_1, (.int .i64 x0.2.2.1), (.int .i64 x0.2.2.2)]) rfl rfl rfl hB hS ?_
  intro b2 w3 hb4 hB5 hS6
  refine wl_assign rfl rfl ?_
  refine WL.nil ?_
  refine fun a ha => hK1 _ _ ?_ a ha
  refine W.seq fun K7 hK7 => ?_
  refine W.region ?_
  refine wl_assign rfl rfl ?_
  refine WL.nil ?_
  refine fun a ha => hK7 _ _ ?_ a ha
  refine W.seq fun K8 hK8 => ?_
  refine W.seq fun K9 hK9 => ?_
  refine W.region ?_
  refine wl_load_blk (i := 0) (vs := [v0_0, v0_1, (.int .i64 x0.2.2.1), (.int .i64 x0.2.2.2)]) (v := (.agg #[v0_0, v0_1, (.int .i64 x0.2.2.1), (.int .i64 x0.2.2.2)])) tf_53 rfl rfl hS6 rfl rfl rfl ?_
  refine wl_move rfl rfl ?_
  obtain ⟨u10, hu10, hF⟩ := bindE hF
  refine wl_call rfl Try.call160 (C_spec_swMoves w3 x0 v0_0 (h0_0.ro hB5) v0_1 (h0_1.ro hB5) x1 _ hu10) rfl ?_
  rintro _ w13 ⟨v11, F12, rfl, hb14, hM17⟩
  refine ⟨_, rfl, ?_⟩
  have hB15 := hB5.trans (hb14.mono hB5.size)
  have hS16 := hS6.join hb14 hM17 hB5.size
  refine wl_lenr (e := ty_70) (l := u10) Try.underlying64 rfl rfl (hS16.own_ro (i := 0) rfl) ?_
  refine wl_move rfl rfl ?_
  refine WL.nil ?_
  refine fun a ha => hK9 _ _ ?_ a ha
  refine W.block ?_
  refine W.loopk (fun m a w18 => ∃ (l21 : (List Int)) (y24 : Int) (v22 : Value) (F23 : List Nat), St 28 [(2, (.pointer (some ⟨b2, 0, none⟩))), (5, v22), (10, v11), (11, (.int .i64 (List.length u10 : Int))), (12, (.int .i64 y24))] a ∧ Below w0.heap.size w0 w18 ∧ Sep w0.heap.size w18 [R.blk b2 53 [v0_0, v0_1, (.int .i64 x0.2.2.1), (.int .i64 x0.2.2.2)], R.own ty_3 F23 v22 l21, R.own ty_70 F12 v11 u10] ∧ F_spec_swWide_L1 u10 x0 m l21 y24 = some r) FU ?_ ?_
  ·
    have hS26 := hS16.push0 (r := R.own ty_3 [] (.slice none 0 0) []) rfl fun _ => .inl ⟨rfl, rfl, rfl⟩
    exact fun a ha => ⟨[], 0, (.slice none 0 0), [], ha.sub ⟨rfl, rfl, rfl, rfl, rfl, trivial⟩, hB15, (hS26.sel [2, 0, 1] rfl), hF⟩
  ·
    rintro m28 a w18 ⟨l21, y24, v22, F23, ha, hB19, hS20, hF⟩ KL27 hKL27
    refine W.at ?_ ha
    cases m28 with
    | zero => exact noneE hF
    | succ m28 =>
      obtain ⟨nx25, hnx25⟩ : ∃ k, k = F_spec_swWide_L1 u10 x0 m28 := ⟨_, rfl⟩
      rw [F_spec_swWide_L1, ← hnx25] at hF
      refine W.seq fun K29 hK29 => ?_
      refine W.region ?_
      refine wl_lss rfl rfl rfl ?_
      refine WL.nil ?_
      refine fun a ha => hK29 _ _ ?_ a ha
      refine W.seq fun K30 hK30 => ?_
      refine W.cond rfl (fun h31 => ?_) (fun h31 => ?_)
      · replace hF := ifP h31 hF
        refine W.skip ?_
        refine fun a ha => hK30 _ _ ?_ a ha
        refine W.seq fun K32 hK32 => ?_
        obtain ⟨k39, hk39, hF⟩ := jE1 hF
        have hJ40 : ∀ (l36 : (List Int)) (v37 : Value) (F38 : List Nat) (w33 : World) (_ : k39 l36 = some r) (_ : Below w0.heap.size w0 w33) (_ : Sep w0.heap.size w33 [R.blk b2 53 [v0_0, v0_1, (.int .i64 x0.2.2.1), (.int .i64 x0.2.2.2)], R.own ty_3 F38 v37 l36, R.own ty_70 F12 v11 u10]), ∀ a, St 28 [(2, (.pointer (some ⟨b2, 0, none⟩))), (5, v37), (10, v11), (11, (.int .i64 (List.length u10 : Int))), (12, (.int .i64 y24))] a → K32 a w33 := by
          intro l36 v37 F38 w33 hF hB34 hS35
          subst hk39
          refine fun a ha => hK32 _ _ ?_ a ha
          refine W.region ?_
          refine wl_add rfl rfl rfl ?_
          refine wl_move rfl rfl ?_
          refine WL.nil ?_
          rw [hnx25] at hF
          exact fun a ha => hKL27 a _ m28 (Nat.lt_succ_self m28) ⟨l36, (w64 (y24 + 1)), v37, F38, ha.sub ⟨rfl, rfl, rfl, rfl, rfl, trivial⟩, hB34, (hS35.sel [0, 1, 2] rfl), hF⟩
        refine W.block ?_
        refine W.seq fun K41 hK41 => ?_
        refine W.region ?_
        refine wl_move rfl rfl ?_
        obtain ⟨u42, hu42, hF⟩ := bindE hF
        refine wl_indexo (e := ty_70) (i := 2) Try.underlying64 rfl rfl rfl hS20 rfl hu42 ?_
        rintro p43 _ rfl hp44 ho45
        refine wl_load_p (vs := [(.int .i64 u42.1.1), (.int .i64 u42.1.2), (.int .i64 u42.2.1.1), (.int .i64 u42.2.1.2), (.int .i64 u42.2.2)]) (v := (.agg #[(.int .i64 u42.1.1), (.int .i64 u42.1.2), (.int .i64 u42.2.1.1), (.int .i64 u42.2.1.2), (.int .i64 u42.2.2)])) tf_70 rfl rfl hp44 rfl rfl ?_
        refine wl_alloc (cs := [(.int .i64 0), (.int .i64 0), (.int .i64 0), (.int .i64 0), (.int .i64 0)]) tf_70 rfl rfl hB19 hS20 ?_
        intro b46 w47 hb48 hB49 hS50
        refine wl_assign rfl rfl ?_
        refine wl_store_blk (i := 0) (vs := [(.int .i64 u42.1.1), (.int .i64 u42.1.2), (.int .i64 u42.2.1.1), (.int .i64 u42.2.1.2), (.int .i64 u42.2.2)]) (cs' := [(.int .i64 u42.1.1), (.int .i64 u42.1.2), (.int .i64 u42.2.1.1), (.int .i64 u42.2.1.2), (.int .i64 u42.2.2)]) tf_70 rfl rfl rfl rfl hB49 hS50 rfl rfl ⟨rfl, rfl, rfl, rfl, rfl, trivial⟩ rfl ?_
        intro w51 hk54 hB52 hS53
        refine WL.nil ?_
        refine fun a ha => hK41 _ _ ?_ a ha
        refine W.seq fun K55 hK55 => ?_
        refine W.region ?_
        refine wl_load_blk (i := 0) (vs := [(.int .i64 u42.1.1), (.int .i64 u42.1.2), (.int .i64 u42.2.1.1), (.int .i64 u42.2.1.2), (.int .i64 u42.2.2)]) (v := (.agg #[(.int .i64 u42.1.1), (.int .i64 u42.1.2), (.int .i64 u42.2.1.1), (.int .i64 u42.2.1.2), (.int .i64 u42.2.2)])) tf_70 rfl rfl hS53 rfl rfl rfl ?_
        refine wl_field (o := 3) (off' := 3) ff_53_3 rfl rfl rfl ?_
        refine wl_load_blk (i := 1) (vs := [(.int .i64 x0.2.2.2)]) (v := (.int .i64 x0.2.2.2)) tf_3 rfl rfl hS53 rfl rfl rfl ?_
        obtain ⟨u56, hu56, hF⟩ := bindE hF
        refine wl_call rfl Try.call210 (C_spec_mvWithin w51 u42 x0.2.2.2 _ hu56) rfl ?_
        rintro _ w57 ⟨rfl, hb58⟩
        refine ⟨_, rfl, ?_⟩
        have hB59 := hB52.trans (hb58.mono hB52.size)
        have hS60 := hS53.below hb58
        refine wl_not rfl rfl ?_
        refine WL.nil ?_
        refine fun a ha => hK55 _ _ ?_ a ha
        refine W.cond rfl (fun h62 => ?_) (fun h62 => ?_)
        · replace hF := ifP h62 hF
          refine W.region ?_
          refine wl_move rfl rfl ?_
          refine wl_move rfl rfl ?_
          refine wl_lit (vs := [(.int .i64 y24)]) (l := [y24]) fl_3 Try.underlying29 rfl rfl rfl rfl rfl rfl hB59 hS60 ?_
          intro v63 F64 w65 hb66 hB67 hS68
          obtain ⟨u69, hu69, hF⟩ := bindE hF
          refine wl_append (i := 3) (S := (· < w65.heap.size)) fl_3 Try.underlying29 rfl rfl rfl hB67 hS68 rfl (hS68.own_ro (i := 0) rfl) hu69 ?_
          intro v70 F71 w72 hk73 hB74 hS75
          refine wl_assign rfl rfl ?_
          refine WL.nil ?_
          exact fun a ha => hJ40 (u69) (v70) (F71) _ hF hB74 (hS75.sel [2, 3, 4] rfl) a (ha.sub ⟨rfl, rfl, rfl, rfl, rfl, trivial⟩)
        · replace hF := ifN h62 hF
          refine W.skip ?_
          exact fun a ha => hJ40 (l21) (v22) (F23) _ hF hB59 (hS60.sel [1, 2, 3] rfl) a (ha.sub ⟨rfl, rfl, rfl, rfl, rfl, trivial⟩)
      · replace hF := ifN h31 hF
        refine W.exit ?_
        refine fun a ha => hK8 _ _ ?_ a ha
        refine W.seq fun K76 hK76 => ?_
        refine W.region ?_
        refine wl_move rfl rfl ?_
        refine wl_assign rfl rfl ?_
        refine WL.nil ?_
        refine fun a ha => hK76 _ _ ?_ a ha
        refine W.ret ?_
        have hr := Option.some.inj hF
        subst hr
        exact rets (vs := [v22]) hQ rfl ⟨rv_tmp rfl, trivial⟩ ⟨v22, F23, rfl, hB19, hS20.sel [1] rfl⟩
theorem C_spec_WideSteps (w0 : World) (x0 : ((List (List (Int × Int))) × (List Int) × Int × Int)) (v0_0 : Value) (h0_0 : rdS ty_63 (· < w0.heap.size) w0 v0_0 x0.1) (v0_1 : Value) (h0_1 : rdS ty_3 (· < w0.heap.size) w0 v0_1 x0.2.1) (x1 : Int) (r : ((List Int) × Bool)) (hF : F_spec_WideSteps x0 x1 = some r) :
    Calls Try.prog 70 [(.agg #[v0_0, v0_1, (.int .i64 x0.2.2.1), (.int .i64 x0.2.2.2)]), (.int .i64 x1)].toArray w0 fun e w' => ∃ (q0 : Value) (G0 : List Nat), e = .returned (.tuple #[q0, (.bool r.2)]) ∧ Below w0.heap.size w0 w' ∧ Sep w0.heap.size w' [R.own ty_3 G0 q0 r.1] := by
  refine calls_mk' Try.func70 rfl Try.ntmps70 rfl rfl fun Q hQ hP => ?_
  have hB : Below w0.heap.size w0 w0 := Below.refl _ _
  have hS : Sep w0.heap.size w0 [] := Sep.nil _ _
  unfold F_spec_WideSteps at hF
  refine W.seq fun K1 hK1 => ?_
  refine W.region ?_
  refine wl_box (cs := [v0_0, v0_1, (.int .i64 x0.2.2.1), (.int .i64 x0.2.2.2)]) rfl rfl rfl hB hS ?_
  intro b2 w3 hb4 hB5 hS6
  refine wl_assign rfl rfl ?_
  refine wl_assign rfl rfl ?_
  refine WL.nil ?_
  refine fun a ha => hK1 _ _ ?_ a ha
  refine W.seq fun K7 hK7 => ?_
  refine W.seq fun K8 hK8 => ?_
  refine W.region ?_
  refine wl_load_blk (i := 0) (vs := [v0_0, v0_1, (.int .i64 x0.2.2.1), (.int .i64 x0.2.2.2)]) (v := (.agg #[v0_0, v0_1, (.int .i64 x0.2.2.1), (.int .i64 x0.2.2.2)])) tf_53 rfl rfl hS6 rfl rfl rfl ?_
  refine wl_move rfl rfl ?_
  obtain ⟨u9, hu9, hF⟩ := bindE hF
  refine wl_call rfl Try.call179 (C_spec_swHas w3 x0 v0_0 (h0_0.ro hB5) v0_1 (h0_1.ro hB5) x1 _ hu9) rfl ?_
  rintro _ w10 ⟨rfl, hb11⟩
  refine ⟨_, rfl, ?_⟩
  have hB12 := hB5.trans (hb11.mono hB5.size)
  have hS13 := hS6.below hb11
  refine wl_not rfl rfl ?_
  refine WL.nil ?_
  refine fun a ha => hK8 _ _ ?_ a ha
  refine W.cond rfl (fun h15 => ?_) (fun h15 => ?_)
  · replace hF := ifP h15 hF
    refine W.seq fun K16 hK16 => ?_
    refine W.region ?_
    refine wl_assign rfl rfl ?_
    refine wl_assign rfl rfl ?_
    refine WL.nil ?_
    refine fun a ha => hK16 _ _ ?_ a ha
    refine W.ret ?_
    have hS17 := hS13.push0 (r := R.own ty_3 [] (.slice none 0 0) []) rfl fun _ => .inl ⟨rfl, rfl, rfl⟩
    have hr := Option.some.inj hF
    subst hr
    exact rets (vs := [(.slice none 0 0), (.bool false)]) hQ rfl ⟨rv_tmp rfl, rv_tmp rfl, trivial⟩ ⟨(.slice none 0 0), [], rfl, hB12, hS17.sel [0] rfl⟩
  · replace hF := ifN h15 hF
    refine W.skip ?_
    refine fun a ha => hK7 _ _ ?_ a ha
    refine W.seq fun K18 hK18 => ?_
    refine W.region ?_
    refine wl_load_blk (i := 0) (vs := [v0_0, v0_1, (.int .i64 x0.2.2.1), (.int .i64 x0.2.2.2)]) (v := (.agg #[v0_0, v0_1, (.int .i64 x0.2.2.1), (.int .i64 x0.2.2.2)])) tf_53 rfl rfl hS13 rfl rfl rfl ?_
    refine wl_move rfl rfl ?_
    obtain ⟨u19, hu19, hF⟩ := bindE hF
    refine wl_call rfl Try.call182 (C_spec_swWide w10 x0 v0_0 (h0_0.ro hB12) v0_1 (h0_1.ro hB12) x1 _ hu19) rfl ?_
    rintro _ w22 ⟨v20, F21, rfl, hb23, hM26⟩
    refine ⟨_, rfl, ?_⟩
    have hB24 := hB12.trans (hb23.mono hB12.size)
    have hS25 := hS13.join hb23 hM26 hB12.size
    refine wl_assign rfl rfl ?_
    refine wl_assign rfl rfl ?_
    refine WL.nil ?_
    refine fun a ha => hK18 _ _ ?_ a ha
    refine W.ret ?_
    have hr := Option.some.inj hF
    subst hr
    exact rets (vs := [v20, (.bool true)]) hQ rfl ⟨rv_tmp rfl, rv_tmp rfl, trivial⟩ ⟨v20, F21, rfl, hB24, hS25.sel [0] rfl⟩
theorem C_laws_pIn (w0 : World) (x0 : (List Int)) (v0_0 : Value) (h0_0 : rdS ty_3 (· < w0.heap.size) w0 v0_0 x0) (x1 : Int) (r : Bool) (hF : F_laws_pIn x0 x1 = some r) :
    Calls Try.prog 72 [v0_0, (.int .i64 x1)].toArray w0 fun e w' => e = .returned (.bool r) ∧ Below w0.heap.size w0 w' := by
  refine calls_mk' Try.func72 rfl Try.ntmps72 rfl rfl fun Q hQ hP => ?_
  have hB : Below w0.heap.size w0 w0 := Below.refl _ _
  have hS : Sep w0.heap.size w0 [] := Sep.nil _ _
  unfold F_laws_pIn at hF
  refine W.seq fun K1 hK1 => ?_
  refine W.region ?_
  refine wl_assign rfl rfl ?_
  refine WL.nil ?_
  refine fun a ha => hK1 _ _ ?_ a ha
  refine W.seq fun K2 hK2 => ?_
  refine W.seq fun K3 hK3 => ?_
  refine W.region ?_
  refine wl_move rfl rfl ?_
  refine wl_lenr (e := ty_3) (l := x0) Try.underlying29 rfl rfl h0_0 ?_
  refine wl_move rfl rfl ?_
  refine WL.nil ?_
  refine fun a ha => hK3 _ _ ?_ a ha
  refine W.block ?_
  refine W.loopk (fun m a w4 => ∃ (y7 : Int), St 17 [(1, (.int .i64 x1)), (7, v0_0), (8, (.int .i64 (List.length x0 : Int))), (9, (.int .i64 y7))] a ∧ Below w0.heap.size w0 w4 ∧ Sep w0.heap.size w4 [] ∧ F_laws_pIn_L1 x0 x1 m y7 = some r) FU ?_ ?_
  ·
    exact fun a ha => ⟨0, ha.sub ⟨rfl, rfl, rfl, rfl, trivial⟩, hB, (hS.sel [] rfl), hF⟩
  ·
    rintro m10 a w4 ⟨y7, ha, hB5, hS6, hF⟩ KL9 hKL9
    refine W.at ?_ ha
    cases m10 with
    | zero => exact noneE hF
    | succ m10 =>
      obtain ⟨nx8, hnx8⟩ : ∃ k, k = F_laws_pIn_L1 x0 x1 m10 := ⟨_, rfl⟩
      rw [F_laws_pIn_L1, ← hnx8] at hF
      refine W.seq fun K11 hK11 => ?_
      refine W.region ?_
      refine wl_lss rfl rfl rfl ?_
      refine WL.nil ?_
      refine fun a ha => hK11 _ _ ?_ a ha
      refine W.seq fun K12 hK12 => ?_
      refine W.cond rfl (fun h13 => ?_) (fun h13 => ?_)
      · replace hF := ifP h13 hF
        refine W.skip ?_
        refine fun a ha => hK12 _ _ ?_ a ha
        refine W.seq fun K14 hK14 => ?_
        refine W.block ?_
        refine W.seq fun K15 hK15 => ?_
        refine W.region ?_
        obtain ⟨u16, hu16, hF⟩ := bindE hF
        refine wl_index (e := ty_3) Try.underlying29 rfl rfl rfl h0_0 hu16 ?_
        rintro p17 _ rfl hp18
        refine wl_load_p (vs := [(.int .i64 u16)]) (v := (.int .i64 u16)) tf_3 rfl rfl (hp18.ro hB5) rfl rfl ?_
        refine wl_assign rfl rfl ?_
        refine WL.nil ?_
        refine fun a ha => hK15 _ _ ?_ a ha
        refine W.seq fun K19 hK19 => ?_
        refine W.region ?_
        refine wl_move rfl rfl ?_
        refine wl_move rfl rfl ?_
        refine wl_eql rfl rfl rfl ?_
        refine WL.nil ?_
        refine fun a ha => hK19 _ _ ?_ a ha
        refine W.cond rfl (fun h20 => ?_) (fun h20 => ?_)
        · replace hF := ifP h20 hF
          refine W.seq fun K21 hK21 => ?_
          refine W.region ?_
          refine wl_assign rfl rfl ?_
          refine WL.nil ?_
          refine fun a ha => hK21 _ _ ?_ a ha
          refine W.ret ?_
          have hr := Option.some.inj hF
          subst hr
          exact rets (vs := [(.bool true)]) hQ rfl ⟨rv_tmp rfl, trivial⟩ ⟨rfl, hB5⟩
        · replace hF := ifN h20 hF
          refine W.skip ?_
          refine fun a ha => hK14 _ _ ?_ a ha
          refine W.region ?_
          refine wl_add rfl rfl rfl ?_
          refine wl_move rfl rfl ?_
          refine WL.nil ?_
          rw [hnx8] at hF
          exact fun a ha => hKL9 a _ m10 (Nat.lt_succ_self m10) ⟨(w64 (y7 + 1)), ha.sub ⟨rfl, rfl, rfl, rfl, trivial⟩, hB5, (hS6.sel [] rfl), hF⟩
      · replace hF := ifN h13 hF
        refine W.exit ?_
        refine fun a ha => hK2 _ _ ?_ a ha
        refine W.seq fun K22 hK22 => ?_
        refine W.region ?_
        refine wl_assign rfl rfl ?_
        refine WL.nil ?_
        refine fun a ha => hK22 _ _ ?_ a ha
        refine W.ret ?_
        have hr := Option.some.inj hF
        subst hr
        exact rets (vs := [(.bool false)]) hQ rfl ⟨rv_tmp rfl, trivial⟩ ⟨rfl, hB5⟩
theorem C_laws_FnShowChanges (w0 : World) (x0 : (List Int)) (v0_0 : Value) (h0_0 : rdS ty_5 (· < w0.heap.size) w0 v0_0 x0) (x1 : (List Int)) (v1_0 : Value) (h1_0 : rdS ty_5 (· < w0.heap.size) w0 v1_0 x1) (r : Bool) (hF : F_laws_FnShowChanges x0 x1 = some r) :
    Calls Try.prog 5 [v0_0, v1_0].toArray w0 fun e w' => e = .returned (.bool r) ∧ Below w0.heap.size w0 w' := by
  refine calls_mk' Try.func5 rfl Try.ntmps5 rfl rfl fun Q hQ hP => ?_
  have hB : Below w0.heap.size w0 w0 := Below.refl _ _
  have hS : Sep w0.heap.size w0 [] := Sep.nil _ _
  unfold F_laws_FnShowChanges at hF
  refine W.seq fun K1 hK1 => ?_
  refine W.region ?_
  refine wl_assign rfl rfl ?_
  refine WL.nil ?_
  refine fun a ha => hK1 _ _ ?_ a ha
  refine W.seq fun K2 hK2 => ?_
  refine W.seq fun K3 hK3 => ?_
  refine W.region ?_
  refine wl_move rfl rfl ?_
  refine wl_move rfl rfl ?_
  obtain ⟨u4, hu4, hF⟩ := bindE hF
  refine wl_call rfl Try.call54 (C_laws_big w0 x0 v0_0 (h0_0.ro hB) x1 v1_0 (h1_0.ro hB) _ hu4) rfl ?_
  rintro _ w5 ⟨rfl, hb6⟩
  refine ⟨_, rfl, ?_⟩
  have hB7 := hB.trans (hb6.mono hB.size)
  have hS8 := hS.below hb6
  refine WL.nil ?_
  refine fun a ha => hK3 _ _ ?_ a ha
  refine W.cond rfl (fun h10 => ?_) (fun h10 => ?_)
  · replace hF := ifP h10 hF
    refine W.seq fun K11 hK11 => ?_
    refine W.region ?_
    refine wl_assign rfl rfl ?_
    refine WL.nil ?_
    refine fun a ha => hK11 _ _ ?_ a ha
    refine W.ret ?_
    have hr := Option.some.inj hF
    subst hr
    exact rets (vs := [(.bool true)]) hQ rfl ⟨rv_tmp rfl, trivial⟩ ⟨rfl, hB7⟩
  · replace hF := ifN h10 hF
    refine W.skip ?_
    refine fun a ha => hK2 _ _ ?_ a ha
    refine W.seq fun K12 hK12 => ?_
    refine W.region ?_
    refine wl_move rfl rfl ?_
    obtain ⟨u13, hu13, hF⟩ := bindE hF
    refine wl_call rfl Try.call55 (C_spec_DrawAddShowChart w5 x0 v0_0 (h0_0.ro hB7) _ hu13) rfl ?_
    rintro _ w20 ⟨v14, F15, v16, F17, v18, F19, rfl, hb21, hM24⟩
    refine ⟨_, rfl, ?_⟩
    have hB22 := hB7.trans (hb21.mono hB7.size)
    have hS23 := hS8.join hb21 hM24 hB7.size
    refine wl_move rfl rfl ?_
    refine wl_extract rfl rfl rfl ?_
    refine wl_extract rfl rfl rfl ?_
    refine wl_extract rfl rfl rfl ?_
    refine wl_alloc (cs := [(.slice none 0 0), (.slice none 0 0), (.int .i64 0), (.int .i64 0)]) tf_53 rfl rfl hB22 hS23 ?_
    intro b25 w26 hb27 hB28 hS29
    refine wl_store_blk (i := 0) (vs := [v14, v16, (.int .i64 u13.1.2.2.1), (.int .i64 u13.1.2.2.2)]) (cs' := [v14, v16, (.int .i64 u13.1.2.2.1), (.int .i64 u13.1.2.2.2)]) tf_53 rfl rfl rfl rfl hB28 hS29 rfl rfl ⟨(hS29.own_ro (i := 1) rfl).one, (hS29.own_ro (i := 2) rfl).one, rfl, rfl, trivial⟩ rfl ?_
    intro w30 hk33 hB31 hS32
    refine wl_assign rfl rfl ?_
    refine wl_assign rfl rfl ?_
    refine WL.nil ?_
    refine fun a ha => hK12 _ _ ?_ a ha
    refine W.seq fun K34 hK34 => ?_
    refine W.region ?_
    refine wl_load_blk (i := 0) (vs := [v14, v16, (.int .i64 u13.1.2.2.1), (.int .i64 u13.1.2.2.2)]) (v := (.agg #[v14, v16, (.int .i64 u13.1.2.2.1), (.int .i64 u13.1.2.2.2)])) tf_53 rfl rfl hS32 rfl rfl rfl ?_
    refine wl_move rfl rfl ?_
    refine wl_move rfl rfl ?_
    obtain ⟨u35, hu35, hF⟩ := bindE hF
    refine wl_call rfl Try.call56 (C_impl_AddShowChart w30 u13.1 v14 (hS32.own_ro (i := 1) rfl) v16 (hS32.own_ro (i := 2) rfl) u13.2.1 v18 (hS32.own_ro (i := 3) rfl) u13.2.2 _ hu35) rfl ?_
    rintro _ w40 ⟨v36, F37, v38, F39, rfl, hb41, hM44⟩
    refine ⟨_, rfl, ?_⟩
    have hB42 := hB31.trans (hb41.mono hB31.size)
    have hS43 := hS32.join hb41 hM44 hB31.size
    refine wl_move rfl rfl ?_
    refine wl_extract rfl rfl rfl ?_
    refine wl_extract rfl rfl rfl ?_
    refine wl_alloc (cs := [(.slice none 0 0), (.slice none 0 0), (.int .i64 0), (.int .i64 0)]) tf_53 rfl rfl hB42 hS43 ?_
    intro b45 w46 hb47 hB48 hS49
    refine wl_store_blk (i := 0) (vs := [v36, v38, (.int .i64 u35.1.2.2.1), (.int .i64 u35.1.2.2.2)]) (cs' := [v36, v38, (.int .i64 u35.1.2.2.1), (.int .i64 u35.1.2.2.2)]) tf_53 rfl rfl rfl rfl hB48 hS49 rfl rfl ⟨(hS49.own_ro (i := 1) rfl).one, (hS49.own_ro (i := 2) rfl).one, rfl, rfl, trivial⟩ rfl ?_
    intro w50 hk53 hB51 hS52
    refine wl_assign rfl rfl ?_
    refine WL.nil ?_
    refine fun a ha => hK34 _ _ ?_ a ha
    refine W.seq fun K54 hK54 => ?_
    refine W.region ?_
    refine wl_load_blk (i := 3) (vs := [v14, v16, (.int .i64 u13.1.2.2.1), (.int .i64 u13.1.2.2.2)]) (v := (.agg #[v14, v16, (.int .i64 u13.1.2.2.1), (.int .i64 u13.1.2.2.2)])) tf_53 rfl rfl hS52 rfl rfl rfl ?_
    refine wl_move rfl rfl ?_
    refine wl_move rfl rfl ?_
    obtain ⟨u55, hu55, hF⟩ := bindE hF
    refine wl_call rfl Try.call57 (C_spec_AddShowChart w50 u13.1 v14 (hS52.own_ro (i := 4) rfl) v16 (hS52.own_ro (i := 5) rfl) u13.2.1 v18 (hS52.own_ro (i := 6) rfl) u13.2.2 _ hu55) rfl ?_
    rintro _ w60 ⟨v56, F57, v58, F59, rfl, hb61, hM64⟩
    refine ⟨_, rfl, ?_⟩
    have hB62 := hB51.trans (hb61.mono hB51.size)
    have hS63 := hS52.join hb61 hM64 hB51.size
    refine wl_move rfl rfl ?_
    refine wl_extract rfl rfl rfl ?_
    refine wl_extract rfl rfl rfl ?_
    refine wl_alloc (cs := [(.slice none 0 0), (.slice none 0 0), (.int .i64 0), (.int .i64 0)]) tf_53 rfl rfl hB62 hS63 ?_
    intro b65 w66 hb67 hB68 hS69
    refine wl_store_blk (i := 0) (vs := [v56, v58, (.int .i64 u55.1.2.2.1), (.int .i64 u55.1.2.2.2)]) (cs' := [v56, v58, (.int .i64 u55.1.2.2.1), (.int .i64 u55.1.2.2.2)]) tf_53 rfl rfl rfl rfl hB68 hS69 rfl rfl ⟨(hS69.own_ro (i := 1) rfl).one, (hS69.own_ro (i := 2) rfl).one, rfl, rfl, trivial⟩ rfl ?_
    intro w70 hk73 hB71 hS72
    refine wl_assign rfl rfl ?_
    refine WL.nil ?_
    refine fun a ha => hK54 _ _ ?_ a ha
    refine W.seq fun K74 hK74 => ?_
    refine W.seq fun K75 hK75 => ?_
    obtain ⟨k80, hk80, hF⟩ := jE1 hF
    have hJ81 : ∀ (y79 : Bool) (w76 : World) (_ : k80 y79 = some r) (_ : Below w0.heap.size w0 w76) (_ : Sep w0.heap.size w76 [R.own ty_63 F15 v14 u13.1.1, R.own ty_3 F17 v16 u13.1.2.1, R.blk b25 53 [v14, v16, (.int .i64 u13.1.2.2.1), (.int .i64 u13.1.2.2.2)], R.own ty_63 F37 v36 u35.1.1, R.own ty_3 F39 v38 u35.1.2.1, R.blk b45 53 [v36, v38, (.int .i64 u35.1.2.2.1), (.int .i64 u35.1.2.2.2)]]), ∀ a, St 312 [(1, v1_0), (5, (.pointer (some ⟨b25, 0, none⟩))), (8, (.pointer (some ⟨b45, 0, none⟩))), (9, (.bool u35.2)), (76, (.bool y79))] a → K75 a w76 := by
      intro y79 w76 hF hB77 hS78
      subst hk80
      refine fun a ha => hK75 _ _ ?_ a ha
      refine W.cond rfl (fun h82 => ?_) (fun h82 => ?_)
      · replace hF := ifP h82 hF
        refine W.seq fun K83 hK83 => ?_
        refine W.region ?_
        refine wl_assign rfl rfl ?_
        refine WL.nil ?_
        refine fun a ha => hK83 _ _ ?_ a ha
        refine W.ret ?_
        have hr := Option.some.inj hF
        subst hr
        exact rets (vs := [(.bool false)]) hQ rfl ⟨rv_tmp rfl, trivial⟩ ⟨rfl, hB77⟩
      · replace hF := ifN h82 hF
        refine W.skip ?_
        refine fun a ha => hK74 _ _ ?_ a ha
        refine W.seq fun K84 hK84 => ?_
        obtain ⟨k88, hk88, hF⟩ := jE0 hF
        have hJ89 : ∀ (w85 : World) (_ : k88 = some r) (_ : Below w0.heap.size w0 w85) (_ : Sep w0.heap.size w85 []), ∀ a, St 312 [(1, v1_0)] a → K84 a w85 := by
          intro w85 hF hB86 hS87
          subst hk88
          refine fun a ha => hK84 _ _ ?_ a ha
          refine W.seq fun K90 hK90 => ?_
          refine W.region ?_
          refine wl_move rfl rfl ?_
          obtain ⟨u91, hu91, hF⟩ := bindE hF
          refine wl_call rfl Try.call61 (C_spec_DrawDropShowChart w85 x1 v1_0 (h1_0.ro hB86) _ hu91) rfl ?_
          rintro _ w96 ⟨v92, F93, v94, F95, rfl, hb97, hM100⟩
          refine ⟨_, rfl, ?_⟩
          have hB98 := hB86.trans (hb97.mono hB86.size)
          have hS99 := hS87.join hb97 hM100 hB86.size
          refine wl_move rfl rfl ?_
          refine wl_extract rfl rfl rfl ?_
          refine wl_extract rfl rfl rfl ?_
          refine wl_alloc (cs := [(.slice none 0 0), (.slice none 0 0), (.int .i64 0), (.int .i64 0)]) tf_53 rfl rfl hB98 hS99 ?_
          intro b101 w102 hb103 hB104 hS105
          refine wl_store_blk (i := 0) (vs := [v92, v94, (.int .i64 u91.1.2.2.1), (.int .i64 u91.1.2.2.2)]) (cs' := [v92, v94, (.int .i64 u91.1.2.2.1), (.int .i64 u91.1.2.2.2)]) tf_53 rfl rfl rfl rfl hB104 hS105 rfl rfl ⟨(hS105.own_ro (i := 1) rfl).one, (hS105.own_ro (i := 2) rfl).one, rfl, rfl, trivial⟩ rfl ?_
          intro w106 hk109 hB107 hS108
          refine wl_assign rfl rfl ?_
          refine WL.nil ?_
          refine fun a ha => hK90 _ _ ?_ a ha
          refine W.seq fun K110 hK110 => ?_
          refine W.region ?_
          refine wl_load_blk (i := 0) (vs := [v92, v94, (.int .i64 u91.1.2.2.1), (.int .i64 u91.1.2.2.2)]) (v := (.agg #[v92, v94, (.int .i64 u91.1.2.2.1), (.int .i64 u91.1.2.2.2)])) tf_53 rfl rfl hS108 rfl rfl rfl ?_
          refine wl_move rfl rfl ?_
          obtain ⟨u111, hu111, hF⟩ := bindE hF
          refine wl_call rfl Try.call59 (C_impl_DropShowChart w106 u91.1 v92 (hS108.own_ro (i := 1) rfl) v94 (hS108.own_ro (i := 2) rfl) u91.2 _ hu111) rfl ?_
          rintro _ w116 ⟨v112, F113, v114, F115, rfl, hb117, hM120⟩
          refine ⟨_, rfl, ?_⟩
          have hB118 := hB107.trans (hb117.mono hB107.size)
          have hS119 := hS108.join hb117 hM120 hB107.size
          refine wl_move rfl rfl ?_
          refine wl_extract rfl rfl rfl ?_
          refine wl_extract rfl rfl rfl ?_
          refine wl_alloc (cs := [(.slice none 0 0), (.slice none 0 0), (.int .i64 0), (.int .i64 0)]) tf_53 rfl rfl hB118 hS119 ?_
          intro b121 w122 hb123 hB124 hS125
          refine wl_store_blk (i := 0) (vs := [v112, v114, (.int .i64 u111.1.2.2.1), (.int .i64 u111.1.2.2.2)]) (cs' := [v112, v114, (.int .i64 u111.1.2.2.1), (.int .i64 u111.1.2.2.2)]) tf_53 rfl rfl rfl rfl hB124 hS125 rfl rfl ⟨(hS125.own_ro (i := 1) rfl).one, (hS125.own_ro (i := 2) rfl).one, rfl, rfl, trivial⟩ rfl ?_
          intro w126 hk129 hB127 hS128
          refine wl_assign rfl rfl ?_
          refine WL.nil ?_
          refine fun a ha => hK110 _ _ ?_ a ha
          refine W.seq fun K130 hK130 => ?_
          refine W.region ?_
          refine wl_load_blk (i := 3) (vs := [v92, v94, (.int .i64 u91.1.2.2.1), (.int .i64 u91.1.2.2.2)]) (v := (.agg #[v92, v94, (.int .i64 u91.1.2.2.1), (.int .i64 u91.1.2.2.2)])) tf_53 rfl rfl hS128 rfl rfl rfl ?_
          refine wl_move rfl rfl ?_
          obtain ⟨u131, hu131, hF⟩ := bindE hF
          refine wl_call rfl Try.call62 (C_spec_DropShowChart w126 u91.1 v92 (hS128.own_ro (i := 4) rfl) v94 (hS128.own_ro (i := 5) rfl) u91.2 _ hu131) rfl ?_
          rintro _ w136 ⟨v132, F133, v134, F135, rfl, hb137, hM140⟩
          refine ⟨_, rfl, ?_⟩
          have hB138 := hB127.trans (hb137.mono hB127.size)
          have hS139 := hS128.join hb137 hM140 hB127.size
          refine wl_move rfl rfl ?_
          refine wl_extract rfl rfl rfl ?_
          refine wl_extract rfl rfl rfl ?_
          refine wl_alloc (cs := [(.slice none 0 0), (.slice none 0 0), (.int .i64 0), (.int .i64 0)]) tf_53 rfl rfl hB138 hS139 ?_
          intro b141 w142 hb143 hB144 hS145
          refine wl_store_blk (i := 0) (vs := [v132, v134, (.int .i64 u131.1.2.2.1), (.int .i64 u131.1.2.2.2)]) (cs' := [v132, v134, (.int .i64 u131.1.2.2.1), (.int .i64 u131.1.2.2.2)]) tf_53 rfl rfl rfl rfl hB144 hS145 rfl rfl ⟨(hS145.own_ro (i := 1) rfl).one, (hS145.fr_ro (i := 2) rfl).one, rfl, rfl, trivial⟩ rfl ?_
          intro w146 hk149 hB147 hS148
          refine wl_assign rfl rfl ?_
          refine WL.nil ?_
          refine fun a ha => hK130 _ _ ?_ a ha
          refine W.seq fun K150 hK150 => ?_
          refine W.seq fun K151 hK151 => ?_
          obtain ⟨k159, hk159, hF⟩ := jE2 hF
          have hJ160 : ∀ (l155 : (List Int)) (y158 : Bool) (v156 : Value) (F157 : List Nat) (w152 : World) (_ : k159 l155 y158 = some r) (_ : Below w0.heap.size w0 w152) (_ : Sep w0.heap.size w152 [R.own ty_63 F93 v92 u91.1.1, R.own ty_3 F95 v94 u91.1.2.1, R.blk b101 53 [v92, v94, (.int .i64 u91.1.2.2.1), (.int .i64 u91.1.2.2.2)], R.own ty_63 F113 v112 u111.1.1, R.own ty_3 F115 v114 u111.1.2.1, R.blk b121 53 [v112, v114, (.int .i64 u111.1.2.2.1), (.int .i64 u111.1.2.2.2)], R.own ty_63 F133 v132 u131.1.1, R.fr ty_3 F157 v156 l155, R.blk b141 53 [v132, v156, (.int .i64 u131.1.2.2.1), (.int .i64 u131.1.2.2.2)]]), ∀ a, St 312 [(1, v1_0), (14, (.pointer (some ⟨b101, 0, none⟩))), (15, (.int .i64 u91.2)), (16, (.pointer (some ⟨b121, 0, none⟩))), (17, (.bool u111.2)), (18, (.pointer (some ⟨b141, 0, none⟩))), (124, (.bool y158))] a → K151 a w152 := by
            intro l155 y158 v156 F157 w152 hF hB153 hS154
            subst hk159
            refine fun a ha => hK151 _ _ ?_ a ha
            refine W.cond rfl (fun h161 => ?_) (fun h161 => ?_)
            · replace hF := ifP h161 hF
              refine W.seq fun K162 hK162 => ?_
              refine W.region ?_
              refine wl_assign rfl rfl ?_
              refine WL.nil ?_
              refine fun a ha => hK162 _ _ ?_ a ha
              refine W.ret ?_
              have hr := Option.some.inj hF
              subst hr
              exact rets (vs := [(.bool false)]) hQ rfl ⟨rv_tmp rfl, trivial⟩ ⟨rfl, hB153⟩
            · replace hF := ifN h161 hF
              refine W.skip ?_
              refine fun a ha => hK150 _ _ ?_ a ha
              refine W.seq fun K163 hK163 => ?_
              obtain ⟨k167, hk167, hF⟩ := jE0 hF
              have hJ168 : ∀ (w164 : World) (_ : k167 = some r) (_ : Below w0.heap.size w0 w164) (_ : Sep w0.heap.size w164 []), ∀ a, St 312 [(1, v1_0)] a → K163 a w164 := by
                intro w164 hF hB165 hS166
                subst hk167
                refine fun a ha => hK163 _ _ ?_ a ha
                refine W.seq fun K169 hK169 => ?_
                refine W.region ?_
                refine wl_move rfl rfl ?_
                obtain ⟨u170, hu170, hF⟩ := bindE hF
                refine wl_call rfl Try.call64 (C_spec_DrawStretchShow w164 x1 v1_0 (h1_0.ro hB165) _ hu170) rfl ?_
                rintro _ w175 ⟨v171, F172, v173, F174, rfl, hb176, hM179⟩
                refine ⟨_, rfl, ?_⟩
                have hB177 := hB165.trans (hb176.mono hB165.size)
                have hS178 := hS166.join hb176 hM179 hB165.size
                refine wl_move rfl rfl ?_
                refine wl_extract rfl rfl rfl ?_
                refine wl_extract rfl rfl rfl ?_
                refine wl_extract rfl rfl rfl ?_
                refine wl_alloc (cs := [(.slice none 0 0), (.slice none 0 0), (.int .i64 0), (.int .i64 0)]) tf_53 rfl rfl hB177 hS178 ?_
                intro b180 w181 hb182 hB183 hS184
                refine wl_store_blk (i := 0) (vs := [v171, v173, (.int .i64 u170.1.2.2.1), (.int .i64 u170.1.2.2.2)]) (cs' := [v171, v173, (.int .i64 u170.1.2.2.1), (.int .i64 u170.1.2.2.2)]) tf_53 rfl rfl rfl rfl hB183 hS184 rfl rfl ⟨(hS184.own_ro (i := 1) rfl).one, (hS184.own_ro (i := 2) rfl).one, rfl, rfl, trivial⟩ rfl ?_
                intro w185 hk188 hB186 hS187
                refine wl_assign rfl rfl ?_
                refine wl_assign rfl rfl ?_
                refine WL.nil ?_
                refine fun a ha => hK169 _ _ ?_ a ha
                refine W.seq fun K189 hK189 => ?_
                refine W.region ?_
                refine wl_load_blk (i := 0) (vs := [v171, v173, (.int .i64 u170.1.2.2.1), (.int .i64 u170.1.2.2.2)]) (v := (.agg #[v171, v173, (.int .i64 u170.1.2.2.1), (.int .i64 u170.1.2.2.2)])) tf_53 rfl rfl hS187 rfl rfl rfl ?_
                refine wl_move rfl rfl ?_
                refine wl_move rfl rfl ?_
                obtain ⟨u190, hu190, hF⟩ := bindE hF
                refine wl_call rfl Try.call65 (C_impl_StretchShow w185 u170.1 v171 (hS187.own_ro (i := 1) rfl) v173 (hS187.own_ro (i := 2) rfl) u170.2.1 u170.2.2 _ hu190) rfl ?_
                rintro _ w195 ⟨v191, F192, v193, F194, rfl, hb196, hM199⟩
                refine ⟨_, rfl, ?_⟩
                have hB197 := hB186.trans (hb196.mono hB186.size)
                have hS198 := hS187.join hb196 hM199 hB186.size
                refine wl_move rfl rfl ?_
                refine wl_extract rfl rfl rfl ?_
                refine wl_extract rfl rfl rfl ?_
                refine wl_alloc (cs := [(.slice none 0 0), (.slice none 0 0), (.int .i64 0), (.int .i64 0)]) tf_53 rfl rfl hB197 hS198 ?_
                intro b200 w201 hb202 hB203 hS204
                refine wl_store_blk (i := 0) (vs := [v191, v193, (.int .i64 u190.1.2.2.1), (.int .i64 u190.1.2.2.2)]) (cs' := [v191, v193, (.int .i64 u190.1.2.2.1), (.int .i64 u190.1.2.2.2)]) tf_53 rfl rfl rfl rfl hB203 hS204 rfl rfl ⟨(hS204.own_ro (i := 1) rfl).one, (hS204.own_ro (i := 2) rfl).one, rfl, rfl, trivial⟩ rfl ?_
                intro w205 hk208 hB206 hS207
                refine wl_assign rfl rfl ?_
                refine WL.nil ?_
                refine fun a ha => hK189 _ _ ?_ a ha
                refine W.seq fun K209 hK209 => ?_
                refine W.region ?_
                refine wl_load_blk (i := 3) (vs := [v171, v173, (.int .i64 u170.1.2.2.1), (.int .i64 u170.1.2.2.2)]) (v := (.agg #[v171, v173, (.int .i64 u170.1.2.2.1), (.int .i64 u170.1.2.2.2)])) tf_53 rfl rfl hS207 rfl rfl rfl ?_
                refine wl_move rfl rfl ?_
                refine wl_move rfl rfl ?_
                obtain ⟨u210, hu210, hF⟩ := bindE hF
                refine wl_call rfl Try.call66 (C_spec_StretchShow w205 u170.1 v171 (hS207.own_ro (i := 4) rfl) v173 (hS207.own_ro (i := 5) rfl) u170.2.1 u170.2.2 _ hu210) rfl ?_
                rintro _ w215 ⟨v211, F212, v213, F214, rfl, hb216, hM219⟩
                refine ⟨_, rfl, ?_⟩
                have hB217 := hB206.trans (hb216.mono hB206.size)
                have hS218 := hS207.join hb216 hM219 hB206.size
                refine wl_move rfl rfl ?_
                refine wl_extract rfl rfl rfl ?_
                refine wl_extract rfl rfl rfl ?_
                refine wl_alloc (cs := [(.slice none 0 0), (.slice none 0 0), (.int .i64 0), (.int .i64 0)]) tf_53 rfl rfl hB217 hS218 ?_
                intro b220 w221 hb222 hB223 hS224
                refine wl_store_blk (i := 0) (vs := [v211, v213, (.int .i64 u210.1.2.2.1), (.int .i64 u210.1.2.2.2)]) (cs' := [v211, v213, (.int .i64 u210.1.2.2.1), (.int .i64 u210.1.2.2.2)]) tf_53 rfl rfl rfl rfl hB223 hS224 rfl rfl ⟨(hS224.own_ro (i := 1) rfl).one, (hS224.own_ro (i := 2) rfl).one, rfl, rfl, trivial⟩ rfl ?_
                intro w225 hk228 hB226 hS227
                refine wl_assign rfl rfl ?_
                refine WL.nil ?_
                refine fun a ha => hK209 _ _ ?_ a ha
                refine W.seq fun K229 hK229 => ?_
                refine W.seq fun K230 hK230 => ?_
                obtain ⟨k235, hk235, hF⟩ := jE1 hF
                have hJ236 : ∀ (y234 : Bool) (w231 : World) (_ : k235 y234 = some r) (_ : Below w0.heap.size w0 w231) (_ : Sep w0.heap.size w231 [R.own ty_63 F172 v171 u170.1.1, R.own ty_3 F174 v173 u170.1.2.1, R.blk b180 53 [v171, v173, (.int .i64 u170.1.2.2.1), (.int .i64 u170.1.2.2.2)], R.own ty_63 F192 v191 u190.1.1, R.own ty_3 F194 v193 u190.1.2.1, R.blk b200 53 [v191, v193, (.int .i64 u190.1.2.2.1), (.int .i64 u190.1.2.2.2)], R.own ty_63 F212 v211 u210.1.1, R.own ty_3 F214 v213 u210.1.2.1, R.blk b220 53 [v211, v213, (.int .i64 u210.1.2.2.1), (.int .i64 u210.1.2.2.2)]]), ∀ a, St 312 [(24, (.pointer (some ⟨b180, 0, none⟩))), (25, (.int .i64 u170.2.1)), (26, (.int .i64 u170.2.2)), (27, (.pointer (some ⟨b200, 0, none⟩))), (28, (.bool u190.2)), (29, (.pointer (some ⟨b220, 0, none⟩))), (207, (.bool y234))] a → K230 a w231 := by
                  intro y234 w231 hF hB232 hS233
                  subst hk235
                  refine fun a ha => hK230 _ _ ?_ a ha
                  refine W.cond rfl (fun h237 => ?_) (fun h237 => ?_)
                  · replace hF := ifP h237 hF
                    refine W.seq fun K238 hK238 => ?_
                    refine W.region ?_
                    refine wl_assign rfl rfl ?_
                    refine WL.nil ?_
                    refine fun a ha => hK238 _ _ ?_ a ha
                    refine W.ret ?_
                    have hr := Option.some.inj hF
                    subst hr
                    exact rets (vs := [(.bool false)]) hQ rfl ⟨rv_tmp rfl, trivial⟩ ⟨rfl, hB232⟩
                  · replace hF := ifN h237 hF
                    refine W.skip ?_
                    refine fun a ha => hK229 _ _ ?_ a ha
                    refine W.seq fun K239 hK239 => ?_
                    obtain ⟨k243, hk243, hF⟩ := jE0 hF
                    have hJ244 : ∀ (w240 : World) (_ : k243 = some r) (_ : Below w0.heap.size w0 w240) (_ : Sep w0.heap.size w240 []), ∀ a, St 312 [] a → K239 a w240 := by
                      intro w240 hF hB241 hS242
                      subst hk243
                      refine fun a ha => hK239 _ _ ?_ a ha
                      refine W.seq fun K245 hK245 => ?_
                      refine W.region ?_
                      refine wl_assign rfl rfl ?_
                      refine WL.nil ?_
                      refine fun a ha => hK245 _ _ ?_ a ha
                      refine W.ret ?_
                      have hr := Option.some.inj hF
                      subst hr
                      exact rets (vs := [(.bool true)]) hQ rfl ⟨rv_tmp rfl, trivial⟩ ⟨rfl, hB241⟩
                    refine W.seq fun K246 hK246 => ?_
                    refine W.region ?_
                    refine wl_move rfl rfl ?_
                    refine WL.nil ?_
                    refine fun a ha => hK246 _ _ ?_ a ha
                    refine W.cond rfl (fun h247 => ?_) (fun h247 => ?_)
                    · replace hF := ifP h247 hF
                      refine W.seq fun K248 hK248 => ?_
                      refine W.region ?_
                      refine wl_load_blk (i := 5) (vs := [v191, v193, (.int .i64 u190.1.2.2.1), (.int .i64 u190.1.2.2.2)]) (v := (.agg #[v191, v193, (.int .i64 u190.1.2.2.1), (.int .i64 u190.1.2.2.2)])) tf_53 rfl rfl hS233 rfl rfl rfl ?_
                      refine wl_move rfl rfl ?_
                      obtain ⟨u249, hu249, hF⟩ := bindE hF
                      refine wl_call rfl Try.call51 (C_impl_ClosePairs w231 u190.1 v191 (hS233.own_ro (i := 3) rfl) v193 (hS233.own_ro (i := 4) rfl) u170.2.1 _ hu249) rfl ?_
                      rintro _ w252 ⟨v250, F251, rfl, hb253, hM256⟩
                      refine ⟨_, rfl, ?_⟩
                      have hB254 := hB232.trans (hb253.mono hB232.size)
                      have hS255 := hS233.join hb253 hM256 hB232.size
                      refine wl_move rfl rfl ?_
                      refine wl_extract rfl rfl rfl ?_
                      refine wl_extract rfl rfl rfl ?_
                      refine wl_assign rfl rfl ?_
                      refine wl_assign rfl rfl ?_
                      refine WL.nil ?_
                      refine fun a ha => hK248 _ _ ?_ a ha
                      refine W.seq fun K257 hK257 => ?_
                      refine W.region ?_
                      refine wl_load_blk (i := 3) (vs := [v171, v173, (.int .i64 u170.1.2.2.1), (.int .i64 u170.1.2.2.2)]) (v := (.agg #[v171, v173, (.int .i64 u170.1.2.2.1), (.int .i64 u170.1.2.2.2)])) tf_53 rfl rfl hS255 rfl rfl rfl ?_
                      refine wl_move rfl rfl ?_
                      obtain ⟨u258, hu258, hF⟩ := bindE hF
                      refine wl_call rfl Try.call51 (C_impl_ClosePairs w252 u170.1 v171 (hS255.own_ro (i := 1) rfl) v173 (hS255.own_ro (i := 2) rfl) u170.2.1 _ hu258) rfl ?_
                      rintro _ w261 ⟨v259, F260, rfl, hb262, hM265⟩
                      refine ⟨_, rfl, ?_⟩
                      have hB263 := hB254.trans (hb262.mono hB254.size)
                      have hS264 := hS255.join hb262 hM265 hB254.size
                      refine wl_move rfl rfl ?_
                      refine wl_extract rfl rfl rfl ?_
                      refine wl_extract rfl rfl rfl ?_
                      refine wl_assign rfl rfl ?_
                      refine wl_assign rfl rfl ?_
                      refine WL.nil ?_
                      refine fun a ha => hK257 _ _ ?_ a ha
                      refine W.seq fun K266 hK266 => ?_
                      refine W.region ?_
                      refine wl_load_blk (i := 4) (vs := [v171, v173, (.int .i64 u170.1.2.2.1), (.int .i64 u170.1.2.2.2)]) (v := (.agg #[v171, v173, (.int .i64 u170.1.2.2.1), (.int .i64 u170.1.2.2.2)])) tf_53 rfl rfl hS264 rfl rfl rfl ?_
                      refine wl_move rfl rfl ?_
                      obtain ⟨u267, hu267, hF⟩ := bindE hF
                      refine wl_call rfl Try.call67 (C_spec_ClosePairs w261 u170.1 v171 (hS264.own_ro (i := 2) rfl) v173 (hS264.own_ro (i := 3) rfl) u170.2.1 _ hu267) rfl ?_
                      rintro _ w270 ⟨v268, F269, rfl, hb271, hM274⟩
                      refine ⟨_, rfl, ?_⟩
                      have hB272 := hB263.trans (hb271.mono hB263.size)
                      have hS273 := hS264.join hb271 hM274 hB263.size
                      refine wl_move rfl rfl ?_
                      refine wl_extract rfl rfl rfl ?_
                      refine wl_extract rfl rfl rfl ?_
                      refine wl_assign rfl rfl ?_
                      refine wl_assign rfl rfl ?_
                      refine WL.nil ?_
                      refine fun a ha => hK266 _ _ ?_ a ha
                      refine W.seq fun K275 hK275 => ?_
                      refine W.seq fun K276 hK276 => ?_
                      obtain ⟨k281, hk281, hF⟩ := jE1 hF
                      have hJ282 : ∀ (y280 : Bool) (w277 : World) (_ : k281 y280 = some r) (_ : Below w0.heap.size w0 w277) (_ : Sep w0.heap.size w277 [R.own ty_63 F172 v171 u170.1.1, R.own ty_3 F174 v173 u170.1.2.1, R.blk b180 53 [v171, v173, (.int .i64 u170.1.2.2.1), (.int .i64 u170.1.2.2.2)], R.own ty_63 F192 v191 u190.1.1, R.own ty_3 F194 v193 u190.1.2.1, R.blk b200 53 [v191, v193, (.int .i64 u190.1.2.2.1), (.int .i64 u190.1.2.2.2)]]), ∀ a, St 312 [(24, (.pointer (some ⟨b180, 0, none⟩))), (25, (.int .i64 u170.2.1)), (26, (.int .i64 u170.2.2)), (27, (.pointer (some ⟨b200, 0, none⟩))), (257, (.bool y280))] a → K276 a w277 := by
                        intro y280 w277 hF hB278 hS279
                        subst hk281
                        refine fun a ha => hK276 _ _ ?_ a ha
                        refine W.cond rfl (fun h283 => ?_) (fun h283 => ?_)
                        · replace hF := ifP h283 hF
                          refine W.seq fun K284 hK284 => ?_
                          refine W.region ?_
                          refine wl_assign rfl rfl ?_
                          refine WL.nil ?_
                          refine fun a ha => hK284 _ _ ?_ a ha
                          refine W.ret ?_
                          have hr := Option.some.inj hF
                          subst hr
                          exact rets (vs := [(.bool false)]) hQ rfl ⟨rv_tmp rfl, trivial⟩ ⟨rfl, hB278⟩
                        · replace hF := ifN h283 hF
                          refine W.skip ?_
                          refine fun a ha => hK275 _ _ ?_ a ha
                          refine W.seq fun K285 hK285 => ?_
                          refine W.region ?_
                          refine wl_load_blk (i := 5) (vs := [v191, v193, (.int .i64 u190.1.2.2.1), (.int .i64 u190.1.2.2.2)]) (v := (.agg #[v191, v193, (.int .i64 u190.1.2.2.1), (.int .i64 u190.1.2.2.2)])) tf_53 rfl rfl hS279 rfl rfl rfl ?_
                          refine wl_move rfl rfl ?_
                          obtain ⟨u286, hu286, hF⟩ := bindE hF
                          refine wl_call rfl Try.call69 (C_impl_WideSteps w277 u190.1 v191 (hS279.own_ro (i := 3) rfl) v193 (hS279.own_ro (i := 4) rfl) u170.2.1 _ hu286) rfl ?_
                          rintro _ w289 ⟨v287, F288, rfl, hb290, hM293⟩
                          refine ⟨_, rfl, ?_⟩
                          have hB291 := hB278.trans (hb290.mono hB278.size)
                          have hS292 := hS279.join hb290 hM293 hB278.size
                          refine wl_move rfl rfl ?_
                          refine wl_extract rfl rfl rfl ?_
                          refine wl_extract rfl rfl rfl ?_
                          refine wl_assign rfl rfl ?_
                          refine wl_assign rfl rfl ?_
                          refine WL.nil ?_
                          refine fun a ha => hK285 _ _ ?_ a ha
                          refine W.seq fun K294 hK294 => ?_
                          refine W.region ?_
                          refine wl_load_blk (i := 3) (vs := [v171, v173, (.int .i64 u170.1.2.2.1), (.int .i64 u170.1.2.2.2)]) (v := (.agg #[v171, v173, (.int .i64 u170.1.2.2.1), (.int .i64 u170.1.2.2.2)])) tf_53 rfl rfl hS292 rfl rfl rfl ?_
                          refine wl_move rfl rfl ?_
                          obtain ⟨u295, hu295, hF⟩ := bindE hF
                          refine wl_call rfl Try.call69 (C_impl_WideSteps w289 u170.1 v171 (hS292.own_ro (i := 1) rfl) v173 (hS292.own_ro (i := 2) rfl) u170.2.1 _ hu295) rfl ?_
                          rintro _ w298 ⟨v296, F297, rfl, hb299, hM302⟩
                          refine ⟨_, rfl, ?_⟩
                          have hB300 := hB291.trans (hb299.mono hB291.size)
                          have hS301 := hS292.join hb299 hM302 hB291.size
                          refine wl_move rfl rfl ?_
                          refine wl_extract rfl rfl rfl ?_
                          refine wl_extract rfl rfl rfl ?_
                          refine wl_assign rfl rfl ?_
                          refine wl_assign rfl rfl ?_
                          refine WL.nil ?_
                          refine fun a ha => hK294 _ _ ?_ a ha
                          refine W.seq fun K303 hK303 => ?_
                          refine W.region ?_
                          refine wl_load_blk (i := 4) (vs := [v171, v173, (.int .i64 u170.1.2.2.1), (.int .i64 u170.1.2.2.2)]) (v := (.agg #[v171, v173, (.int .i64 u170.1.2.2.1), (.int .i64 u170.1.2.2.2)])) tf_53 rfl rfl hS301 rfl rfl rfl ?_
                          refine wl_move rfl rfl ?_
                          obtain ⟨u304, hu304, hF⟩ := bindE hF
                          refine wl_call rfl Try.call70 (C_spec_WideSteps w298 u170.1 v171 (hS301.own_ro (i := 2) rfl) v173 (hS301.own_ro (i := 3) rfl) u170.2.1 _ hu304) rfl ?_
                          rintro _ w307 ⟨v305, F306, rfl, hb308, hM311⟩
                          refine ⟨_, rfl, ?_⟩
                          have hB309 := hB300.trans (hb308.mono hB300.size)
                          have hS310 := hS301.join hb308 hM311 hB300.size
                          refine wl_move rfl rfl ?_
                          refine wl_extract rfl rfl rfl ?_
                          refine wl_extract rfl rfl rfl ?_
                          refine wl_assign rfl rfl ?_
                          refine wl_assign rfl rfl ?_
                          refine WL.nil ?_
                          refine fun a ha => hK303 _ _ ?_ a ha
                          refine W.seq fun K312 hK312 => ?_
                          refine W.seq fun K313 hK313 => ?_
                          obtain ⟨k318, hk318, hF⟩ := jE1 hF
                          have hJ319 : ∀ (y317 : Bool) (w314 : World) (_ : k318 y317 = some r) (_ : Below w0.heap.size w0 w314) (_ : Sep w0.heap.size w314 [R.own ty_63 F172 v171 u170.1.1, R.own ty_3 F174 v173 u170.1.2.1, R.blk b180 53 [v171, v173, (.int .i64 u170.1.2.2.1), (.int .i64 u170.1.2.2.2)], R.own ty_3 F288 v287 u286.1, R.own ty_3 F306 v305 u304.1]), ∀ a, St 312 [(24, (.pointer (some ⟨b180, 0, none⟩))), (25, (.int .i64 u170.2.1)), (26, (.int .i64 u170.2.2)), (37, v287), (41, v305), (291, (.bool y317))] a → K313 a w314 := by
                            intro y317 w314 hF hB315 hS316
                            subst hk318
                            refine fun a ha => hK313 _ _ ?_ a ha
                            refine W.cond rfl (fun h320 => ?_) (fun h320 => ?_)
                            · replace hF := ifP h320 hF
                              refine W.seq fun K321 hK321 => ?_
                              refine W.region ?_
                              refine wl_assign rfl rfl ?_
                              refine WL.nil ?_
                              refine fun a ha => hK321 _ _ ?_ a ha
                              refine W.ret ?_
                              have hr := Option.some.inj hF
                              subst hr
                              exact rets (vs := [(.bool false)]) hQ rfl ⟨rv_tmp rfl, trivial⟩ ⟨rfl, hB315⟩
                            · replace hF := ifN h320 hF
                              refine W.skip ?_
                              refine fun a ha => hK312 _ _ ?_ a ha
                              refine W.seq fun K322 hK322 => ?_
                              refine W.region ?_
                              refine wl_move rfl rfl ?_
                              refine wl_lenr (e := ty_3) (l := u286.1) Try.underlying29 rfl rfl (hS316.own_ro (i := 3) rfl) ?_
                              refine wl_move rfl rfl ?_
                              refine WL.nil ?_
                              refine fun a ha => hK322 _ _ ?_ a ha
                              refine W.block ?_
                              refine W.loopk (fun m a w323 => ∃ (y326 : Int), St 312 [(24, (.pointer (some ⟨b180, 0, none⟩))), (25, (.int .i64 u170.2.1)), (26, (.int .i64 u170.2.2)), (41, v305), (292, v287), (293, (.int .i64 (List.length u286.1 : Int))), (294, (.int .i64 y326))] a ∧ Below w0.heap.size w0 w323 ∧ Sep w0.heap.size w323 [R.own ty_63 F172 v171 u170.1.1, R.own ty_3 F174 v173 u170.1.2.1, R.blk b180 53 [v171, v173, (.int .i64 u170.1.2.2.1), (.int .i64 u170.1.2.2.2)], R.own ty_3 F306 v305 u304.1, R.own ty_3 F288 v287 u286.1] ∧ F_laws_FnShowChanges_L1 u286 u170 u304 k243 m y326 = some r) FU ?_ ?_
                              ·
                                exact fun a ha => ⟨0, ha.sub ⟨rfl, rfl, rfl, rfl, rfl, rfl, rfl, trivial⟩, hB315, (hS316.sel [0, 1, 2, 4, 3] rfl), hF⟩
                              ·
                                rintro m329 a w323 ⟨y326, ha, hB324, hS325, hF⟩ KL328 hKL328
                                refine W.at ?_ ha
                                cases m329 with
                                | zero => exact noneE hF
                                | succ m329 =>
                                  obtain ⟨nx327, hnx327⟩ : ∃ k, k = F_laws_FnShowChanges_L1 u286 u170 u304 k243 m329 := ⟨_, rfl⟩
                                  rw [F_laws_FnShowChanges_L1, ← hnx327] at hF
                                  refine W.seq fun K330 hK330 => ?_
                                  refine W.region ?_
                                  refine wl_lss rfl rfl rfl ?_
                                  refine WL.nil ?_
                                  refine fun a ha => hK330 _ _ ?_ a ha
                                  refine W.seq fun K331 hK331 => ?_
                                  refine W.cond rfl (fun h332 => ?_) (fun h332 => ?_)
                                  · replace hF := ifP h332 hF
                                    refine W.skip ?_
                                    refine fun a ha => hK331 _ _ ?_ a ha
                                    refine W.seq fun K333 hK333 => ?_
                                    refine W.block ?_
                                    refine W.seq fun K334 hK334 => ?_
                                    refine W.region ?_
                                    obtain ⟨u335, hu335, hF⟩ := bindE hF
                                    refine wl_indexo (e := ty_3) (i := 4) Try.underlying29 rfl rfl rfl hS325 rfl hu335 ?_
                                    rintro p336 _ rfl hp337 ho338
                                    refine wl_load_p (vs := [(.int .i64 u335)]) (v := (.int .i64 u335)) tf_3 rfl rfl hp337 rfl rfl ?_
                                    refine wl_assign rfl rfl ?_
                                    refine WL.nil ?_
                                    refine fun a ha => hK334 _ _ ?_ a ha
                                    refine W.seq fun K339 hK339 => ?_
                                    obtain ⟨k344, hk344, hF⟩ := jE1 hF
                                    have hJ345 : ∀ (y343 : Bool) (w340 : World) (_ : k344 y343 = some r) (_ : Below w0.heap.size w0 w340) (_ : Sep w0.heap.size w340 [R.own ty_63 F172 v171 u170.1.1, R.own ty_3 F174 v173 u170.1.2.1, R.blk b180 53 [v171, v173, (.int .i64 u170.1.2.2.1), (.int .i64 u170.1.2.2.2)], R.own ty_3 F306 v305 u304.1, R.own ty_3 F288 v287 u286.1]), ∀ a, St 312 [(24, (.pointer (some ⟨b180, 0, none⟩))), (25, (.int .i64 u170.2.1)), (26, (.int .i64 u170.2.2)), (41, v305), (292, v287), (293, (.int .i64 (List.length u286.1 : Int))), (294, (.int .i64 y326)), (310, (.bool y343))] a → K339 a w340 := by
                                      intro y343 w340 hF hB341 hS342
                                      subst hk344
                                      refine fun a ha => hK339 _ _ ?_ a ha
                                      refine W.cond rfl (fun h346 => ?_) (fun h346 => ?_)
                                      · replace hF := ifP h346 hF
                                        refine W.seq fun K347 hK347 => ?_
                                        refine W.region ?_
                                        refine wl_assign rfl rfl ?_
                                        refine WL.nil ?_
                                        refine fun a ha => hK347 _ _ ?_ a ha
                                        refine W.ret ?_
                                        have hr := Option.some.inj hF
                                        subst hr
                                        exact rets (vs := [(.bool false)]) hQ rfl ⟨rv_tmp rfl, trivial⟩ ⟨rfl, hB341⟩
                                      · replace hF := ifN h346 hF
                                        refine W.skip ?_
                                        refine fun a ha => hK333 _ _ ?_ a ha
                                        refine W.region ?_
                                        refine wl_add rfl rfl rfl ?_
                                        refine wl_move rfl rfl ?_
                                        refine WL.nil ?_
                                        rw [hnx327] at hF
                                        exact fun a ha => hKL328 a _ m329 (Nat.lt_succ_self m329) ⟨(w64 (y326 + 1)), ha.sub ⟨rfl, rfl, rfl, rfl, rfl, rfl, rfl, trivial⟩, hB341, (hS342.sel [0, 1, 2, 3, 4] rfl), hF⟩
                                    refine W.region ?_
                                    refine wl_move rfl rfl ?_
                                    refine wl_field (o := 1) (off' := 1) ff_53_1 rfl rfl rfl ?_
                                    refine wl_load_blk (i := 2) (vs := [v173]) (v := v173) tf_29 rfl rfl hS325 rfl rfl rfl ?_
                                    refine wl_move rfl rfl ?_
                                    obtain ⟨u348, hu348, hF⟩ := bindE hF
                                    refine wl_indexo (e := ty_3) (i := 1) Try.underlying29 rfl rfl rfl hS325 rfl hu348 ?_
                                    rintro p349 _ rfl hp350 ho351
                                    refine wl_load_p (vs := [(.int .i64 u348)]) (v := (.int .i64 u348)) tf_3 rfl rfl hp350 rfl rfl ?_
                                    refine wl_geq rfl rfl rfl ?_
                                    refine wl_move rfl rfl ?_
                                    rcases bE (decide (u348 ≤ u170.2.2)) with h352 | h352
                                    · replace hF := ifP h352 hF
                                      refine wl_on rfl rfl h352 ?_
                                      refine wl_move rfl rfl ?_
                                      refine wl_on rfl rfl h352 ?_
                                      refine wl_move rfl rfl ?_
                                      refine wl_on rfl rfl h352 ?_
                                      obtain ⟨u353, hu353, hF⟩ := bindE hF
                                      refine wl_call rfl Try.call72 (C_laws_pIn w323 u304.1 v305 (hS325.own_ro (i := 3) rfl) u335 _ hu353) rfl ?_
                                      rintro _ w354 ⟨rfl, hb355⟩
                                      refine ⟨_, rfl, ?_⟩
                                      have hB356 := hB324.trans (hb355.mono hB324.size)
                                      have hS357 := hS325.below hb355
                                      refine wl_on rfl rfl h352 ?_
                                      refine wl_not rfl rfl ?_
                                      refine wl_pick_t rfl rfl h352 rfl ?_
                                      refine WL.nil ?_
                                      exact fun a ha => hJ345 ((!u353)) _ hF hB356 (hS357.sel [0, 1, 2, 3, 4] rfl) a (ha.sub ⟨rfl, rfl, rfl, rfl, rfl, rfl, rfl, rfl, trivial⟩)
                                    · replace hF := ifN h352 hF
                                      refine wl_off rfl rfl rfl h352 ?_
                                      refine wl_off rfl rfl rfl h352 ?_
                                      refine wl_off rfl rfl rfl h352 ?_
                                      refine wl_off rfl rfl rfl h352 ?_
                                      refine wl_pick_f rfl rfl h352 rfl ?_
                                      refine WL.nil ?_
                                      exact fun a ha => hJ345 (false) _ hF hB324 (hS325.sel [0, 1, 2, 3, 4] rfl) a (ha.sub ⟨rfl, rfl, rfl, rfl, rfl, rfl, rfl, rfl, trivial⟩)
                                  · replace hF := ifN h332 hF
                                    refine W.exit ?_
                                    exact fun a ha => hJ244 _ hF hB324 (hS325.sel [] rfl) a (ha.sub trivial)
                          refine W.region ?_
                          refine wl_move rfl rfl ?_
                          refine wl_not rfl rfl ?_
                          refine wl_move rfl rfl ?_
                          rcases bE (!u286.2) with h359 | h359
                          · replace hF := ifP h359 hF
                            refine wl_off rfl rfl rfl h359 ?_
                            refine wl_off rfl rfl rfl h359 ?_
                            refine wl_pick_t rfl rfl h359 rfl ?_
                            refine wl_move rfl rfl ?_
                            refine wl_off rfl rfl rfl rfl ?_
                            refine wl_off rfl rfl rfl rfl ?_
                            refine wl_pick_t rfl rfl rfl rfl ?_
                            refine wl_move rfl rfl ?_
                            refine wl_off rfl rfl rfl rfl ?_
                            refine wl_off rfl rfl rfl rfl ?_
                            refine wl_off rfl rfl rfl rfl ?_
                            refine wl_off rfl rfl rfl rfl ?_
                            refine wl_pick_t rfl rfl rfl rfl ?_
                            refine WL.nil ?_
                            exact fun a ha => hJ319 (true) _ hF hB309 (hS310.sel [3, 4, 5, 2, 0] rfl) a (ha.sub ⟨rfl, rfl, rfl, rfl, rfl, rfl, trivial⟩)
                          · replace hF := ifN h359 hF
                            refine wl_on rfl rfl h359 ?_
                            refine wl_move rfl rfl ?_
                            refine wl_on rfl rfl h359 ?_
                            refine wl_not rfl rfl ?_
                            refine wl_pick_f rfl rfl h359 rfl ?_
                            refine wl_move rfl rfl ?_
                            rcases bE (!u295.2) with h360 | h360
                            · replace hF := ifP h360 hF
                              refine wl_off rfl rfl rfl h360 ?_
                              refine wl_off rfl rfl rfl h360 ?_
                              refine wl_pick_t rfl rfl h360 rfl ?_
                              refine wl_move rfl rfl ?_
                              refine wl_off rfl rfl rfl rfl ?_
                              refine wl_off rfl rfl rfl rfl ?_
                              refine wl_off rfl rfl rfl rfl ?_
                              refine wl_off rfl rfl rfl rfl ?_
                              refine wl_pick_t rfl rfl rfl rfl ?_
                              refine WL.nil ?_
                              exact fun a ha => hJ319 (true) _ hF hB309 (hS310.sel [3, 4, 5, 2, 0] rfl) a (ha.sub ⟨rfl, rfl, rfl, rfl, rfl, rfl, trivial⟩)
                            · replace hF := ifN h360 hF
                              refine wl_on rfl rfl h360 ?_
                              refine wl_move rfl rfl ?_
                              refine wl_on rfl rfl h360 ?_
                              refine wl_not rfl rfl ?_
                              refine wl_pick_f rfl rfl h360 rfl ?_
                              refine wl_move rfl rfl ?_
                              rcases bE (!u304.2) with h361 | h361
                              · replace hF := ifP h361 hF
                                refine wl_off rfl rfl rfl h361 ?_
                                refine wl_off rfl rfl rfl h361 ?_
                                refine wl_off rfl rfl rfl h361 ?_
                                refine wl_off rfl rfl rfl h361 ?_
                                refine wl_pick_t rfl rfl h361 rfl ?_
                                refine WL.nil ?_
                                exact fun a ha => hJ319 (true) _ hF hB309 (hS310.sel [3, 4, 5, 2, 0] rfl) a (ha.sub ⟨rfl, rfl, rfl, rfl, rfl, rfl, trivial⟩)
                              · replace hF := ifN h361 hF
                                refine wl_on rfl rfl h361 ?_
                                refine wl_move rfl rfl ?_
                                refine wl_on rfl rfl h361 ?_
                                refine wl_move rfl rfl ?_
                                refine wl_on rfl rfl h361 ?_
                                obtain ⟨u362, hu362, hF⟩ := bindE hF
                                refine wl_call rfl Try.call71 (C_laws_sameInts w307 u295.1 v296 (hS310.own_ro (i := 1) rfl) u304.1 v305 (hS310.own_ro (i := 0) rfl) _ hu362) rfl ?_
                                rintro _ w363 ⟨rfl, hb364⟩
                                refine ⟨_, rfl, ?_⟩
                                have hB365 := hB309.trans (hb364.mono hB309.size)
                                have hS366 := hS310.below hb364
                                refine wl_on rfl rfl h361 ?_
                                refine wl_not rfl rfl ?_
                                refine wl_pick_f rfl rfl h361 rfl ?_
                                refine WL.nil ?_
                                exact fun a ha => hJ319 ((!u362)) _ hF hB365 (hS366.sel [3, 4, 5, 2, 0] rfl) a (ha.sub ⟨rfl, rfl, rfl, rfl, rfl, rfl, trivial⟩)
                      refine W.region ?_
                      refine wl_field (o := 1) (off' := 1) ff_53_1 rfl rfl rfl ?_
                      refine wl_load_blk (i := 11) (vs := [v213]) (v := v213) tf_29 rfl rfl hS273 rfl rfl rfl ?_
                      refine wl_move rfl rfl ?_
                      obtain ⟨u368, hu368, hF⟩ := bindE hF
                      refine wl_indexo (e := ty_3) (i := 10) Try.underlying29 rfl rfl rfl hS273 rfl hu368 ?_
                      rintro p369 _ rfl hp370 ho371
                      refine wl_load_p (vs := [(.int .i64 u368)]) (v := (.int .i64 u368)) tf_3 rfl rfl hp370 rfl rfl ?_
                      refine wl_move rfl rfl ?_
                      refine wl_neq rfl rfl rfl ?_
                      refine wl_move rfl rfl ?_
                      rcases bE (u368 != u170.2.2) with h372 | h372
                      · replace hF := ifP h372 hF
                        refine wl_off rfl rfl rfl h372 ?_
                        refine wl_off rfl rfl rfl h372 ?_
                        refine wl_pick_t rfl rfl h372 rfl ?_
                        refine wl_move rfl rfl ?_
                        refine wl_off rfl rfl rfl rfl ?_
                        refine wl_off rfl rfl rfl rfl ?_
                        refine wl_pick_t rfl rfl rfl rfl ?_
                        refine wl_move rfl rfl ?_
                        refine wl_off rfl rfl rfl rfl ?_
                        refine wl_off rfl rfl rfl rfl ?_
                        refine wl_pick_t rfl rfl rfl rfl ?_
                        refine wl_move rfl rfl ?_
                        refine wl_off rfl rfl rfl rfl ?_
                        refine wl_off rfl rfl rfl rfl ?_
                        refine wl_off rfl rfl rfl rfl ?_
                        refine wl_off rfl rfl rfl rfl ?_
                        refine wl_pick_t rfl rfl rfl rfl ?_
                        refine wl_move rfl rfl ?_
                        refine wl_off rfl rfl rfl rfl ?_
                        refine wl_off rfl rfl rfl rfl ?_
                        refine wl_off rfl rfl rfl rfl ?_
                        refine wl_off rfl rfl rfl rfl ?_
                        refine wl_pick_t rfl rfl rfl rfl ?_
                        refine WL.nil ?_
                        exact fun a ha => hJ282 (true) _ hF hB272 (hS273.sel [3, 4, 5, 6, 7, 8] rfl) a (ha.sub ⟨rfl, rfl, rfl, rfl, rfl, trivial⟩)
                      · replace hF := ifN h372 hF
                        refine wl_on rfl rfl h372 ?_
                        refine wl_move rfl rfl ?_
                        refine wl_on rfl rfl h372 ?_
                        refine wl_not rfl rfl ?_
                        refine wl_pick_f rfl rfl h372 rfl ?_
                        refine wl_move rfl rfl ?_
                        rcases bE (!u249.2) with h373 | h373
                        · replace hF := ifP h373 hF
                          refine wl_off rfl rfl rfl h373 ?_
                          refine wl_off rfl rfl rfl h373 ?_
                          refine wl_pick_t rfl rfl h373 rfl ?_
                          refine wl_move rfl rfl ?_
                          refine wl_off rfl rfl rfl rfl ?_
                          refine wl_off rfl rfl rfl rfl ?_
                          refine wl_pick_t rfl rfl rfl rfl ?_
                          refine wl_move rfl rfl ?_
                          refine wl_off rfl rfl rfl rfl ?_
                          refine wl_off rfl rfl rfl rfl ?_
                          refine wl_off rfl rfl rfl rfl ?_
                          refine wl_off rfl rfl rfl rfl ?_
                          refine wl_pick_t rfl rfl rfl rfl ?_
                          refine wl_move rfl rfl ?_
                          refine wl_off rfl rfl rfl rfl ?_
                          refine wl_off rfl rfl rfl rfl ?_
                          refine wl_off rfl rfl rfl rfl ?_
                          refine wl_off rfl rfl rfl rfl ?_
                          refine wl_pick_t rfl rfl rfl rfl ?_
                          refine WL.nil ?_
                          exact fun a ha => hJ282 (true) _ hF hB272 (hS273.sel [3, 4, 5, 6, 7, 8] rfl) a (ha.sub ⟨rfl, rfl, rfl, rfl, rfl, trivial⟩)
                        · replace hF := ifN h373 hF
                          refine wl_on rfl rfl h373 ?_
                          refine wl_move rfl rfl ?_
                          refine wl_on rfl rfl h373 ?_
                          refine wl_not rfl rfl ?_
                          refine wl_pick_f rfl rfl h373 rfl ?_
                          refine wl_move rfl rfl ?_
                          rcases bE (!u258.2) with h374 | h374
                          · replace hF := ifP h374 hF
                            refine wl_off rfl rfl rfl h374 ?_
                            refine wl_off rfl rfl rfl h374 ?_
                            refine wl_pick_t rfl rfl h374 rfl ?_
                            refine wl_move rfl rfl ?_
                            refine wl_off rfl rfl rfl rfl ?_
                            refine wl_off rfl rfl rfl rfl ?_
                            refine wl_off rfl rfl rfl rfl ?_
                            refine wl_off rfl rfl rfl rfl ?_
                            refine wl_pick_t rfl rfl rfl rfl ?_
                            refine wl_move rfl rfl ?_
                            refine wl_off rfl rfl rfl rfl ?_
                            refine wl_off rfl rfl rfl rfl ?_
                            refine wl_off rfl rfl rfl rfl ?_
                            refine wl_off rfl rfl rfl rfl ?_
                            refine wl_pick_t rfl rfl rfl rfl ?_
                            refine WL.nil ?_
                            exact fun a ha => hJ282 (true) _ hF hB272 (hS273.sel [3, 4, 5, 6, 7, 8] rfl) a (ha.sub ⟨rfl, rfl, rfl, rfl, rfl, trivial⟩)
                          · replace hF := ifN h374 hF
                            refine wl_on rfl rfl h374 ?_
                            refine wl_move rfl rfl ?_
                            refine wl_on rfl rfl h374 ?_
                            refine wl_not rfl rfl ?_
                            refine wl_pick_f rfl rfl h374 rfl ?_
                            refine wl_move rfl rfl ?_
                            rcases bE (!u267.2) with h375 | h375
                            · replace hF := ifP h375 hF
                              refine wl_off rfl rfl rfl h375 ?_
                              refine wl_off rfl rfl rfl h375 ?_
                              refine wl_off rfl rfl rfl h375 ?_
                              refine wl_off rfl rfl rfl h375 ?_
                              refine wl_pick_t rfl rfl h375 rfl ?_
                              refine wl_move rfl rfl ?_
                              refine wl_off rfl rfl rfl rfl ?_
                              refine wl_off rfl rfl rfl rfl ?_
                              refine wl_off rfl rfl rfl rfl ?_
                              refine wl_off rfl rfl rfl rfl ?_
                              refine wl_pick_t rfl rfl rfl rfl ?_
                              refine WL.nil ?_
                              exact fun a ha => hJ282 (true) _ hF hB272 (hS273.sel [3, 4, 5, 6, 7, 8] rfl) a (ha.sub ⟨rfl, rfl, rfl, rfl, rfl, trivial⟩)
                            · replace hF := ifN h375 hF
                              refine wl_on rfl rfl h375 ?_
                              refine wl_move rfl rfl ?_
                              refine wl_on rfl rfl h375 ?_
                              refine wl_move rfl rfl ?_
                              refine wl_on rfl rfl h375 ?_
                              obtain ⟨u376, hu376, hF⟩ := bindE hF
                              refine wl_call rfl Try.call68 (C_laws_sameLists w270 u249.1 v250 (hS273.own_ro (i := 2) rfl) u267.1 v268 (hS273.own_ro (i := 0) rfl) _ hu376) rfl ?_
                              rintro _ w377 ⟨rfl, hb378⟩
                              refine ⟨_, rfl, ?_⟩
                              have hB379 := hB272.trans (hb378.mono hB272.size)
                              have hS380 := hS273.below hb378
                              refine wl_on rfl rfl h375 ?_
                              refine wl_not rfl rfl ?_
                              refine wl_pick_f rfl rfl h375 rfl ?_
                              refine wl_move rfl rfl ?_
                              rcases bE (!u376) with h382 | h382
                              · replace hF := ifP h382 hF
                                refine wl_off rfl rfl rfl h382 ?_
                                refine wl_off rfl rfl rfl h382 ?_
                                refine wl_off rfl rfl rfl h382 ?_
                                refine wl_off rfl rfl rfl h382 ?_
                                refine wl_pick_t rfl rfl h382 rfl ?_
                                refine WL.nil ?_
                                exact fun a ha => hJ282 (true) _ hF hB379 (hS380.sel [3, 4, 5, 6, 7, 8] rfl) a (ha.sub ⟨rfl, rfl, rfl, rfl, rfl, trivial⟩)
                              · replace hF := ifN h382 hF
                                refine wl_on rfl rfl h382 ?_
                                refine wl_move rfl rfl ?_
                                refine wl_on rfl rfl h382 ?_
                                refine wl_move rfl rfl ?_
                                refine wl_on rfl rfl h382 ?_
                                obtain ⟨u383, hu383, hF⟩ := bindE hF
                                refine wl_call rfl Try.call68 (C_laws_sameLists w377 u258.1 v259 (hS380.own_ro (i := 1) rfl) u267.1 v268 (hS380.own_ro (i := 0) rfl) _ hu383) rfl ?_
                                rintro _ w384 ⟨rfl, hb385⟩
                                refine ⟨_, rfl, ?_⟩
                                have hB386 := hB379.trans (hb385.mono hB379.size)
                                have hS387 := hS380.below hb385
                                refine wl_on rfl rfl h382 ?_
                                refine wl_not rfl rfl ?_
                                refine wl_pick_f rfl rfl h382 rfl ?_
                                refine WL.nil ?_
                                exact fun a ha => hJ282 ((!u383)) _ hF hB386 (hS387.sel [3, 4, 5, 6, 7, 8] rfl) a (ha.sub ⟨rfl, rfl, rfl, rfl, rfl, trivial⟩)
                    · replace hF := ifN h247 hF
                      refine W.skip ?_
                      exact fun a ha => hJ244 _ hF hB232 (hS233.sel [] rfl) a (ha.sub trivial)
                refine W.region ?_
                refine wl_move rfl rfl ?_
                refine wl_move rfl rfl ?_
                refine wl_neqb Try.underlying4 rfl rfl rfl ?_
                refine wl_move rfl rfl ?_
                rcases bE (u190.2 != u210.2) with h389 | h389
                · replace hF := ifP h389 hF
                  refine wl_off rfl rfl rfl h389 ?_
                  refine wl_off rfl rfl rfl h389 ?_
                  refine wl_off rfl rfl rfl h389 ?_
                  refine wl_off rfl rfl rfl h389 ?_
                  refine wl_pick_t rfl rfl h389 rfl ?_
                  refine WL.nil ?_
                  exact fun a ha => hJ236 (true) _ hF hB226 (hS227.sel [7, 8, 6, 4, 5, 3, 1, 2, 0] rfl) a (ha.sub ⟨rfl, rfl, rfl, rfl, rfl, rfl, rfl, trivial⟩)
                · replace hF := ifN h389 hF
                  refine wl_on rfl rfl h389 ?_
                  refine wl_load_blk (i := 3) (vs := [v191, v193, (.int .i64 u190.1.2.2.1), (.int .i64 u190.1.2.2.2)]) (v := (.agg #[v191, v193, (.int .i64 u190.1.2.2.1), (.int .i64 u190.1.2.2.2)])) tf_53 rfl rfl hS227 rfl rfl rfl ?_
                  refine wl_on rfl rfl h389 ?_
                  refine wl_load_blk (i := 0) (vs := [v211, v213, (.int .i64 u210.1.2.2.1), (.int .i64 u210.1.2.2.2)]) (v := (.agg #[v211, v213, (.int .i64 u210.1.2.2.1), (.int .i64 u210.1.2.2.2)])) tf_53 rfl rfl hS227 rfl rfl rfl ?_
                  refine wl_on rfl rfl h389 ?_
                  obtain ⟨u390, hu390, hF⟩ := bindE hF
                  refine wl_call rfl Try.call58 (C_laws_pSameShow w225 u190.1 v191 (hS227.own_ro (i := 4) rfl) v193 (hS227.own_ro (i := 5) rfl) u210.1 v211 (hS227.own_ro (i := 1) rfl) v213 (hS227.own_ro (i := 2) rfl) _ hu390) rfl ?_
                  rintro _ w391 ⟨rfl, hb392⟩
                  refine ⟨_, rfl, ?_⟩
                  have hB393 := hB226.trans (hb392.mono hB226.size)
                  have hS394 := hS227.below hb392
                  refine wl_on rfl rfl h389 ?_
                  refine wl_not rfl rfl ?_
                  refine wl_pick_f rfl rfl h389 rfl ?_
                  refine WL.nil ?_
                  exact fun a ha => hJ236 ((!u390)) _ hF hB393 (hS394.sel [7, 8, 6, 4, 5, 3, 1, 2, 0] rfl) a (ha.sub ⟨rfl, rfl, rfl, rfl, rfl, rfl, rfl, trivial⟩)
              refine W.seq fun K396 hK396 => ?_
              refine W.region ?_
              refine wl_move rfl rfl ?_
              refine WL.nil ?_
              refine fun a ha => hK396 _ _ ?_ a ha
              refine W.cond rfl (fun h397 => ?_) (fun h397 => ?_)
              · replace hF := ifP h397 hF
                refine W.seq fun K398 hK398 => ?_
                refine W.region ?_
                refine wl_load_blk (i := 2) (vs := [v92, v94, (.int .i64 u91.1.2.2.1), (.int .i64 u91.1.2.2.2)]) (v := (.agg #[v92, v94, (.int .i64 u91.1.2.2.1), (.int .i64 u91.1.2.2.2)])) tf_53 rfl rfl hS154 rfl rfl rfl ?_
                obtain ⟨u399, hu399, hF⟩ := bindE hF
                refine wl_call rfl Try.call63 (C_impl_TotalCounts w152 u91.1 v92 (hS154.own_ro (i := 0) rfl) v94 (hS154.own_ro (i := 1) rfl) _ hu399) rfl ?_
                rintro _ w400 ⟨rfl, hb401⟩
                refine ⟨_, rfl, ?_⟩
                have hB402 := hB153.trans (hb401.mono hB153.size)
                have hS403 := hS154.below hb401
                refine wl_move rfl rfl ?_
                refine wl_extract rfl rfl rfl ?_
                refine wl_extract rfl rfl rfl ?_
                refine wl_assign rfl rfl ?_
                refine wl_assign rfl rfl ?_
                refine WL.nil ?_
                refine fun a ha => hK398 _ _ ?_ a ha
                refine W.seq fun K405 hK405 => ?_
                refine W.region ?_
                refine wl_load_blk (i := 5) (vs := [v112, v114, (.int .i64 u111.1.2.2.1), (.int .i64 u111.1.2.2.2)]) (v := (.agg #[v112, v114, (.int .i64 u111.1.2.2.1), (.int .i64 u111.1.2.2.2)])) tf_53 rfl rfl hS403 rfl rfl rfl ?_
                obtain ⟨u406, hu406, hF⟩ := bindE hF
                refine wl_call rfl Try.call63 (C_impl_TotalCounts w400 u111.1 v112 (hS403.own_ro (i := 3) rfl) v114 (hS403.own_ro (i := 4) rfl) _ hu406) rfl ?_
                rintro _ w407 ⟨rfl, hb408⟩
                refine ⟨_, rfl, ?_⟩
                have hB409 := hB402.trans (hb408.mono hB402.size)
                have hS410 := hS403.below hb408
                refine wl_move rfl rfl ?_
                refine wl_extract rfl rfl rfl ?_
                refine wl_extract rfl rfl rfl ?_
                refine wl_assign rfl rfl ?_
                refine wl_assign rfl rfl ?_
                refine WL.nil ?_
                refine fun a ha => hK405 _ _ ?_ a ha
                refine W.seq fun K412 hK412 => ?_
                obtain ⟨k417, hk417, hF⟩ := jE1 hF
                have hJ418 : ∀ (y416 : Bool) (w413 : World) (_ : k417 y416 = some r) (_ : Below w0.heap.size w0 w413) (_ : Sep w0.heap.size w413 []), ∀ a, St 312 [(1, v1_0), (178, (.bool y416))] a → K412 a w413 := by
                  intro y416 w413 hF hB414 hS415
                  subst hk417
                  refine fun a ha => hK412 _ _ ?_ a ha
                  refine W.cond rfl (fun h419 => ?_) (fun h419 => ?_)
                  · replace hF := ifP h419 hF
                    refine W.seq fun K420 hK420 => ?_
                    refine W.region ?_
                    refine wl_assign rfl rfl ?_
                    refine WL.nil ?_
                    refine fun a ha => hK420 _ _ ?_ a ha
                    refine W.ret ?_
                    have hr := Option.some.inj hF
                    subst hr
                    exact rets (vs := [(.bool false)]) hQ rfl ⟨rv_tmp rfl, trivial⟩ ⟨rfl, hB414⟩
                  · replace hF := ifN h419 hF
                    refine W.skip ?_
                    exact fun a ha => hJ168 _ hF hB414 (hS415.sel [] rfl) a (ha.sub ⟨rfl, trivial⟩)
                refine W.region ?_
                refine wl_move rfl rfl ?_
                refine wl_not rfl rfl ?_
                refine wl_move rfl rfl ?_
                rcases bE (!u399.2) with h421 | h421
                · replace hF := ifP h421 hF
                  refine wl_off rfl rfl rfl h421 ?_
                  refine wl_off rfl rfl rfl h421 ?_
                  refine wl_pick_t rfl rfl h421 rfl ?_
                  refine wl_move rfl rfl ?_
                  refine wl_off rfl rfl rfl rfl ?_
                  refine wl_off rfl rfl rfl rfl ?_
                  refine wl_off rfl rfl rfl rfl ?_
                  refine wl_off rfl rfl rfl rfl ?_
                  refine wl_off rfl rfl rfl rfl ?_
                  refine wl_off rfl rfl rfl rfl ?_
                  refine wl_off rfl rfl rfl rfl ?_
                  refine wl_off rfl rfl rfl rfl ?_
                  refine wl_pick_t rfl rfl rfl rfl ?_
                  refine wl_move rfl rfl ?_
                  refine wl_off rfl rfl rfl rfl ?_
                  refine wl_off rfl rfl rfl rfl ?_
                  refine wl_off rfl rfl rfl rfl ?_
                  refine wl_pick_t rfl rfl rfl rfl ?_
                  refine wl_move rfl rfl ?_
                  refine wl_off rfl rfl rfl rfl ?_
                  refine wl_off rfl rfl rfl rfl ?_
                  refine wl_off rfl rfl rfl rfl ?_
                  refine wl_offu rfl rfl rfl ?_
                  refine wl_offu rfl rfl rfl ?_
                  refine wl_offu rfl rfl rfl ?_
                  refine wl_offu rfl rfl rfl ?_
                  refine wl_offu rfl rfl rfl ?_
                  refine wl_offu rfl rfl rfl ?_
                  refine wl_off rfl rfl rfl rfl ?_
                  refine wl_off rfl rfl rfl rfl ?_
                  refine wl_offu rfl rfl rfl ?_
                  refine wl_offu rfl rfl rfl ?_
                  refine wl_offu rfl rfl rfl ?_
                  refine wl_off rfl rfl rfl rfl ?_
                  refine wl_pick_t rfl rfl rfl rfl ?_
                  refine wl_move rfl rfl ?_
                  refine wl_off rfl rfl rfl rfl ?_
                  refine wl_off rfl rfl rfl rfl ?_
                  refine wl_off rfl rfl rfl rfl ?_
                  refine wl_pick_t rfl rfl rfl rfl ?_
                  refine WL.nil ?_
                  exact fun a ha => hJ418 (true) _ hF hB409 (hS410.sel [] rfl) a (ha.sub ⟨rfl, rfl, trivial⟩)
                · replace hF := ifN h421 hF
                  refine wl_on rfl rfl h421 ?_
                  refine wl_move rfl rfl ?_
                  refine wl_on rfl rfl h421 ?_
                  refine wl_not rfl rfl ?_
                  refine wl_pick_f rfl rfl h421 rfl ?_
                  refine wl_move rfl rfl ?_
                  rcases bE (!u406.2) with h422 | h422
                  · replace hF := ifP h422 hF
                    refine wl_off rfl rfl rfl h422 ?_
                    refine wl_off rfl rfl rfl h422 ?_
                    refine wl_off rfl rfl rfl h422 ?_
                    refine wl_off rfl rfl rfl h422 ?_
                    refine wl_off rfl rfl rfl h422 ?_
                    refine wl_off rfl rfl rfl h422 ?_
                    refine wl_off rfl rfl rfl h422 ?_
                    refine wl_off rfl rfl rfl h422 ?_
                    refine wl_pick_t rfl rfl h422 rfl ?_
                    refine wl_move rfl rfl ?_
                    refine wl_off rfl rfl rfl rfl ?_
                    refine wl_off rfl rfl rfl rfl ?_
                    refine wl_off rfl rfl rfl rfl ?_
                    refine wl_pick_t rfl rfl rfl rfl ?_
                    refine wl_move rfl rfl ?_
                    refine wl_off rfl rfl rfl rfl ?_
                    refine wl_off rfl rfl rfl rfl ?_
                    refine wl_off rfl rfl rfl rfl ?_
                    refine wl_offu rfl rfl rfl ?_
                    refine wl_offu rfl rfl rfl ?_
                    refine wl_offu rfl rfl rfl ?_
                    refine wl_offu rfl rfl rfl ?_
                    refine wl_offu rfl rfl rfl ?_
                    refine wl_offu rfl rfl rfl ?_
                    refine wl_off rfl rfl rfl rfl ?_
                    refine wl_off rfl rfl rfl rfl ?_
                    refine wl_offu rfl rfl rfl ?_
                    refine wl_offu rfl rfl rfl ?_
                    refine wl_offu rfl rfl rfl ?_
                    refine wl_off rfl rfl rfl rfl ?_
                    refine wl_pick_t rfl rfl rfl rfl ?_
                    refine wl_move rfl rfl ?_
                    refine wl_off rfl rfl rfl rfl ?_
                    refine wl_off rfl rfl rfl rfl ?_
                    refine wl_off rfl rfl rfl rfl ?_
                    refine wl_pick_t rfl rfl rfl rfl ?_
                    refine WL.nil ?_
                    exact fun a ha => hJ418 (true) _ hF hB409 (hS410.sel [] rfl) a (ha.sub ⟨rfl, rfl, trivial⟩)
                  · replace hF := ifN h422 hF
                    refine wl_on rfl rfl h422 ?_
                    refine wl_field (o := 0) (off' := 0) ff_53_0 rfl rfl rfl ?_
                    refine wl_on rfl rfl h422 ?_
                    refine wl_load_blk (i := 8) (vs := [v132]) (v := v132) tf_51 rfl rfl hS410 rfl rfl rfl ?_
                    refine wl_on rfl rfl h422 ?_
                    refine wl_lenr (e := ty_63) (l := u131.1.1) Try.underlying51 rfl rfl (hS410.own_ro (i := 6) rfl) ?_
                    refine wl_on rfl rfl h422 ?_
                    refine wl_field (o := 0) (off' := 0) ff_53_0 rfl rfl rfl ?_
                    refine wl_on rfl rfl h422 ?_
                    refine wl_load_blk (i := 2) (vs := [v92]) (v := v92) tf_51 rfl rfl hS410 rfl rfl rfl ?_
                    refine wl_on rfl rfl h422 ?_
                    refine wl_lenr (e := ty_63) (l := u91.1.1) Try.underlying51 rfl rfl (hS410.own_ro (i := 0) rfl) ?_
                    refine wl_on rfl rfl h422 ?_
                    refine wl_sub rfl rfl rfl ?_
                    refine wl_on rfl rfl h422 ?_
                    refine wl_neq rfl rfl rfl ?_
                    refine wl_pick_f rfl rfl h422 rfl ?_
                    refine wl_move rfl rfl ?_
                    rcases bE ((List.length u131.1.1 : Int) != (w64 ((List.length u91.1.1 : Int) - 1))) with h423 | h423
                    · replace hF := ifP h423 hF
                      refine wl_off rfl rfl rfl h423 ?_
                      refine wl_off rfl rfl rfl h423 ?_
                      refine wl_off rfl rfl rfl h423 ?_
                      refine wl_pick_t rfl rfl h423 rfl ?_
                      refine wl_move rfl rfl ?_
                      refine wl_off rfl rfl rfl rfl ?_
                      refine wl_off rfl rfl rfl rfl ?_
                      refine wl_off rfl rfl rfl rfl ?_
                      refine wl_offu rfl rfl rfl ?_
                      refine wl_offu rfl rfl rfl ?_
                      refine wl_offu rfl rfl rfl ?_
                      refine wl_offu rfl rfl rfl ?_
                      refine wl_offu rfl rfl rfl ?_
                      refine wl_offu rfl rfl rfl ?_
                      refine wl_off rfl rfl rfl rfl ?_
                      refine wl_off rfl rfl rfl rfl ?_
                      refine wl_offu rfl rfl rfl ?_
                      refine wl_offu rfl rfl rfl ?_
                      refine wl_offu rfl rfl rfl ?_
                      refine wl_off rfl rfl rfl rfl ?_
                      refine wl_pick_t rfl rfl rfl rfl ?_
                      refine wl_move rfl rfl ?_
                      refine wl_off rfl rfl rfl rfl ?_
                      refine wl_off rfl rfl rfl rfl ?_
                      refine wl_off rfl rfl rfl rfl ?_
                      refine wl_pick_t rfl rfl rfl rfl ?_
                      refine WL.nil ?_
                      exact fun a ha => hJ418 (true) _ hF hB409 (hS410.sel [] rfl) a (ha.sub ⟨rfl, rfl, trivial⟩)
                    · replace hF := ifN h423 hF
                      refine wl_on rfl rfl h423 ?_
                      refine wl_move rfl rfl ?_
                      refine wl_on rfl rfl h423 ?_
                      refine wl_move rfl rfl ?_
                      refine wl_on rfl rfl h423 ?_
                      refine wl_gtr rfl rfl rfl ?_
                      refine wl_pick_f rfl rfl h423 rfl ?_
                      refine wl_move rfl rfl ?_
                      rcases bE (decide (u399.1 < u406.1)) with h424 | h424
                      · replace hF := ifP h424 hF
                        refine wl_off rfl rfl rfl h424 ?_
                        refine wl_off rfl rfl rfl h424 ?_
                        refine wl_off rfl rfl rfl h424 ?_
                        refine wl_offu rfl rfl rfl ?_
                        refine wl_offu rfl rfl rfl ?_
                        refine wl_offu rfl rfl rfl ?_
                        refine wl_offu rfl rfl rfl ?_
                        refine wl_offu rfl rfl rfl ?_
                        refine wl_offu rfl rfl rfl ?_
                        refine wl_off rfl rfl rfl h424 ?_
                        refine wl_off rfl rfl rfl h424 ?_
                        refine wl_offu rfl rfl rfl ?_
                        refine wl_offu rfl rfl rfl ?_
                        refine wl_offu rfl rfl rfl ?_
                        refine wl_off rfl rfl rfl h424 ?_
                        refine wl_pick_t rfl rfl h424 rfl ?_
                        refine wl_move rfl rfl ?_
                        refine wl_off rfl rfl rfl rfl ?_
                        refine wl_off rfl rfl rfl rfl ?_
                        refine wl_off rfl rfl rfl rfl ?_
                        refine wl_pick_t rfl rfl rfl rfl ?_
                        refine WL.nil ?_
                        exact fun a ha => hJ418 (true) _ hF hB409 (hS410.sel [] rfl) a (ha.sub ⟨rfl, rfl, trivial⟩)
                      · replace hF := ifN h424 hF
                        refine wl_on rfl rfl h424 ?_
                        refine wl_move rfl rfl ?_
                        refine wl_on rfl rfl h424 ?_
                        refine wl_gtr rfl rfl rfl ?_
                        refine wl_on rfl rfl h424 ?_
                        refine wl_move rfl rfl ?_
                        rcases bE (decide (0 < u91.2)) with h425 | h425
                        · replace hF := ifP h425 hF
                          refine wl_on rfl rfl h425 ?_
                          refine wl_move rfl rfl ?_
                          refine wl_on rfl rfl h425 ?_
                          refine wl_field (o := 0) (off' := 0) ff_53_0 rfl rfl rfl ?_
                          refine wl_on rfl rfl h425 ?_
                          refine wl_load_blk (i := 2) (vs := [v92]) (v := v92) tf_51 rfl rfl hS410 rfl rfl rfl ?_
                          refine wl_on rfl rfl h425 ?_
                          refine wl_lenr (e := ty_63) (l := u91.1.1) Try.underlying51 rfl rfl (hS410.own_ro (i := 0) rfl) ?_
                          refine wl_on rfl rfl h425 ?_
                          refine wl_sub rfl rfl rfl ?_
                          refine wl_on rfl rfl h425 ?_
                          refine wl_lss rfl rfl rfl ?_
                          refine wl_on rfl rfl h424 ?_
                          refine wl_pick_t rfl rfl h425 rfl ?_
                          refine wl_on rfl rfl h424 ?_
                          refine wl_move rfl rfl ?_
                          rcases bE (decide (u91.2 < (w64 ((List.length u91.1.1 : Int) - 1)))) with h426 | h426
                          · replace hF := ifP h426 hF
                            refine wl_on rfl rfl h426 ?_
                            refine wl_move rfl rfl ?_
                            refine wl_on rfl rfl h426 ?_
                            refine wl_move rfl rfl ?_
                            refine wl_on rfl rfl h426 ?_
                            refine wl_neq rfl rfl rfl ?_
                            refine wl_on rfl rfl h424 ?_
                            refine wl_pick_t rfl rfl h426 rfl ?_
                            refine wl_pick_f rfl rfl h424 rfl ?_
                            refine wl_move rfl rfl ?_
                            rcases bE (u406.1 != u399.1) with h427 | h427
                            · replace hF := ifP h427 hF
                              refine wl_off rfl rfl rfl h427 ?_
                              refine wl_off rfl rfl rfl h427 ?_
                              refine wl_off rfl rfl rfl h427 ?_
                              refine wl_pick_t rfl rfl h427 rfl ?_
                              refine WL.nil ?_
                              exact fun a ha => hJ418 (true) _ hF hB409 (hS410.sel [] rfl) a (ha.sub ⟨rfl, rfl, trivial⟩)
                            · replace hF := ifN h427 hF
                              refine wl_on rfl rfl h427 ?_
                              refine wl_load_blk (i := 5) (vs := [v112, v114, (.int .i64 u111.1.2.2.1), (.int .i64 u111.1.2.2.2)]) (v := (.agg #[v112, v114, (.int .i64 u111.1.2.2.1), (.int .i64 u111.1.2.2.2)])) tf_53 rfl rfl hS410 rfl rfl rfl ?_
                              refine wl_on rfl rfl h427 ?_
                              obtain ⟨u428, hu428, hF⟩ := bindE hF
                              refine wl_call rfl Try.call60 (C_impl_IsShow w407 u111.1 v112 (hS410.own_ro (i := 3) rfl) v114 (hS410.own_ro (i := 4) rfl) _ hu428) rfl ?_
                              rintro _ w429 ⟨rfl, hb430⟩
                              refine ⟨_, rfl, ?_⟩
                              have hB431 := hB409.trans (hb430.mono hB409.size)
                              have hS432 := hS410.below hb430
                              refine wl_on rfl rfl h427 ?_
                              refine wl_not rfl rfl ?_
                              refine wl_pick_f rfl rfl h427 rfl ?_
                              refine WL.nil ?_
                              exact fun a ha => hJ418 ((!u428)) _ hF hB431 (hS432.sel [] rfl) a (ha.sub ⟨rfl, rfl, trivial⟩)
                          · replace hF := ifN h426 hF
                            refine wl_off rfl rfl rfl h426 ?_
                            refine wl_off rfl rfl rfl h426 ?_
                            refine wl_off rfl rfl rfl h426 ?_
                            refine wl_on rfl rfl h424 ?_
                            refine wl_pick_f rfl rfl h426 rfl ?_
                            refine wl_pick_f rfl rfl h424 rfl ?_
                            refine wl_move rfl rfl ?_
                            refine wl_on rfl rfl rfl ?_
                            refine wl_load_blk (i := 5) (vs := [v112, v114, (.int .i64 u111.1.2.2.1), (.int .i64 u111.1.2.2.2)]) (v := (.agg #[v112, v114, (.int .i64 u111.1.2.2.1), (.int .i64 u111.1.2.2.2)])) tf_53 rfl rfl hS410 rfl rfl rfl ?_
                            refine wl_on rfl rfl rfl ?_
                            obtain ⟨u434, hu434, hF⟩ := bindE hF
                            refine wl_call rfl Try.call60 (C_impl_IsShow w407 u111.1 v112 (hS410.own_ro (i := 3) rfl) v114 (hS410.own_ro (i := 4) rfl) _ hu434) rfl ?_
                            rintro _ w435 ⟨rfl, hb436⟩
                            refine ⟨_, rfl, ?_⟩
                            have hB437 := hB409.trans (hb436.mono hB409.size)
                            have hS438 := hS410.below hb436
                            refine wl_on rfl rfl rfl ?_
                            refine wl_not rfl rfl ?_
                            refine wl_pick_f rfl rfl rfl rfl ?_
                            refine WL.nil ?_
                            exact fun a ha => hJ418 ((!u434)) _ hF hB437 (hS438.sel [] rfl) a (ha.sub ⟨rfl, rfl, trivial⟩)
                        · replace hF := ifN h425 hF
                          refine wl_off rfl rfl rfl h425 ?_
                          refine wl_off rfl rfl rfl h425 ?_
                          refine wl_off rfl rfl rfl h425 ?_
                          refine wl_off rfl rfl rfl h425 ?_
                          refine wl_off rfl rfl rfl h425 ?_
                          refine wl_off rfl rfl rfl h425 ?_
                          refine wl_on rfl rfl h424 ?_
                          refine wl_pick_f rfl rfl h425 rfl ?_
                          refine wl_on rfl rfl h424 ?_
                          refine wl_move rfl rfl ?_
                          refine wl_off rfl rfl rfl rfl ?_
                          refine wl_off rfl rfl rfl rfl ?_
                          refine wl_off rfl rfl rfl rfl ?_
                          refine wl_on rfl rfl h424 ?_
                          refine wl_pick_f rfl rfl rfl rfl ?_
                          refine wl_pick_f rfl rfl h424 rfl ?_
                          refine wl_move rfl rfl ?_
                          refine wl_on rfl rfl rfl ?_
                          refine wl_load_blk (i := 5) (vs := [v112, v114, (.int .i64 u111.1.2.2.1), (.int .i64 u111.1.2.2.2)]) (v := (.agg #[v112, v114, (.int .i64 u111.1.2.2.1), (.int .i64 u111.1.2.2.2)])) tf_53 rfl rfl hS410 rfl rfl rfl ?_
                          refine wl_on rfl rfl rfl ?_
                          obtain ⟨u440, hu440, hF⟩ := bindE hF
                          refine wl_call rfl Try.call60 (C_impl_IsShow w407 u111.1 v112 (hS410.own_ro (i := 3) rfl) v114 (hS410.own_ro (i := 4) rfl) _ hu440) rfl ?_
                          rintro _ w441 ⟨rfl, hb442⟩
                          refine ⟨_, rfl, ?_⟩
                          have hB443 := hB409.trans (hb442.mono hB409.size)
                          have hS444 := hS410.below hb442
                          refine wl_on rfl rfl rfl ?_
                          refine wl_not rfl rfl ?_
                          refine wl_pick_f rfl rfl rfl rfl ?_
                          refine WL.nil ?_
                          exact fun a ha => hJ418 ((!u440)) _ hF hB443 (hS444.sel [] rfl) a (ha.sub ⟨rfl, rfl, trivial⟩)
              · replace hF := ifN h397 hF
                refine W.skip ?_
                exact fun a ha => hJ168 _ hF hB153 (hS154.sel [] rfl) a (ha.sub ⟨rfl, trivial⟩)
          refine W.region ?_
          refine wl_move rfl rfl ?_
          refine wl_move rfl rfl ?_
          refine wl_neqb Try.underlying4 rfl rfl rfl ?_
          refine wl_move rfl rfl ?_
          rcases bE (u111.2 != u131.2) with h446 | h446
          · replace hF := ifP h446 hF
            refine wl_off rfl rfl rfl h446 ?_
            refine wl_off rfl rfl rfl h446 ?_
            refine wl_off rfl rfl rfl h446 ?_
            refine wl_off rfl rfl rfl h446 ?_
            refine wl_pick_t rfl rfl h446 rfl ?_
            refine WL.nil ?_
            exact fun a ha => hJ160 (u131.1.2.1) (true) (v134) (F135) _ hF hB147 (hS148.sel [7, 8, 6, 4, 5, 3, 1, 2, 0] rfl) a (ha.sub ⟨rfl, rfl, rfl, rfl, rfl, rfl, rfl, trivial⟩)
          · replace hF := ifN h446 hF
            refine wl_on rfl rfl h446 ?_
            refine wl_load_blk (i := 3) (vs := [v112, v114, (.int .i64 u111.1.2.2.1), (.int .i64 u111.1.2.2.2)]) (v := (.agg #[v112, v114, (.int .i64 u111.1.2.2.1), (.int .i64 u111.1.2.2.2)])) tf_53 rfl rfl hS148 rfl rfl rfl ?_
            refine wl_on rfl rfl h446 ?_
            refine wl_load_blk (i := 0) (vs := [v132, v134, (.int .i64 u131.1.2.2.1), (.int .i64 u131.1.2.2.2)]) (v := (.agg #[v132, v134, (.int .i64 u131.1.2.2.1), (.int .i64 u131.1.2.2.2)])) tf_53 rfl rfl hS148 rfl rfl rfl ?_
            refine wl_on rfl rfl h446 ?_
            obtain ⟨u447, hu447, hF⟩ := bindE hF
            refine wl_call rfl Try.call58 (C_laws_pSameShow w146 u111.1 v112 (hS148.own_ro (i := 4) rfl) v114 (hS148.own_ro (i := 5) rfl) u131.1 v132 (hS148.own_ro (i := 1) rfl) v134 (hS148.fr_ro (i := 2) rfl) _ hu447) rfl ?_
            rintro _ w448 ⟨rfl, hb449⟩
            refine ⟨_, rfl, ?_⟩
            have hB450 := hB147.trans (hb449.mono hB147.size)
            have hS451 := hS148.below hb449
            refine wl_on rfl rfl h446 ?_
            refine wl_not rfl rfl ?_
            refine wl_pick_f rfl rfl h446 rfl ?_
            refine WL.nil ?_
            exact fun a ha => hJ160 (u131.1.2.1) ((!u447)) (v134) (F135) _ hF hB450 (hS451.sel [7, 8, 6, 4, 5, 3, 1, 2, 0] rfl) a (ha.sub ⟨rfl, rfl, rfl, rfl, rfl, rfl, rfl, trivial⟩)
        refine W.seq fun K453 hK453 => ?_
        refine W.region ?_
        refine wl_move rfl rfl ?_
        refine WL.nil ?_
        refine fun a ha => hK453 _ _ ?_ a ha
        refine W.cond rfl (fun h454 => ?_) (fun h454 => ?_)
        · replace hF := ifP h454 hF
          refine W.seq fun K455 hK455 => ?_
          refine W.region ?_
          refine wl_load_blk (i := 5) (vs := [v36, v38, (.int .i64 u35.1.2.2.1), (.int .i64 u35.1.2.2.2)]) (v := (.agg #[v36, v38, (.int .i64 u35.1.2.2.1), (.int .i64 u35.1.2.2.2)])) tf_53 rfl rfl hS78 rfl rfl rfl ?_
          refine wl_field (o := 0) (off' := 0) ff_53_0 rfl rfl rfl ?_
          refine wl_load_blk (i := 2) (vs := [v14]) (v := v14) tf_51 rfl rfl hS78 rfl rfl rfl ?_
          refine wl_lenr (e := ty_63) (l := u13.1.1) Try.underlying51 rfl rfl (hS78.own_ro (i := 0) rfl) ?_
          obtain ⟨u456, hu456, hF⟩ := bindE hF
          refine wl_call rfl Try.call59 (C_impl_DropShowChart w76 u35.1 v36 (hS78.own_ro (i := 3) rfl) v38 (hS78.own_ro (i := 4) rfl) (List.length u13.1.1 : Int) _ hu456) rfl ?_
          rintro _ w461 ⟨v457, F458, v459, F460, rfl, hb462, hM465⟩
          refine ⟨_, rfl, ?_⟩
          have hB463 := hB77.trans (hb462.mono hB77.size)
          have hS464 := hS78.join hb462 hM465 hB77.size
          refine wl_move rfl rfl ?_
          refine wl_extract rfl rfl rfl ?_
          refine wl_extract rfl rfl rfl ?_
          refine wl_alloc (cs := [(.slice none 0 0), (.slice none 0 0), (.int .i64 0), (.int .i64 0)]) tf_53 rfl rfl hB463 hS464 ?_
          intro b466 w467 hb468 hB469 hS470
          refine wl_store_blk (i := 0) (vs := [v457, v459, (.int .i64 u456.1.2.2.1), (.int .i64 u456.1.2.2.2)]) (cs' := [v457, v459, (.int .i64 u456.1.2.2.1), (.int .i64 u456.1.2.2.2)]) tf_53 rfl rfl rfl rfl hB469 hS470 rfl rfl ⟨(hS470.own_ro (i := 1) rfl).one, (hS470.own_ro (i := 2) rfl).one, rfl, rfl, trivial⟩ rfl ?_
          intro w471 hk474 hB472 hS473
          refine wl_assign rfl rfl ?_
          refine WL.nil ?_
          refine fun a ha => hK455 _ _ ?_ a ha
          refine W.seq fun K475 hK475 => ?_
          obtain ⟨k480, hk480, hF⟩ := jE1 hF
          have hJ481 : ∀ (y479 : Bool) (w476 : World) (_ : k480 y479 = some r) (_ : Below w0.heap.size w0 w476) (_ : Sep w0.heap.size w476 []), ∀ a, St 312 [(1, v1_0), (98, (.bool y479))] a → K475 a w476 := by
            intro y479 w476 hF hB477 hS478
            subst hk480
            refine fun a ha => hK475 _ _ ?_ a ha
            refine W.cond rfl (fun h482 => ?_) (fun h482 => ?_)
            · replace hF := ifP h482 hF
              refine W.seq fun K483 hK483 => ?_
              refine W.region ?_
              refine wl_assign rfl rfl ?_
              refine WL.nil ?_
              refine fun a ha => hK483 _ _ ?_ a ha
              refine W.ret ?_
              have hr := Option.some.inj hF
              subst hr
              exact rets (vs := [(.bool false)]) hQ rfl ⟨rv_tmp rfl, trivial⟩ ⟨rfl, hB477⟩
            · replace hF := ifN h482 hF
              refine W.skip ?_
              exact fun a ha => hJ89 _ hF hB477 (hS478.sel [] rfl) a (ha.sub ⟨rfl, trivial⟩)
          refine W.region ?_
          refine wl_move rfl rfl ?_
          refine wl_not rfl rfl ?_
          refine wl_move rfl rfl ?_
          rcases bE (!u456.2) with h484 | h484
          · replace hF := ifP h484 hF
            refine wl_off rfl rfl rfl h484 ?_
            refine wl_off rfl rfl rfl h484 ?_
            refine wl_off rfl rfl rfl h484 ?_
            refine wl_off rfl rfl rfl h484 ?_
            refine wl_pick_t rfl rfl h484 rfl ?_
            refine wl_move rfl rfl ?_
            refine wl_off rfl rfl rfl rfl ?_
            refine wl_off rfl rfl rfl rfl ?_
            refine wl_off rfl rfl rfl rfl ?_
            refine wl_pick_t rfl rfl rfl rfl ?_
            refine WL.nil ?_
            exact fun a ha => hJ481 (true) _ hF hB472 (hS473.sel [] rfl) a (ha.sub ⟨rfl, rfl, trivial⟩)
          · replace hF := ifN h484 hF
            refine wl_on rfl rfl h484 ?_
            refine wl_load_blk (i := 0) (vs := [v457, v459, (.int .i64 u456.1.2.2.1), (.int .i64 u456.1.2.2.2)]) (v := (.agg #[v457, v459, (.int .i64 u456.1.2.2.1), (.int .i64 u456.1.2.2.2)])) tf_53 rfl rfl hS473 rfl rfl rfl ?_
            refine wl_on rfl rfl h484 ?_
            refine wl_load_blk (i := 5) (vs := [v14, v16, (.int .i64 u13.1.2.2.1), (.int .i64 u13.1.2.2.2)]) (v := (.agg #[v14, v16, (.int .i64 u13.1.2.2.1), (.int .i64 u13.1.2.2.2)])) tf_53 rfl rfl hS473 rfl rfl rfl ?_
            refine wl_on rfl rfl h484 ?_
            obtain ⟨u485, hu485, hF⟩ := bindE hF
            refine wl_call rfl Try.call58 (C_laws_pSameShow w471 u456.1 v457 (hS473.own_ro (i := 1) rfl) v459 (hS473.own_ro (i := 2) rfl) u13.1 v14 (hS473.own_ro (i := 3) rfl) v16 (hS473.own_ro (i := 4) rfl) _ hu485) rfl ?_
            rintro _ w486 ⟨rfl, hb487⟩
            refine ⟨_, rfl, ?_⟩
            have hB488 := hB472.trans (hb487.mono hB472.size)
            have hS489 := hS473.below hb487
            refine wl_on rfl rfl h484 ?_
            refine wl_not rfl rfl ?_
            refine wl_pick_f rfl rfl h484 rfl ?_
            refine wl_move rfl rfl ?_
            rcases bE (!u485) with h491 | h491
            · replace hF := ifP h491 hF
              refine wl_off rfl rfl rfl h491 ?_
              refine wl_off rfl rfl rfl h491 ?_
              refine wl_off rfl rfl rfl h491 ?_
              refine wl_pick_t rfl rfl h491 rfl ?_
              refine WL.nil ?_
              exact fun a ha => hJ481 (true) _ hF hB488 (hS489.sel [] rfl) a (ha.sub ⟨rfl, rfl, trivial⟩)
            · replace hF := ifN h491 hF
              refine wl_on rfl rfl h491 ?_
              refine wl_load_blk (i := 8) (vs := [v36, v38, (.int .i64 u35.1.2.2.1), (.int .i64 u35.1.2.2.2)]) (v := (.agg #[v36, v38, (.int .i64 u35.1.2.2.1), (.int .i64 u35.1.2.2.2)])) tf_53 rfl rfl hS489 rfl rfl rfl ?_
              refine wl_on rfl rfl h491 ?_
              obtain ⟨u492, hu492, hF⟩ := bindE hF
              refine wl_call rfl Try.call60 (C_impl_IsShow w486 u35.1 v36 (hS489.own_ro (i := 6) rfl) v38 (hS489.own_ro (i := 7) rfl) _ hu492) rfl ?_
              rintro _ w493 ⟨rfl, hb494⟩
              refine ⟨_, rfl, ?_⟩
              have hB495 := hB488.trans (hb494.mono hB488.size)
              have hS496 := hS489.below hb494
              refine wl_on rfl rfl h491 ?_
              refine wl_not rfl rfl ?_
              refine wl_pick_f rfl rfl h491 rfl ?_
              refine WL.nil ?_
              exact fun a ha => hJ481 ((!u492)) _ hF hB495 (hS496.sel [] rfl) a (ha.sub ⟨rfl, rfl, trivial⟩)
        · replace hF := ifN h454 hF
          refine W.skip ?_
          exact fun a ha => hJ89 _ hF hB77 (hS78.sel [] rfl) a (ha.sub ⟨rfl, trivial⟩)
    refine W.region ?_
    refine wl_move rfl rfl ?_
    refine wl_move rfl rfl ?_
    refine wl_neqb Try.underlying4 rfl rfl rfl ?_
    refine wl_move rfl rfl ?_
    rcases bE (u35.2 != u55.2) with h498 | h498
    · replace hF := ifP h498 hF
      refine wl_off rfl rfl rfl h498 ?_
      refine wl_off rfl rfl rfl h498 ?_
      refine wl_off rfl rfl rfl h498 ?_
      refine wl_off rfl rfl rfl h498 ?_
      refine wl_pick_t rfl rfl h498 rfl ?_
      refine WL.nil ?_
      exact fun a ha => hJ81 (true) _ hF hB71 (hS72.sel [7, 8, 6, 4, 5, 3] rfl) a (ha.sub ⟨rfl, rfl, rfl, rfl, rfl, trivial⟩)
    · replace hF := ifN h498 hF
      refine wl_on rfl rfl h498 ?_
      refine wl_load_blk (i := 3) (vs := [v36, v38, (.int .i64 u35.1.2.2.1), (.int .i64 u35.1.2.2.2)]) (v := (.agg #[v36, v38, (.int .i64 u35.1.2.2.1), (.int .i64 u35.1.2.2.2)])) tf_53 rfl rfl hS72 rfl rfl rfl ?_
      refine wl_on rfl rfl h498 ?_
      refine wl_load_blk (i := 0) (vs := [v56, v58, (.int .i64 u55.1.2.2.1), (.int .i64 u55.1.2.2.2)]) (v := (.agg #[v56, v58, (.int .i64 u55.1.2.2.1), (.int .i64 u55.1.2.2.2)])) tf_53 rfl rfl hS72 rfl rfl rfl ?_
      refine wl_on rfl rfl h498 ?_
      obtain ⟨u499, hu499, hF⟩ := bindE hF
      refine wl_call rfl Try.call58 (C_laws_pSameShow w70 u35.1 v36 (hS72.own_ro (i := 4) rfl) v38 (hS72.own_ro (i := 5) rfl) u55.1 v56 (hS72.own_ro (i := 1) rfl) v58 (hS72.own_ro (i := 2) rfl) _ hu499) rfl ?_
      rintro _ w500 ⟨rfl, hb501⟩
      refine ⟨_, rfl, ?_⟩
      have hB502 := hB71.trans (hb501.mono hB71.size)
      have hS503 := hS72.below hb501
      refine wl_on rfl rfl h498 ?_
      refine wl_not rfl rfl ?_
      refine wl_pick_f rfl rfl h498 rfl ?_
      refine WL.nil ?_
      exact fun a ha => hJ81 ((!u499)) _ hF hB502 (hS503.sel [7, 8, 6, 4, 5, 3] rfl) a (ha.sub ⟨rfl, rfl, rfl, rfl, rfl, trivial⟩)
end Go.Proofs.Ytmkignciedkidaa
