/-
  THE WALKS of functions of this seat, by program (gen.py).
-/
import Derived.Test.YtmbhdelegdhieaaH
import Derived.Test.YtmbhdelegdhieaaWFnExactIsShow
set_option linter.unusedSimpArgs false
set_option linter.unusedVariables false
set_option maxRecDepth 100000
namespace Go.Proofs.Ytmbhdelegdhieaa
open Go Go.RowKit
theorem C_laws_szMarch (w0 : World) (x0 : (((List (List (Int × Int))) × (List Int) × Int × Int) × Int × (List Int) × (List Int))) (v0_0 : Value) (h0_0 : rdS ty_119 (· < w0.heap.size) w0 v0_0 x0.1.1) (v0_1 : Value) (h0_1 : rdS ty_3 (· < w0.heap.size) w0 v0_1 x0.1.2.1) (v0_2 : Value) (h0_2 : rdS ty_3 (· < w0.heap.size) w0 v0_2 x0.2.2.1) (v0_3 : Value) (h0_3 : rdS ty_3 (· < w0.heap.size) w0 v0_3 x0.2.2.2) (x1 : Int) (r : Int) (hF : F_laws_szMarch x0 x1 = some r) :
    Calls Try.prog 45 [(.agg #[v0_0, v0_1, (.int .i64 x0.1.2.2.1), (.int .i64 x0.1.2.2.2), (.int .i64 x0.2.1), v0_2, v0_3]), (.int .i64 x1)].toArray w0 fun e w' => e = .returned (.int .i64 r) ∧ Below w0.heap.size w0 w' := by
  refine calls_mk' Try.func45 rfl Try.ntmps45 rfl rfl fun Q hQ hP => ?_
  have hB : Below w0.heap.size w0 w0 := Below.refl _ _
  have hS : Sep w0.heap.size w0 [] := Sep.nil _ _
  unfold F_laws_szMarch at hF
  refine W.seq fun K1 hK1 => ?_
  refine W.region ?_
  refine wl_box (cs := [v0_0, v0_1, (.int .i64 x0.1.2.2.1), (.int .i64 x0.1.2.2.2), (.int .i64 x0.2.1), v0_2, v0_3]) rfl rfl rfl hB hS ?_
  intro b2 w3 hb4 hB5 hS6
  refine wl_assign rfl rfl ?_
  refine WL.nil ?_
  refine fun a ha => hK1 _ _ ?_ a ha
  refine W.seq fun K7 hK7 => ?_
  refine W.region ?_
  refine wl_field (o := 0) (off' := 0) ff_65_0 rfl rfl rfl ?_
  refine wl_load_blk (i := 0) (vs := [v0_0, v0_1, (.int .i64 x0.1.2.2.1), (.int .i64 x0.1.2.2.2)]) (v := (.agg #[v0_0, v0_1, (.int .i64 x0.1.2.2.1), (.int .i64 x0.1.2.2.2)])) tf_25 rfl rfl hS6 rfl rfl rfl ?_
  refine wl_move rfl rfl ?_
  obtain ⟨u8, hu8, hF⟩ := bindE hF
  refine wl_call rfl Try.call15 (C_laws_szShow w3 x0.1 v0_0 (h0_0.ro hB5) v0_1 (h0_1.ro hB5) x1 _ hu8) rfl ?_
  rintro _ w9 ⟨rfl, hb10⟩
  refine ⟨_, rfl, ?_⟩
  have hB11 := hB5.trans (hb10.mono hB5.size)
  have hS12 := hS6.below hb10
  refine wl_assign rfl rfl ?_
  refine WL.nil ?_
  refine fun a ha => hK7 _ _ ?_ a ha
  refine W.seq fun K14 hK14 => ?_
  refine W.seq fun K15 hK15 => ?_
  refine W.region ?_
  refine wl_move rfl rfl ?_
  refine wl_lss rfl rfl rfl ?_
  refine WL.nil ?_
  refine fun a ha => hK15 _ _ ?_ a ha
  refine W.cond rfl (fun h16 => ?_) (fun h16 => ?_)
  · replace hF := ifP h16 hF
    refine W.seq fun K17 hK17 => ?_
    refine W.region ?_
    refine wl_assign rfl rfl ?_
    refine WL.nil ?_
    refine fun a ha => hK17 _ _ ?_ a ha
    refine W.ret ?_
    have hr := Option.some.inj hF
    subst hr
    exact rets (vs := [(.int .i64 (-1))]) hQ rfl ⟨rv_tmp rfl, trivial⟩ ⟨rfl, hB11⟩
  · replace hF := ifN h16 hF
    refine W.skip ?_
    refine fun a ha => hK14 _ _ ?_ a ha
    refine W.seq fun K18 hK18 => ?_
    refine W.region ?_
    refine wl_field (o := 5) (off' := 5) ff_65_2 rfl rfl rfl ?_
    refine wl_load_blk (i := 0) (vs := [v0_2]) (v := v0_2) tf_23 rfl rfl hS12 rfl rfl rfl ?_
    refine wl_move rfl rfl ?_
    obtain ⟨u19, hu19, hF⟩ := bindE hF
    refine wl_call rfl Try.call61 (C_laws_szIntS w9 x0.2.2.1 v0_2 (h0_2.ro hB11) u8 _ hu19) rfl ?_
    rintro _ w20 ⟨rfl, hb21⟩
    refine ⟨_, rfl, ?_⟩
    have hB22 := hB11.trans (hb21.mono hB11.size)
    have hS23 := hS12.below hb21
    refine wl_assign rfl rfl ?_
    refine WL.nil ?_
    refine fun a ha => hK18 _ _ ?_ a ha
    refine W.seq fun K25 hK25 => ?_
    refine W.seq fun K26 hK26 => ?_
    refine W.region ?_
    refine wl_move rfl rfl ?_
    refine wl_lss rfl rfl rfl ?_
    refine WL.nil ?_
    refine fun a ha => hK26 _ _ ?_ a ha
    refine W.cond rfl (fun h27 => ?_) (fun h27 => ?_)
    · replace hF := ifP h27 hF
      refine W.seq fun K28 hK28 => ?_
      refine W.region ?_
      refine wl_assign rfl rfl ?_
      refine WL.nil ?_
      refine fun a ha => hK28 _ _ ?_ a ha
      refine W.ret ?_
      have hr := Option.some.inj hF
      subst hr
      exact rets (vs := [(.int .i64 (-1))]) hQ rfl ⟨rv_tmp rfl, trivial⟩ ⟨rfl, hB22⟩
    · replace hF := ifN h27 hF
      refine W.skip ?_
      refine fun a ha => hK25 _ _ ?_ a ha
      refine W.seq fun K29 hK29 => ?_
      refine W.region ?_
      refine wl_field (o := 6) (off' := 6) ff_65_3 rfl rfl rfl ?_
      refine wl_load_blk (i := 0) (vs := [v0_3]) (v := v0_3) tf_23 rfl rfl hS23 rfl rfl rfl ?_
      refine wl_move rfl rfl ?_
      obtain ⟨u30, hu30, hF⟩ := bindE hF
      refine wl_call rfl Try.call61 (C_laws_szIntS w20 x0.2.2.2 v0_3 (h0_3.ro hB22) u19 _ hu30) rfl ?_
      rintro _ w31 ⟨rfl, hb32⟩
      refine ⟨_, rfl, ?_⟩
      have hB33 := hB22.trans (hb32.mono hB22.size)
      have hS34 := hS23.below hb32
      refine wl_assign rfl rfl ?_
      refine WL.nil ?_
      refine fun a ha => hK29 _ _ ?_ a ha
      refine W.seq fun K36 hK36 => ?_
      refine W.seq fun K37 hK37 => ?_
      refine W.region ?_
      refine wl_move rfl rfl ?_
      refine wl_lss rfl rfl rfl ?_
      refine WL.nil ?_
      refine fun a ha => hK37 _ _ ?_ a ha
      refine W.cond rfl (fun h38 => ?_) (fun h38 => ?_)
      · replace hF := ifP h38 hF
        refine W.seq fun K39 hK39 => ?_
        refine W.region ?_
        refine wl_assign rfl rfl ?_
        refine WL.nil ?_
        refine fun a ha => hK39 _ _ ?_ a ha
        refine W.ret ?_
        have hr := Option.some.inj hF
        subst hr
        exact rets (vs := [(.int .i64 (-1))]) hQ rfl ⟨rv_tmp rfl, trivial⟩ ⟨rfl, hB33⟩
      · replace hF := ifN h38 hF
        refine W.skip ?_
        refine fun a ha => hK36 _ _ ?_ a ha
        refine W.seq fun K40 hK40 => ?_
        refine W.region ?_
        refine wl_move rfl rfl ?_
        refine wl_assign rfl rfl ?_
        refine WL.nil ?_
        refine fun a ha => hK40 _ _ ?_ a ha
        refine W.ret ?_
        have hr := Option.some.inj hF
        subst hr
        exact rets (vs := [(.int .i64 u30)]) hQ rfl ⟨rv_tmp rfl, trivial⟩ ⟨rfl, hB33⟩
theorem C_laws_toMarch (w0 : World) (x0 : (((List (List (Int × Int))) × (List Int) × Int × Int) × Int × (List Int) × (List Int))) (v0_0 : Value) (h0_0 : rdS ty_119 (· < w0.heap.size) w0 v0_0 x0.1.1) (v0_1 : Value) (h0_1 : rdS ty_3 (· < w0.heap.size) w0 v0_1 x0.1.2.1) (v0_2 : Value) (h0_2 : rdS ty_3 (· < w0.heap.size) w0 v0_2 x0.2.2.1) (v0_3 : Value) (h0_3 : rdS ty_3 (· < w0.heap.size) w0 v0_3 x0.2.2.2) (r : (((List (List (Int × Int))) × (List Int) × Int × Int) × Int × (List Int) × (List Int))) (hF : F_laws_toMarch x0 = some r) :
    Calls Try.prog 47 [(.agg #[v0_0, v0_1, (.int .i64 x0.1.2.2.1), (.int .i64 x0.1.2.2.2), (.int .i64 x0.2.1), v0_2, v0_3])].toArray w0 fun e w' => ∃ (q0 : Value) (G0 : List Nat) (q1 : Value) (G1 : List Nat) (q2 : Value) (G2 : List Nat) (q3 : Value) (G3 : List Nat), e = .returned (.agg #[q0, q1, (.int .i64 r.1.2.2.1), (.int .i64 r.1.2.2.2), (.int .i64 r.2.1), q2, q3]) ∧ Below w0.heap.size w0 w' ∧ Sep w0.heap.size w' [R.own ty_109 G0 q0 r.1.1, R.own ty_3 G1 q1 r.1.2.1, R.own ty_3 G2 q2 r.2.2.1, R.own ty_3 G3 q3 r.2.2.2] := by
  refine calls_mk' Try.func47 rfl Try.ntmps47 rfl rfl fun Q hQ hP => ?_
  have hB : Below w0.heap.size w0 w0 := Below.refl _ _
  have hS : Sep w0.heap.size w0 [] := Sep.nil _ _
  unfold F_laws_toMarch at hF
  refine W.seq fun K1 hK1 => ?_
  refine W.region ?_
  refine wl_box (cs := [v0_0, v0_1, (.int .i64 x0.1.2.2.1), (.int .i64 x0.1.2.2.2), (.int .i64 x0.2.1), v0_2, v0_3]) rfl rfl rfl hB hS ?_
  intro b2 w3 hb4 hB5 hS6
  refine wl_alloc (cs := [(.slice none 0 0), (.slice none 0 0), (.int .i64 0), (.int .i64 0), (.int .i64 0), (.slice none 0 0), (.slice none 0 0)]) tf_69 rfl rfl hB5 hS6 ?_
  intro b7 w8 hb9 hB10 hS11
  refine WL.nil ?_
  refine fun a ha => hK1 _ _ ?_ a ha
  refine W.seq fun K12 hK12 => ?_
  refine W.region ?_
  refine wl_alloc (cs := [(.slice none 0 0), (.slice none 0 0), (.int .i64 0), (.int .i64 0), (.int .i64 0), (.slice none 0 0), (.slice none 0 0)]) tf_69 rfl rfl hB10 hS11 ?_
  intro b13 w14 hb15 hB16 hS17
  refine WL.nil ?_
  refine fun a ha => hK12 _ _ ?_ a ha
  refine W.seq fun K18 hK18 => ?_
  refine W.region ?_
  refine wl_field (o := 0) (off' := 0) ff_65_0 rfl rfl rfl ?_
  refine wl_load_blk (i := 2) (vs := [v0_0, v0_1, (.int .i64 x0.1.2.2.1), (.int .i64 x0.1.2.2.2)]) (v := (.agg #[v0_0, v0_1, (.int .i64 x0.1.2.2.1), (.int .i64 x0.1.2.2.2)])) tf_25 rfl rfl hS17 rfl rfl rfl ?_
  obtain ⟨u19, hu19, hF⟩ := bindE hF
  refine wl_call rfl Try.call17 (C_laws_toShow w14 x0.1 v0_0 (h0_0.ro hB16) v0_1 (h0_1.ro hB16) _ hu19) rfl ?_
  rintro _ w24 ⟨v20, F21, v22, F23, rfl, hb25, hM28⟩
  refine ⟨_, rfl, ?_⟩
  have hB26 := hB16.trans (hb25.mono hB16.size)
  have hS27 := hS17.join hb25 hM28 hB16.size
  refine wl_field (o := 0) (off' := 0) ff_69_0 rfl rfl rfl ?_
  refine wl_store_blk (i := 2) (vs := [v20, v22, (.int .i64 u19.2.2.1), (.int .i64 u19.2.2.2)]) (cs' := [v20, v22, (.int .i64 u19.2.2.1), (.int .i64 u19.2.2.2), (.int .i64 0), (.slice none 0 0), (.slice none 0 0)]) tf_30 rfl rfl rfl rfl hB26 hS27 rfl rfl ⟨(hS27.own_ro (i := 0) rfl).one, (hS27.own_ro (i := 1) rfl).one, rfl, rfl, trivial⟩ rfl ?_
  intro w29 hk32 hB30 hS31
  refine WL.nil ?_
  refine fun a ha => hK18 _ _ ?_ a ha
  refine W.seq fun K33 hK33 => ?_
  refine W.region ?_
  refine wl_field (o := 4) (off' := 4) ff_65_1 rfl rfl rfl ?_
  refine wl_load_blk (i := 4) (vs := [(.int .i64 x0.2.1)]) (v := (.int .i64 x0.2.1)) tf_3 rfl rfl hS31 rfl rfl rfl ?_
  refine wl_field (o := 4) (off' := 4) ff_69_1 rfl rfl rfl ?_
  refine wl_store_blk (i := 2) (vs := [(.int .i64 x0.2.1)]) (cs' := [v20, v22, (.int .i64 u19.2.2.1), (.int .i64 u19.2.2.2), (.int .i64 x0.2.1), (.slice none 0 0), (.slice none 0 0)]) tf_3 rfl rfl rfl rfl hB30 hS31 rfl rfl ⟨rfl, trivial⟩ rfl ?_
  intro w34 hk37 hB35 hS36
  refine WL.nil ?_
  refine fun a ha => hK33 _ _ ?_ a ha
  refine W.seq fun K38 hK38 => ?_
  refine W.region ?_
  refine wl_field (o := 5) (off' := 5) ff_65_2 rfl rfl rfl ?_
  refine wl_load_blk (i := 4) (vs := [v0_2]) (v := v0_2) tf_23 rfl rfl hS36 rfl rfl rfl ?_
  obtain ⟨u39, hu39, hF⟩ := bindE hF
  refine wl_call rfl Try.call64 (C_laws_toIntS w34 x0.2.2.1 v0_2 (h0_2.ro hB35) _ hu39) rfl ?_
  rintro _ w42 ⟨v40, F41, rfl, hb43, hM46⟩
  refine ⟨_, rfl, ?_⟩
  have hB44 := hB35.trans (hb43.mono hB35.size)
  have hS45 := hS36.join hb43 hM46 hB35.size
  refine wl_field (o := 5) (off' := 5) ff_69_2 rfl rfl rfl ?_
  refine wl_store_blk (i := 3) (vs := [v40]) (cs' := [v20, v22, (.int .i64 u19.2.2.1), (.int .i64 u19.2.2.2), (.int .i64 x0.2.1), v40, (.slice none 0 0)]) tf_23 rfl rfl (cells_one (hS45.own_ro (i := 0) rfl).one) rfl hB44 hS45 rfl rfl ⟨(hS45.own_ro (i := 0) rfl).one, trivial⟩ rfl ?_
  intro w47 hk50 hB48 hS49
  refine WL.nil ?_
  refine fun a ha => hK38 _ _ ?_ a ha
  refine W.seq fun K51 hK51 => ?_
  refine W.region ?_
  refine wl_field (o := 6) (off' := 6) ff_65_3 rfl rfl rfl ?_
  refine wl_load_blk (i := 5) (vs := [v0_3]) (v := v0_3) tf_23 rfl rfl hS49 rfl rfl rfl ?_
  obtain ⟨u52, hu52, hF⟩ := bindE hF
  refine wl_call rfl Try.call64 (C_laws_toIntS w47 x0.2.2.2 v0_3 (h0_3.ro hB48) _ hu52) rfl ?_
  rintro _ w55 ⟨v53, F54, rfl, hb56, hM59⟩
  refine ⟨_, rfl, ?_⟩
  have hB57 := hB48.trans (hb56.mono hB48.size)
  have hS58 := hS49.join hb56 hM59 hB48.size
  refine wl_field (o := 6) (off' := 6) ff_69_3 rfl rfl rfl ?_
  refine wl_store_blk (i := 4) (vs := [v53]) (cs' := [v20, v22, (.int .i64 u19.2.2.1), (.int .i64 u19.2.2.2), (.int .i64 x0.2.1), v40, v53]) tf_23 rfl rfl (cells_one (hS58.own_ro (i := 0) rfl).one) rfl hB57 hS58 rfl rfl ⟨(hS58.own_ro (i := 0) rfl).one, trivial⟩ rfl ?_
  intro w60 hk63 hB61 hS62
  refine WL.nil ?_
  refine fun a ha => hK51 _ _ ?_ a ha
  refine W.seq fun K64 hK64 => ?_
  refine W.region ?_
  refine wl_load_blk (i := 4) (vs := [v20, v22, (.int .i64 u19.2.2.1), (.int .i64 u19.2.2.2), (.int .i64 x0.2.1), v40, v53]) (v := (.agg #[v20, v22, (.int .i64 u19.2.2.1), (.int .i64 u19.2.2.2), (.int .i64 x0.2.1), v40, v53])) tf_69 rfl rfl hS62 rfl rfl rfl ?_
  refine wl_store_blk (i := 5) (vs := [v20, v22, (.int .i64 u19.2.2.1), (.int .i64 u19.2.2.2), (.int .i64 x0.2.1), v40, v53]) (cs' := [v20, v22, (.int .i64 u19.2.2.1), (.int .i64 u19.2.2.2), (.int .i64 x0.2.1), v40, v53]) tf_69 rfl rfl rfl rfl hB61 hS62 rfl rfl ⟨(hS62.own_ro (i := 2) rfl).one, (hS62.own_ro (i := 3) rfl).one, rfl, rfl, rfl, (hS62.own_ro (i := 1) rfl).one, (hS62.own_ro (i := 0) rfl).one, trivial⟩ rfl ?_
  intro w65 hk68 hB66 hS67
  refine WL.nil ?_
  refine fun a ha => hK64 _ _ ?_ a ha
  refine W.ret ?_
  have hr := Option.some.inj hF
  subst hr
  exact rets (vs := [(.agg #[v20, v22, (.int .i64 u19.2.2.1), (.int .i64 u19.2.2.2), (.int .i64 x0.2.1), v40, v53])]) hQ rfl ⟨rv_cell (i := 5) tf_69 rfl hS67 rfl rfl rfl, trivial⟩ ⟨v20, F21, v22, F23, v40, F41, v53, F54, rfl, hB66, hS67.sel [2, 3, 1, 0] rfl⟩
theorem C_spec_l1Rising (w0 : World) (x0 : (List Int)) (v0_0 : Value) (h0_0 : rdS ty_3 (· < w0.heap.size) w0 v0_0 x0) (x1 : Int) (x2 : Int) (r : Bool) (hF : F_spec_l1Rising x0 x1 x2 = some r) :
    Calls Try.prog 121 [v0_0, (.int .i64 x1), (.int .i64 x2)].toArray w0 fun e w' => e = .returned (.bool r) ∧ Below w0.heap.size w0 w' := by
  refine calls_mk' Try.func121 rfl Try.ntmps121 rfl rfl fun Q hQ hP => ?_
  have hB : Below w0.heap.size w0 w0 := Below.refl _ _
  have hS : Sep w0.heap.size w0 [] := Sep.nil _ _
  unfold F_spec_l1Rising at hF
  refine W.seq fun K1 hK1 => ?_
  refine W.region ?_
  refine wl_assign rfl rfl ?_
  refine WL.nil ?_
  refine fun a ha => hK1 _ _ ?_ a ha
  refine W.seq fun K2 hK2 => ?_
  refine W.seq fun K3 hK3 => ?_
  refine W.region ?_
  refine wl_move rfl rfl ?_
  refine wl_lenr (e := ty_3) (l := x0) Try.underlying23 rfl rfl h0_0 ?_
  refine wl_move rfl rfl ?_
  refine WL.nil ?_
  refine fun a ha => hK3 _ _ ?_ a ha
  refine W.block ?_
  refine W.loopk (fun m a w4 => ∃ (y7 : Int), St 35 [(0, v0_0), (1, (.int .i64 x1)), (2, (.int .i64 x2)), (9, v0_0), (10, (.int .i64 (List.length x0 : Int))), (11, (.int .i64 y7))] a ∧ Below w0.heap.size w0 w4 ∧ Sep w0.heap.size w4 [] ∧ F_spec_l1Rising_L1 x0 x1 x2 m y7 = some r) FU ?_ ?_
  ·
    exact fun a ha => ⟨0, ha.sub ⟨rfl, rfl, rfl, rfl, rfl, rfl, trivial⟩, hB, (hS.sel [] rfl), hF⟩
  ·
    rintro m10 a w4 ⟨y7, ha, hB5, hS6, hF⟩ KL9 hKL9
    refine W.at ?_ ha
    cases m10 with
    | zero => exact noneE hF
    | succ m10 =>
      obtain ⟨nx8, hnx8⟩ : ∃ k, k = F_spec_l1Rising_L1 x0 x1 x2 m10 := ⟨_, rfl⟩
      rw [F_spec_l1Rising_L1, ← hnx8] at hF
      refine W.seq fun K11 hK11 => ?_
      refine W.region ?_
      refine wl_lss rfl rfl rfl ?_
      refine WL.nil ?_
      refine fun a ha => hK11 _ _ ?_ a ha
      refine W.seq fun K12 hK12 => ?_
      refine W.cond rfl (fun h13 => ?_) (fun h13 => ?_)
      · replace hF := ifP h13 hF
        refine W.skip ?_
        refine fun a ha => hK12 _ _ ?_ a ha
        refine W.seq fun K14 hK14 => ?_
        refine W.block ?_
        refine W.seq fun K15 hK15 => ?_
        refine W.region ?_
        refine wl_move rfl rfl ?_
        obtain ⟨u16, hu16, hF⟩ := bindE hF
        refine wl_index (e := ty_3) Try.underlying23 rfl rfl rfl h0_0 hu16 ?_
        rintro p17 _ rfl hp18
        refine wl_load_p (vs := [(.int .i64 u16)]) (v := (.int .i64 u16)) tf_3 rfl rfl (hp18.ro hB5) rfl rfl ?_
        refine wl_assign rfl rfl ?_
        refine wl_assign rfl rfl ?_
        refine WL.nil ?_
        refine fun a ha => hK15 _ _ ?_ a ha
        refine W.seq fun K19 hK19 => ?_
        obtain ⟨k24, hk24, hF⟩ := jE1 hF
        have hJ25 : ∀ (y23 : Bool) (w20 : World) (_ : k24 y23 = some r) (_ : Below w0.heap.size w0 w20) (_ : Sep w0.heap.size w20 []), ∀ a, St 35 [(0, v0_0), (1, (.int .i64 x1)), (2, (.int .i64 x2)), (9, v0_0), (10, (.int .i64 (List.length x0 : Int))), (11, (.int .i64 y7)), (33, (.bool y23))] a → K19 a w20 := by
          intro y23 w20 hF hB21 hS22
          subst hk24
          refine fun a ha => hK19 _ _ ?_ a ha
          refine W.cond rfl (fun h26 => ?_) (fun h26 => ?_)
          · replace hF := ifP h26 hF
            refine W.seq fun K27 hK27 => ?_
            refine W.region ?_
            refine wl_assign rfl rfl ?_
            refine WL.nil ?_
            refine fun a ha => hK27 _ _ ?_ a ha
            refine W.ret ?_
            have hr := Option.some.inj hF
            subst hr
            exact rets (vs := [(.bool false)]) hQ rfl ⟨rv_tmp rfl, trivial⟩ ⟨rfl, hB21⟩
          · replace hF := ifN h26 hF
            refine W.skip ?_
            refine fun a ha => hK14 _ _ ?_ a ha
            refine W.region ?_
            refine wl_add rfl rfl rfl ?_
            refine wl_move rfl rfl ?_
            refine WL.nil ?_
            rw [hnx8] at hF
            exact fun a ha => hKL9 a _ m10 (Nat.lt_succ_self m10) ⟨(w64 (y7 + 1)), ha.sub ⟨rfl, rfl, rfl, rfl, rfl, rfl, trivial⟩, hB21, (hS22.sel [] rfl), hF⟩
        refine W.region ?_
        refine wl_move rfl rfl ?_
        refine wl_move rfl rfl ?_
        refine wl_move rfl rfl ?_
        obtain ⟨u28, hu28, hF⟩ := bindE hF
        refine wl_call rfl Try.call80 (C_spec_l1In w4 u16 x1 x2 _ hu28) rfl ?_
        rintro _ w29 ⟨rfl, hb30⟩
        refine ⟨_, rfl, ?_⟩
        have hB31 := hB5.trans (hb30.mono hB5.size)
        have hS32 := hS6.below hb30
        refine wl_not rfl rfl ?_
        refine wl_move rfl rfl ?_
        rcases bE (!u28) with h34 | h34
        · replace hF := ifP h34 hF
          refine wl_off rfl rfl rfl h34 ?_
          refine wl_off rfl rfl rfl h34 ?_
          refine wl_off rfl rfl rfl h34 ?_
          refine wl_offu rfl rfl rfl ?_
          refine wl_offu rfl rfl rfl ?_
          refine wl_offu rfl rfl rfl ?_
          refine wl_offu rfl rfl rfl ?_
          refine wl_offu rfl rfl rfl ?_
          refine wl_offu rfl rfl rfl ?_
          refine wl_offu rfl rfl rfl ?_
          refine wl_off rfl rfl rfl h34 ?_
          refine wl_pick_t rfl rfl h34 rfl ?_
          refine WL.nil ?_
          exact fun a ha => hJ25 (true) _ hF hB31 (hS32.sel [] rfl) a (ha.sub ⟨rfl, rfl, rfl, rfl, rfl, rfl, rfl, trivial⟩)
        · replace hF := ifN h34 hF
          refine wl_on rfl rfl h34 ?_
          refine wl_move rfl rfl ?_
          refine wl_on rfl rfl h34 ?_
          refine wl_gtr rfl rfl rfl ?_
          refine wl_on rfl rfl h34 ?_
          refine wl_move rfl rfl ?_
          rcases bE (decide (0 < y7)) with h35 | h35
          · replace hF := ifP h35 hF
            refine wl_on rfl rfl h35 ?_
            refine wl_move rfl rfl ?_
            refine wl_on rfl rfl h35 ?_
            refine wl_move rfl rfl ?_
            refine wl_on rfl rfl h35 ?_
            refine wl_sub rfl rfl rfl ?_
            refine wl_on rfl rfl h35 ?_
            obtain ⟨u36, hu36, hF⟩ := bindE hF
            refine wl_index (e := ty_3) Try.underlying23 rfl rfl rfl h0_0 hu36 ?_
            rintro p37 _ rfl hp38
            refine wl_on rfl rfl h35 ?_
            refine wl_load_p (vs := [(.int .i64 u36)]) (v := (.int .i64 u36)) tf_3 rfl rfl (hp38.ro hB31) rfl rfl ?_
            refine wl_on rfl rfl h35 ?_
            refine wl_move rfl rfl ?_
            refine wl_on rfl rfl h35 ?_
            refine wl_geq rfl rfl rfl ?_
            refine wl_on rfl rfl h34 ?_
            refine wl_pick_t rfl rfl h35 rfl ?_
            refine wl_pick_f rfl rfl h34 rfl ?_
            refine WL.nil ?_
            exact fun a ha => hJ25 ((decide (u16 ≤ u36))) _ hF hB31 (hS32.sel [] rfl) a (ha.sub ⟨rfl, rfl, rfl, rfl, rfl, rfl, rfl, trivial⟩)
          · replace hF := ifN h35 hF
            refine wl_off rfl rfl rfl h35 ?_
            refine wl_off rfl rfl rfl h35 ?_
            refine wl_off rfl rfl rfl h35 ?_
            refine wl_off rfl rfl rfl h35 ?_
            refine wl_off rfl rfl rfl h35 ?_
            refine wl_off rfl rfl rfl h35 ?_
            refine wl_off rfl rfl rfl h35 ?_
            refine wl_on rfl rfl h34 ?_
            refine wl_pick_f rfl rfl h35 rfl ?_
            refine wl_pick_f rfl rfl h34 rfl ?_
            refine WL.nil ?_
            exact fun a ha => hJ25 (false) _ hF hB31 (hS32.sel [] rfl) a (ha.sub ⟨rfl, rfl, rfl, rfl, rfl, rfl, rfl, trivial⟩)
      · replace hF := ifN h13 hF
        refine W.exit ?_
        refine fun a ha => hK2 _ _ ?_ a ha
        refine W.seq fun K39 hK39 => ?_
        refine W.region ?_
        refine wl_assign rfl rfl ?_
        refine WL.nil ?_
        refine fun a ha => hK39 _ _ ?_ a ha
        refine W.ret ?_
        have hr := Option.some.inj hF
        subst hr
        exact rets (vs := [(.bool true)]) hQ rfl ⟨rv_tmp rfl, trivial⟩ ⟨rfl, hB5⟩
theorem C_spec_mnGood (w0 : World) (x0 : (((List (List (Int × Int))) × (List Int) × Int × Int) × Int × (List Int) × (List Int))) (v0_0 : Value) (h0_0 : rdS ty_109 (· < w0.heap.size) w0 v0_0 x0.1.1) (v0_1 : Value) (h0_1 : rdS ty_3 (· < w0.heap.size) w0 v0_1 x0.1.2.1) (v0_2 : Value) (h0_2 : rdS ty_3 (· < w0.heap.size) w0 v0_2 x0.2.2.1) (v0_3 : Value) (h0_3 : rdS ty_3 (· < w0.heap.size) w0 v0_3 x0.2.2.2) (r : Bool) (hF : F_spec_mnGood x0 = some r) :
    Calls Try.prog 95 [(.agg #[v0_0, v0_1, (.int .i64 x0.1.2.2.1), (.int .i64 x0.1.2.2.2), (.int .i64 x0.2.1), v0_2, v0_3])].toArray w0 fun e w' => e = .returned (.bool r) ∧ Below w0.heap.size w0 w' := by
  refine calls_mk' Try.func95 rfl Try.ntmps95 rfl rfl fun Q hQ hP => ?_
  have hB : Below w0.heap.size w0 w0 := Below.refl _ _
  have hS : Sep w0.heap.size w0 [] := Sep.nil _ _
  unfold F_spec_mnGood at hF
  refine W.seq fun K1 hK1 => ?_
  refine W.region ?_
  refine wl_box (cs := [v0_0, v0_1, (.int .i64 x0.1.2.2.1), (.int .i64 x0.1.2.2.2), (.int .i64 x0.2.1), v0_2, v0_3]) rfl rfl rfl hB hS ?_
  intro b2 w3 hb4 hB5 hS6
  refine wl_assign rfl rfl ?_
  refine WL.nil ?_
  refine fun a ha => hK1 _ _ ?_ a ha
  refine W.seq fun K7 hK7 => ?_
  refine W.seq fun K8 hK8 => ?_
  obtain ⟨k13, hk13, hF⟩ := jE1 hF
  have hJ14 : ∀ (y12 : Bool) (w9 : World) (_ : k13 y12 = some r) (_ : Below w0.heap.size w0 w9) (_ : Sep w0.heap.size w9 [R.blk b2 69 [v0_0, v0_1, (.int .i64 x0.1.2.2.1), (.int .i64 x0.1.2.2.2), (.int .i64 x0.2.1), v0_2, v0_3]]), ∀ a, St 39 [(1, (.pointer (some ⟨b2, 0, none⟩))), (13, (.bool y12))] a → K8 a w9 := by
    intro y12 w9 hF hB10 hS11
    subst hk13
    refine fun a ha => hK8 _ _ ?_ a ha
    refine W.cond rfl (fun h15 => ?_) (fun h15 => ?_)
    · replace hF := ifP h15 hF
      refine W.seq fun K16 hK16 => ?_
      refine W.region ?_
      refine wl_assign rfl rfl ?_
      refine WL.nil ?_
      refine fun a ha => hK16 _ _ ?_ a ha
      refine W.ret ?_
      have hr := Option.some.inj hF
      subst hr
      exact rets (vs := [(.bool false)]) hQ rfl ⟨rv_tmp rfl, trivial⟩ ⟨rfl, hB10⟩
    · replace hF := ifN h15 hF
      refine W.skip ?_
      refine fun a ha => hK7 _ _ ?_ a ha
      refine W.seq fun K17 hK17 => ?_
      refine W.region ?_
      refine wl_field (o := 0) (off' := 0) ff_69_0 rfl rfl rfl ?_
      refine wl_field (o := 0) (off' := 0) ff_30_0 rfl rfl rfl ?_
      refine wl_load_blk (i := 0) (vs := [v0_0]) (v := v0_0) tf_28 rfl rfl hS11 rfl rfl rfl ?_
      obtain ⟨u18, hu18, hF⟩ := bindE hF
      refine wl_index (e := ty_109) Try.underlying28 rfl rfl rfl h0_0 hu18 ?_
      rintro p19 _ ⟨v21, rfl, hv22⟩ hp20
      refine wl_load_p (vs := [v21]) (v := v21) tf_109 rfl rfl (hp20.ro hB10) rfl rfl ?_
      refine wl_lenr (e := ty_105) (l := u18) Try.underlying109 rfl rfl hv22 ?_
      refine wl_assign rfl rfl ?_
      refine WL.nil ?_
      refine fun a ha => hK17 _ _ ?_ a ha
      refine W.seq fun K23 hK23 => ?_
      obtain ⟨k28, hk28, hF⟩ := jE1 hF
      have hJ29 : ∀ (y27 : Bool) (w24 : World) (_ : k28 y27 = some r) (_ : Below w0.heap.size w0 w24) (_ : Sep w0.heap.size w24 []), ∀ a, St 39 [(2, (.bool y27))] a → K23 a w24 := by
        intro y27 w24 hF hB25 hS26
        subst hk28
        refine fun a ha => hK23 _ _ ?_ a ha
        refine W.ret ?_
        have hr := Option.some.inj hF
        subst hr
        exact rets (vs := [(.bool y27)]) hQ rfl ⟨rv_tmp rfl, trivial⟩ ⟨rfl, hB25⟩
      refine W.region ?_
      refine wl_field (o := 5) (off' := 5) ff_69_2 rfl rfl rfl ?_
      refine wl_load_blk (i := 0) (vs := [v0_2]) (v := v0_2) tf_23 rfl rfl hS11 rfl rfl rfl ?_
      refine wl_move rfl rfl ?_
      refine wl_sub rfl rfl rfl ?_
      obtain ⟨u30, hu30, hF⟩ := bindE hF
      refine wl_call rfl Try.call121 (C_spec_l1Rising w9 x0.2.2.1 v0_2 (h0_2.ro hB10) 0 (w64 ((List.length u18 : Int) - 1)) _ hu30) rfl ?_
      rintro _ w31 ⟨rfl, hb32⟩
      refine ⟨_, rfl, ?_⟩
      have hB33 := hB10.trans (hb32.mono hB10.size)
      have hS34 := hS11.below hb32
      refine wl_move rfl rfl ?_
      rcases bE u30 with h36 | h36
      · replace hF := ifP h36 hF
        refine wl_on rfl rfl h36 ?_
        refine wl_field (o := 6) (off' := 6) ff_69_3 rfl rfl rfl ?_
        refine wl_on rfl rfl h36 ?_
        refine wl_load_blk (i := 0) (vs := [v0_3]) (v := v0_3) tf_23 rfl rfl hS34 rfl rfl rfl ?_
        refine wl_on rfl rfl h36 ?_
        refine wl_lenr (e := ty_3) (l := x0.2.2.2) Try.underlying23 rfl rfl h0_3 ?_
        refine wl_on rfl rfl h36 ?_
        refine wl_move rfl rfl ?_
        refine wl_on rfl rfl h36 ?_
        refine wl_eql rfl rfl rfl ?_
        refine wl_pick_t rfl rfl h36 rfl ?_
        refine wl_move rfl rfl ?_
        rcases bE ((List.length x0.2.2.2 : Int) == (List.length u18 : Int)) with h37 | h37
        · replace hF := ifP h37 hF
          refine wl_on rfl rfl h37 ?_
          refine wl_field (o := 6) (off' := 6) ff_69_3 rfl rfl rfl ?_
          refine wl_on rfl rfl h37 ?_
          refine wl_load_blk (i := 0) (vs := [v0_3]) (v := v0_3) tf_23 rfl rfl hS34 rfl rfl rfl ?_
          refine wl_on rfl rfl h37 ?_
          refine wl_field (o := 4) (off' := 4) ff_69_1 rfl rfl rfl ?_
          refine wl_on rfl rfl h37 ?_
          refine wl_load_blk (i := 0) (vs := [(.int .i64 x0.2.1)]) (v := (.int .i64 x0.2.1)) tf_3 rfl rfl hS34 rfl rfl rfl ?_
          refine wl_on rfl rfl h37 ?_
          obtain ⟨u38, hu38, hF⟩ := bindE hF
          refine wl_call rfl Try.call104 (C_spec_l1All w31 x0.2.2.2 v0_3 (h0_3.ro hB33) 0 x0.2.1 _ hu38) rfl ?_
          rintro _ w39 ⟨rfl, hb40⟩
          refine ⟨_, rfl, ?_⟩
          have hB41 := hB33.trans (hb40.mono hB33.size)
          have hS42 := hS34.below hb40
          refine wl_pick_t rfl rfl h37 rfl ?_
          refine wl_assign rfl rfl ?_
          refine WL.nil ?_
          exact fun a ha => hJ29 (u38) _ hF hB41 (hS42.sel [] rfl) a (ha.sub ⟨rfl, trivial⟩)
        · replace hF := ifN h37 hF
          refine wl_off rfl rfl rfl h37 ?_
          refine wl_off rfl rfl rfl h37 ?_
          refine wl_off rfl rfl rfl h37 ?_
          refine wl_off rfl rfl rfl h37 ?_
          refine wl_off rfl rfl rfl h37 ?_
          refine wl_pick_f rfl rfl h37 rfl ?_
          refine wl_assign rfl rfl ?_
          refine WL.nil ?_
          exact fun a ha => hJ29 (false) _ hF hB33 (hS34.sel [] rfl) a (ha.sub ⟨rfl, trivial⟩)
      · replace hF := ifN h36 hF
        refine wl_off rfl rfl rfl h36 ?_
        refine wl_off rfl rfl rfl h36 ?_
        refine wl_off rfl rfl rfl h36 ?_
        refine wl_off rfl rfl rfl h36 ?_
        refine wl_off rfl rfl rfl h36 ?_
        refine wl_pick_f rfl rfl h36 rfl ?_
        refine wl_move rfl rfl ?_
        refine wl_off rfl rfl rfl rfl ?_
        refine wl_off rfl rfl rfl rfl ?_
        refine wl_off rfl rfl rfl rfl ?_
        refine wl_off rfl rfl rfl rfl ?_
        refine wl_off rfl rfl rfl rfl ?_
        refine wl_pick_f rfl rfl rfl rfl ?_
        refine wl_assign rfl rfl ?_
        refine WL.nil ?_
        exact fun a ha => hJ29 (false) _ hF hB33 (hS34.sel [] rfl) a (ha.sub ⟨rfl, trivial⟩)
  refine W.region ?_
  refine wl_field (o := 0) (off' := 0) ff_69_0 rfl rfl rfl ?_
  refine wl_load_blk (i := 0) (vs := [v0_0, v0_1, (.int .i64 x0.1.2.2.1), (.int .i64 x0.1.2.2.2)]) (v := (.agg #[v0_0, v0_1, (.int .i64 x0.1.2.2.1), (.int .i64 x0.1.2.2.2)])) tf_30 rfl rfl hS6 rfl rfl rfl ?_
  obtain ⟨u44, hu44, hF⟩ := bindE hF
  refine wl_call rfl Try.call62 (C_spec_swGood w3 x0.1 v0_0 (h0_0.ro hB5) v0_1 (h0_1.ro hB5) _ hu44) rfl ?_
  rintro _ w45 ⟨rfl, hb46⟩
  refine ⟨_, rfl, ?_⟩
  have hB47 := hB5.trans (hb46.mono hB5.size)
  have hS48 := hS6.below hb46
  refine wl_not rfl rfl ?_
  refine wl_move rfl rfl ?_
  rcases bE (!u44) with h50 | h50
  · replace hF := ifP h50 hF
    refine wl_off rfl rfl rfl h50 ?_
    refine wl_off rfl rfl rfl h50 ?_
    refine wl_off rfl rfl rfl h50 ?_
    refine wl_off rfl rfl rfl h50 ?_
    refine wl_pick_t rfl rfl h50 rfl ?_
    refine WL.nil ?_
    exact fun a ha => hJ14 (true) _ hF hB47 (hS48.sel [0] rfl) a (ha.sub ⟨rfl, rfl, trivial⟩)
  · replace hF := ifN h50 hF
    refine wl_on rfl rfl h50 ?_
    refine wl_field (o := 4) (off' := 4) ff_69_1 rfl rfl rfl ?_
    refine wl_on rfl rfl h50 ?_
    refine wl_load_blk (i := 0) (vs := [(.int .i64 x0.2.1)]) (v := (.int .i64 x0.2.1)) tf_3 rfl rfl hS48 rfl rfl rfl ?_
    refine wl_on rfl rfl h50 ?_
    obtain ⟨u51, hu51, hF⟩ := bindE hF
    refine wl_call rfl Try.call80 (C_spec_l1In w45 x0.2.1 0 1000 _ hu51) rfl ?_
    rintro _ w52 ⟨rfl, hb53⟩
    refine ⟨_, rfl, ?_⟩
    have hB54 := hB47.trans (hb53.mono hB47.size)
    have hS55 := hS48.below hb53
    refine wl_on rfl rfl h50 ?_
    refine wl_not rfl rfl ?_
    refine wl_pick_f rfl rfl h50 rfl ?_
    refine WL.nil ?_
    exact fun a ha => hJ14 ((!u51)) _ hF hB54 (hS55.sel [0] rfl) a (ha.sub ⟨rfl, rfl, trivial⟩)
theorem C_spec_IsMarch (w0 : World) (x0 : (((List (List (Int × Int))) × (List Int) × Int × Int) × Int × (List Int) × (List Int))) (v0_0 : Value) (h0_0 : rdS ty_109 (· < w0.heap.size) w0 v0_0 x0.1.1) (v0_1 : Value) (h0_1 : rdS ty_3 (· < w0.heap.size) w0 v0_1 x0.1.2.1) (v0_2 : Value) (h0_2 : rdS ty_3 (· < w0.heap.size) w0 v0_2 x0.2.2.1) (v0_3 : Value) (h0_3 : rdS ty_3 (· < w0.heap.size) w0 v0_3 x0.2.2.2) (r : Bool) (hF : F_spec_IsMarch x0 = some r) :
    Calls Try.prog 46 [(.agg #[v0_0, v0_1, (.int .i64 x0.1.2.2.1), (.int .i64 x0.1.2.2.2), (.int .i64 x0.2.1), v0_2, v0_3])].toArray w0 fun e w' => e = .returned (.bool r) ∧ Below w0.heap.size w0 w' := by
  refine calls_mk' Try.func46 rfl Try.ntmps46 rfl rfl fun Q hQ hP => ?_
  have hB : Below w0.heap.size w0 w0 := Below.refl _ _
  have hS : Sep w0.heap.size w0 [] := Sep.nil _ _
  unfold F_spec_IsMarch at hF
  refine W.seq fun K1 hK1 => ?_
  refine W.region ?_
  refine wl_box (cs := [v0_0, v0_1, (.int .i64 x0.1.2.2.1), (.int .i64 x0.1.2.2.2), (.int .i64 x0.2.1), v0_2, v0_3]) rfl rfl rfl hB hS ?_
  intro b2 w3 hb4 hB5 hS6
  refine wl_assign rfl rfl ?_
  refine WL.nil ?_
  refine fun a ha => hK1 _ _ ?_ a ha
  refine W.seq fun K7 hK7 => ?_
  refine W.region ?_
  refine wl_load_blk (i := 0) (vs := [v0_0, v0_1, (.int .i64 x0.1.2.2.1), (.int .i64 x0.1.2.2.2), (.int .i64 x0.2.1), v0_2, v0_3]) (v := (.agg #[v0_0, v0_1, (.int .i64 x0.1.2.2.1), (.int .i64 x0.1.2.2.2), (.int .i64 x0.2.1), v0_2, v0_3])) tf_69 rfl rfl hS6 rfl rfl rfl ?_
  obtain ⟨u8, hu8, hF⟩ := bindE hF
  refine wl_call rfl Try.call95 (C_spec_mnGood w3 x0 v0_0 (h0_0.ro hB5) v0_1 (h0_1.ro hB5) v0_2 (h0_2.ro hB5) v0_3 (h0_3.ro hB5) _ hu8) rfl ?_
  rintro _ w9 ⟨rfl, hb10⟩
  refine ⟨_, rfl, ?_⟩
  have hB11 := hB5.trans (hb10.mono hB5.size)
  have hS12 := hS6.below hb10
  refine wl_assign rfl rfl ?_
  refine WL.nil ?_
  refine fun a ha => hK7 _ _ ?_ a ha
  refine W.ret ?_
  have hr := Option.some.inj hF
  subst hr
  exact rets (vs := [(.bool u8)]) hQ rfl ⟨rv_tmp rfl, trivial⟩ ⟨rfl, hB11⟩
theorem C_impl_arePerformers (w0 : World) (x0 : (List Int)) (v0_0 : Value) (h0_0 : rdS ty_3 (· < w0.heap.size) w0 v0_0 x0) (x1 : Int) (r : Bool) (hF : F_impl_arePerformers x0 x1 = some r) :
    Calls Try.prog 96 [v0_0, (.int .i64 x1)].toArray w0 fun e w' => e = .returned (.bool r) ∧ Below w0.heap.size w0 w' := by
  refine calls_mk' Try.func96 rfl Try.ntmps96 rfl rfl fun Q hQ hP => ?_
  have hB : Below w0.heap.size w0 w0 := Below.refl _ _
  have hS : Sep w0.heap.size w0 [] := Sep.nil _ _
  unfold F_impl_arePerformers at hF
  refine W.seq fun K1 hK1 => ?_
  refine W.region ?_
  refine wl_assign rfl rfl ?_
  refine WL.nil ?_
  refine fun a ha => hK1 _ _ ?_ a ha
  refine W.seq fun K2 hK2 => ?_
  refine W.seq fun K3 hK3 => ?_
  refine W.region ?_
  refine wl_move rfl rfl ?_
  refine wl_lenr (e := ty_3) (l := x0) Try.underlying23 rfl rfl h0_0 ?_
  refine wl_move rfl rfl ?_
  refine WL.nil ?_
  refine fun a ha => hK3 _ _ ?_ a ha
  refine W.block ?_
  refine W.loopk (fun m a w4 => ∃ (y7 : Int), St 33 [(0, v0_0), (1, (.int .i64 x1)), (7, v0_0), (8, (.int .i64 (List.length x0 : Int))), (9, (.int .i64 y7))] a ∧ Below w0.heap.size w0 w4 ∧ Sep w0.heap.size w4 [] ∧ F_impl_arePerformers_L1 x0 x1 m y7 = some r) FU ?_ ?_
  ·
    exact fun a ha => ⟨0, ha.sub ⟨rfl, rfl, rfl, rfl, rfl, trivial⟩, hB, (hS.sel [] rfl), hF⟩
  ·
    rintro m10 a w4 ⟨y7, ha, hB5, hS6, hF⟩ KL9 hKL9
    refine W.at ?_ ha
    cases m10 with
    | zero => exact noneE hF
    | succ m10 =>
      obtain ⟨nx8, hnx8⟩ : ∃ k, k = F_impl_arePerformers_L1 x0 x1 m10 := ⟨_, rfl⟩
      rw [F_impl_arePerformers_L1, ← hnx8] at hF
      refine W.seq fun K11 hK11 => ?_
      refine W.region ?_
      refine wl_lss rfl rfl rfl ?_
      refine WL.nil ?_
      refine fun a ha => hK11 _ _ ?_ a ha
      refine W.seq fun K12 hK12 => ?_
      refine W.cond rfl (fun h13 => ?_) (fun h13 => ?_)
      · replace hF := ifP h13 hF
        refine W.skip ?_
        refine fun a ha => hK12 _ _ ?_ a ha
        refine W.seq fun K14 hK14 => ?_
        refine W.block ?_
        refine W.seq fun K15 hK15 => ?_
        refine W.region ?_
        refine wl_move rfl rfl ?_
        obtain ⟨u16, hu16, hF⟩ := bindE hF
        refine wl_index (e := ty_3) Try.underlying23 rfl rfl rfl h0_0 hu16 ?_
        rintro p17 _ rfl hp18
        refine wl_load_p (vs := [(.int .i64 u16)]) (v := (.int .i64 u16)) tf_3 rfl rfl (hp18.ro hB5) rfl rfl ?_
        refine wl_assign rfl rfl ?_
        refine wl_assign rfl rfl ?_
        refine WL.nil ?_
        refine fun a ha => hK15 _ _ ?_ a ha
        refine W.seq fun K19 hK19 => ?_
        obtain ⟨k24, hk24, hF⟩ := jE1 hF
        have hJ25 : ∀ (y23 : Bool) (w20 : World) (_ : k24 y23 = some r) (_ : Below w0.heap.size w0 w20) (_ : Sep w0.heap.size w20 []), ∀ a, St 33 [(0, v0_0), (1, (.int .i64 x1)), (7, v0_0), (8, (.int .i64 (List.length x0 : Int))), (9, (.int .i64 y7)), (31, (.bool y23))] a → K19 a w20 := by
          intro y23 w20 hF hB21 hS22
          subst hk24
          refine fun a ha => hK19 _ _ ?_ a ha
          refine W.cond rfl (fun h26 => ?_) (fun h26 => ?_)
          · replace hF := ifP h26 hF
            refine W.seq fun K27 hK27 => ?_
            refine W.region ?_
            refine wl_assign rfl rfl ?_
            refine WL.nil ?_
            refine fun a ha => hK27 _ _ ?_ a ha
            refine W.ret ?_
            have hr := Option.some.inj hF
            subst hr
            exact rets (vs := [(.bool false)]) hQ rfl ⟨rv_tmp rfl, trivial⟩ ⟨rfl, hB21⟩
          · replace hF := ifN h26 hF
            refine W.skip ?_
            refine fun a ha => hK14 _ _ ?_ a ha
            refine W.region ?_
            refine wl_add rfl rfl rfl ?_
            refine wl_move rfl rfl ?_
            refine WL.nil ?_
            rw [hnx8] at hF
            exact fun a ha => hKL9 a _ m10 (Nat.lt_succ_self m10) ⟨(w64 (y7 + 1)), ha.sub ⟨rfl, rfl, rfl, rfl, rfl, trivial⟩, hB21, (hS22.sel [] rfl), hF⟩
        refine W.region ?_
        refine wl_move rfl rfl ?_
        refine wl_move rfl rfl ?_
        refine wl_sub rfl rfl rfl ?_
        obtain ⟨u28, hu28, hF⟩ := bindE hF
        refine wl_call rfl Try.call65 (C_impl_within w4 u16 0 (w64 (x1 - 1)) _ hu28) rfl ?_
        rintro _ w29 ⟨rfl, hb30⟩
        refine ⟨_, rfl, ?_⟩
        have hB31 := hB5.trans (hb30.mono hB5.size)
        have hS32 := hS6.below hb30
        refine wl_not rfl rfl ?_
        refine wl_move rfl rfl ?_
        rcases bE (!u28) with h34 | h34
        · replace hF := ifP h34 hF
          refine wl_off rfl rfl rfl h34 ?_
          refine wl_off rfl rfl rfl h34 ?_
          refine wl_off rfl rfl rfl h34 ?_
          refine wl_offu rfl rfl rfl ?_
          refine wl_offu rfl rfl rfl ?_
          refine wl_offu rfl rfl rfl ?_
          refine wl_offu rfl rfl rfl ?_
          refine wl_offu rfl rfl rfl ?_
          refine wl_offu rfl rfl rfl ?_
          refine wl_offu rfl rfl rfl ?_
          refine wl_off rfl rfl rfl h34 ?_
          refine wl_pick_t rfl rfl h34 rfl ?_
          refine WL.nil ?_
          exact fun a ha => hJ25 (true) _ hF hB31 (hS32.sel [] rfl) a (ha.sub ⟨rfl, rfl, rfl, rfl, rfl, rfl, trivial⟩)
        · replace hF := ifN h34 hF
          refine wl_on rfl rfl h34 ?_
          refine wl_move rfl rfl ?_
          refine wl_on rfl rfl h34 ?_
          refine wl_gtr rfl rfl rfl ?_
          refine wl_on rfl rfl h34 ?_
          refine wl_move rfl rfl ?_
          rcases bE (decide (0 < y7)) with h35 | h35
          · replace hF := ifP h35 hF
            refine wl_on rfl rfl h35 ?_
            refine wl_move rfl rfl ?_
            refine wl_on rfl rfl h35 ?_
            refine wl_move rfl rfl ?_
            refine wl_on rfl rfl h35 ?_
            refine wl_sub rfl rfl rfl ?_
            refine wl_on rfl rfl h35 ?_
            obtain ⟨u36, hu36, hF⟩ := bindE hF
            refine wl_index (e := ty_3) Try.underlying23 rfl rfl rfl h0_0 hu36 ?_
            rintro p37 _ rfl hp38
            refine wl_on rfl rfl h35 ?_
            refine wl_load_p (vs := [(.int .i64 u36)]) (v := (.int .i64 u36)) tf_3 rfl rfl (hp38.ro hB31) rfl rfl ?_
            refine wl_on rfl rfl h35 ?_
            refine wl_move rfl rfl ?_
            refine wl_on rfl rfl h35 ?_
            refine wl_geq rfl rfl rfl ?_
            refine wl_on rfl rfl h34 ?_
            refine wl_pick_t rfl rfl h35 rfl ?_
            refine wl_pick_f rfl rfl h34 rfl ?_
            refine WL.nil ?_
            exact fun a ha => hJ25 ((decide (u16 ≤ u36))) _ hF hB31 (hS32.sel [] rfl) a (ha.sub ⟨rfl, rfl, rfl, rfl, rfl, rfl, trivial⟩)
          · replace hF := ifN h35 hF
            refine wl_off rfl rfl rfl h35 ?_
            refine wl_off rfl rfl rfl h35 ?_
            refine wl_off rfl rfl rfl h35 ?_
            refine wl_off rfl rfl rfl h35 ?_
            refine wl_off rfl rfl rfl h35 ?_
            refine wl_off rfl rfl rfl h35 ?_
            refine wl_off rfl rfl rfl h35 ?_
            refine wl_on rfl rfl h34 ?_
            refine wl_pick_f rfl rfl h35 rfl ?_
            refine wl_pick_f rfl rfl h34 rfl ?_
            refine WL.nil ?_
            exact fun a ha => hJ25 (false) _ hF hB31 (hS32.sel [] rfl) a (ha.sub ⟨rfl, rfl, rfl, rfl, rfl, rfl, trivial⟩)
      · replace hF := ifN h13 hF
        refine W.exit ?_
        refine fun a ha => hK2 _ _ ?_ a ha
        refine W.seq fun K39 hK39 => ?_
        refine W.region ?_
        refine wl_assign rfl rfl ?_
        refine WL.nil ?_
        refine fun a ha => hK39 _ _ ?_ a ha
        refine W.ret ?_
        have hr := Option.some.inj hF
        subst hr
        exact rets (vs := [(.bool true)]) hQ rfl ⟨rv_tmp rfl, trivial⟩ ⟨rfl, hB5⟩
theorem C_impl_IsMarch (w0 : World) (x0 : (((List (List (Int × Int))) × (List Int) × Int × Int) × Int × (List Int) × (List Int))) (v0_0 : Value) (h0_0 : rdS ty_109 (· < w0.heap.size) w0 v0_0 x0.1.1) (v0_1 : Value) (h0_1 : rdS ty_3 (· < w0.heap.size) w0 v0_1 x0.1.2.1) (v0_2 : Value) (h0_2 : rdS ty_3 (· < w0.heap.size) w0 v0_2 x0.2.2.1) (v0_3 : Value) (h0_3 : rdS ty_3 (· < w0.heap.size) w0 v0_3 x0.2.2.2) (r : Bool) (hF : F_impl_IsMarch x0 = some r) :
    Calls Try.prog 48 [(.agg #[v0_0, v0_1, (.int .i64 x0.1.2.2.1), (.int .i64 x0.1.2.2.2), (.int .i64 x0.2.1), v0_2, v0_3])].toArray w0 fun e w' => e = .returned (.bool r) ∧ Below w0.heap.size w0 w' := by
  refine calls_mk' Try.func48 rfl Try.ntmps48 rfl rfl fun Q hQ hP => ?_
  have hB : Below w0.heap.size w0 w0 := Below.refl _ _
  have hS : Sep w0.heap.size w0 [] := Sep.nil _ _
  unfold F_impl_IsMarch at hF
  refine W.seq fun K1 hK1 => ?_
  refine W.region ?_
  refine wl_box (cs := [v0_0, v0_1, (.int .i64 x0.1.2.2.1), (.int .i64 x0.1.2.2.2), (.int .i64 x0.2.1), v0_2, v0_3]) rfl rfl rfl hB hS ?_
  intro b2 w3 hb4 hB5 hS6
  refine wl_assign rfl rfl ?_
  refine WL.nil ?_
  refine fun a ha => hK1 _ _ ?_ a ha
  refine W.seq fun K7 hK7 => ?_
  refine W.seq fun K8 hK8 => ?_
  obtain ⟨k13, hk13, hF⟩ := jE1 hF
  have hJ14 : ∀ (y12 : Bool) (w9 : World) (_ : k13 y12 = some r) (_ : Below w0.heap.size w0 w9) (_ : Sep w0.heap.size w9 [R.blk b2 69 [v0_0, v0_1, (.int .i64 x0.1.2.2.1), (.int .i64 x0.1.2.2.2), (.int .i64 x0.2.1), v0_2, v0_3]]), ∀ a, St 52 [(1, (.pointer (some ⟨b2, 0, none⟩))), (38, (.bool y12))] a → K8 a w9 := by
    intro y12 w9 hF hB10 hS11
    subst hk13
    refine fun a ha => hK8 _ _ ?_ a ha
    refine W.cond rfl (fun h15 => ?_) (fun h15 => ?_)
    · replace hF := ifP h15 hF
      refine W.seq fun K16 hK16 => ?_
      refine W.region ?_
      refine wl_assign rfl rfl ?_
      refine WL.nil ?_
      refine fun a ha => hK16 _ _ ?_ a ha
      refine W.ret ?_
      have hr := Option.some.inj hF
      subst hr
      exact rets (vs := [(.bool false)]) hQ rfl ⟨rv_tmp rfl, trivial⟩ ⟨rfl, hB10⟩
    · replace hF := ifN h15 hF
      refine W.skip ?_
      refine fun a ha => hK7 _ _ ?_ a ha
      refine W.seq fun K17 hK17 => ?_
      refine W.seq fun K18 hK18 => ?_
      refine W.region ?_
      refine wl_field (o := 6) (off' := 6) ff_69_3 rfl rfl rfl ?_
      refine wl_load_blk (i := 0) (vs := [v0_3]) (v := v0_3) tf_23 rfl rfl hS11 rfl rfl rfl ?_
      refine wl_lenr (e := ty_3) (l := x0.2.2.2) Try.underlying23 rfl rfl h0_3 ?_
      refine wl_move rfl rfl ?_
      refine WL.nil ?_
      refine fun a ha => hK18 _ _ ?_ a ha
      refine W.block ?_
      refine W.loopk (fun m a w19 => ∃ (y22 : Int), St 52 [(1, (.pointer (some ⟨b2, 0, none⟩))), (40, v0_3), (41, (.int .i64 (List.length x0.2.2.2 : Int))), (42, (.int .i64 y22))] a ∧ Below w0.heap.size w0 w19 ∧ Sep w0.heap.size w19 [R.blk b2 69 [v0_0, v0_1, (.int .i64 x0.1.2.2.1), (.int .i64 x0.1.2.2.2), (.int .i64 x0.2.1), v0_2, v0_3]] ∧ F_impl_IsMarch_L1 x0 m y22 = some r) FU ?_ ?_
      ·
        exact fun a ha => ⟨0, ha.sub ⟨rfl, rfl, rfl, rfl, trivial⟩, hB10, (hS11.sel [0] rfl), hF⟩
      ·
        rintro m25 a w19 ⟨y22, ha, hB20, hS21, hF⟩ KL24 hKL24
        refine W.at ?_ ha
        cases m25 with
        | zero => exact noneE hF
        | succ m25 =>
          obtain ⟨nx23, hnx23⟩ : ∃ k, k = F_impl_IsMarch_L1 x0 m25 := ⟨_, rfl⟩
          rw [F_impl_IsMarch_L1, ← hnx23] at hF
          refine W.seq fun K26 hK26 => ?_
          refine W.region ?_
          refine wl_lss rfl rfl rfl ?_
          refine WL.nil ?_
          refine fun a ha => hK26 _ _ ?_ a ha
          refine W.seq fun K27 hK27 => ?_
          refine W.cond rfl (fun h28 => ?_) (fun h28 => ?_)
          · replace hF := ifP h28 hF
            refine W.skip ?_
            refine fun a ha => hK27 _ _ ?_ a ha
            refine W.seq fun K29 hK29 => ?_
            refine W.block ?_
            refine W.seq fun K30 hK30 => ?_
            refine W.region ?_
            obtain ⟨u31, hu31, hF⟩ := bindE hF
            refine wl_index (e := ty_3) Try.underlying23 rfl rfl rfl h0_3 hu31 ?_
            rintro p32 _ rfl hp33
            refine wl_load_p (vs := [(.int .i64 u31)]) (v := (.int .i64 u31)) tf_3 rfl rfl (hp33.ro hB20) rfl rfl ?_
            refine wl_assign rfl rfl ?_
            refine WL.nil ?_
            refine fun a ha => hK30 _ _ ?_ a ha
            refine W.seq fun K34 hK34 => ?_
            refine W.region ?_
            refine wl_move rfl rfl ?_
            refine wl_field (o := 4) (off' := 4) ff_69_1 rfl rfl rfl ?_
            refine wl_load_blk (i := 0) (vs := [(.int .i64 x0.2.1)]) (v := (.int .i64 x0.2.1)) tf_3 rfl rfl hS21 rfl rfl rfl ?_
            obtain ⟨u35, hu35, hF⟩ := bindE hF
            refine wl_call rfl Try.call65 (C_impl_within w19 u31 0 x0.2.1 _ hu35) rfl ?_
            rintro _ w36 ⟨rfl, hb37⟩
            refine ⟨_, rfl, ?_⟩
            have hB38 := hB20.trans (hb37.mono hB20.size)
            have hS39 := hS21.below hb37
            refine wl_not rfl rfl ?_
            refine WL.nil ?_
            refine fun a ha => hK34 _ _ ?_ a ha
            refine W.cond rfl (fun h41 => ?_) (fun h41 => ?_)
            · replace hF := ifP h41 hF
              refine W.seq fun K42 hK42 => ?_
              refine W.region ?_
              refine wl_assign rfl rfl ?_
              refine WL.nil ?_
              refine fun a ha => hK42 _ _ ?_ a ha
              refine W.ret ?_
              have hr := Option.some.inj hF
              subst hr
              exact rets (vs := [(.bool false)]) hQ rfl ⟨rv_tmp rfl, trivial⟩ ⟨rfl, hB38⟩
            · replace hF := ifN h41 hF
              refine W.skip ?_
              refine fun a ha => hK29 _ _ ?_ a ha
              refine W.region ?_
              refine wl_add rfl rfl rfl ?_
              refine wl_move rfl rfl ?_
              refine WL.nil ?_
              rw [hnx23] at hF
              exact fun a ha => hKL24 a _ m25 (Nat.lt_succ_self m25) ⟨(w64 (y22 + 1)), ha.sub ⟨rfl, rfl, rfl, rfl, trivial⟩, hB38, (hS39.sel [0] rfl), hF⟩
          · replace hF := ifN h28 hF
            refine W.exit ?_
            refine fun a ha => hK17 _ _ ?_ a ha
            refine W.seq fun K43 hK43 => ?_
            refine W.region ?_
            refine wl_assign rfl rfl ?_
            refine WL.nil ?_
            refine fun a ha => hK43 _ _ ?_ a ha
            refine W.ret ?_
            have hr := Option.some.inj hF
            subst hr
            exact rets (vs := [(.bool true)]) hQ rfl ⟨rv_tmp rfl, trivial⟩ ⟨rfl, hB20⟩
  refine W.regionH mixed_ [] hB5 hS6 ?_
  intro w44 hb45 hB46 hS47
  have hSW48 := KeepX.refl w44 []
  refine WH.takex (i := 0) rfl (by kernel_rfl) (by kernel_rfl) (by kernel_rfl) hP hSW48 ?_
  refine pr_field (o := 0) (off' := 0) ff_69_0 rfl rfl rfl ?_
  refine WH.takex (i := 1) rfl (by kernel_rfl) (by kernel_rfl) (by kernel_rfl) hP hSW48 ?_
  refine pr_load_blk (i := 0) (vs := [v0_0, v0_1, (.int .i64 x0.1.2.2.1), (.int .i64 x0.1.2.2.2)]) (v := (.agg #[v0_0, v0_1, (.int .i64 x0.1.2.2.1), (.int .i64 x0.1.2.2.2)])) tf_30 rfl rfl hS47 rfl rfl rfl (by simp) ?_
  refine WH.one (i := 2) (by kernel_rfl) rfl ?_
  obtain ⟨u49, hu49, hF⟩ := bindE hF
  refine wl_call rfl Try.call18 (C_impl_IsShow w44 x0.1 v0_0 (h0_0.ro hB46) v0_1 (h0_1.ro hB46) _ hu49) rfl ?_
  rintro _ w50 ⟨rfl, hb51⟩
  refine ⟨_, rfl, ?_⟩
  have hB52 := hB46.trans (hb51.mono hB46.size)
  have hS53 := hS47.below hb51
  have hSW55 := hSW48.ext hb51
  have hbS56 : Below w44.heap.size w44 w50 := hb51
  refine WL.nil (WH.ret hSW55 ?_)
  refine WH.takex (i := 3) rfl (by kernel_rfl) (by kernel_rfl) (by kernel_rfl) hP hSW55 ?_
  refine pr_not rfl rfl ?_
  refine WH.takex (i := 4) rfl (by kernel_rfl) (by kernel_rfl) (by kernel_rfl) hP hSW55 ?_
  refine pr_move rfl rfl ?_
  rcases bE (!u49) with h57 | h57
  · replace hF := ifP h57 hF
    refine WH.off (i := 5) rfl (by kernel_rfl) (by kernel_rfl) (by kernel_rfl) hP rfl rfl h57 rfl hSW55 ?_
    refine WH.off (i := 6) rfl (by kernel_rfl) (by kernel_rfl) (by kernel_rfl) hP rfl rfl h57 rfl hSW55 ?_
    refine WH.off (i := 7) rfl (by kernel_rfl) (by kernel_rfl) (by kernel_rfl) hP rfl rfl h57 rfl hSW55 ?_
    refine WH.off (i := 8) rfl (by kernel_rfl) (by kernel_rfl) (by kernel_rfl) hP rfl rfl h57 rfl hSW55 ?_
    refine WH.takex (i := 9) rfl (by kernel_rfl) (by kernel_rfl) (by kernel_rfl) hP hSW55 ?_
    refine pr_pick_t rfl rfl h57 rfl ?_
    refine WH.takex (i := 10) rfl (by kernel_rfl) (by kernel_rfl) (by kernel_rfl) hP hSW55 ?_
    refine pr_move rfl rfl ?_
    refine WH.off (i := 11) rfl (by kernel_rfl) (by kernel_rfl) (by kernel_rfl) hP rfl rfl rfl rfl hSW55 ?_
    refine WH.off (i := 12) rfl (by kernel_rfl) (by kernel_rfl) (by kernel_rfl) hP rfl rfl rfl rfl hSW55 ?_
    refine WH.off (i := 13) rfl (by kernel_rfl) (by kernel_rfl) (by kernel_rfl) hP rfl rfl rfl rfl hSW55 ?_
    refine WH.off (i := 14) rfl (by kernel_rfl) (by kernel_rfl) (by kernel_rfl) hP rfl rfl rfl rfl hSW55 ?_
    refine WH.off (i := 15) rfl (by kernel_rfl) (by kernel_rfl) (by kernel_rfl) hP rfl rfl rfl rfl hSW55 ?_
    refine WH.off (i := 16) rfl (by kernel_rfl) (by kernel_rfl) (by kernel_rfl) hP rfl rfl rfl rfl hSW55 ?_
    refine WH.off (i := 17) rfl (by kernel_rfl) (by kernel_rfl) (by kernel_rfl) hP rfl rfl rfl rfl hSW55 ?_
    refine WH.off (i := 18) rfl (by kernel_rfl) (by kernel_rfl) (by kernel_rfl) hP rfl rfl rfl rfl hSW55 ?_
    refine WH.off (i := 19) rfl (by kernel_rfl) (by kernel_rfl) (by kernel_rfl) hP rfl rfl rfl rfl hSW55 ?_
    refine WH.off (i := 20) rfl (by kernel_rfl) (by kernel_rfl) (by kernel_rfl) hP rfl rfl rfl rfl hSW55 ?_
    refine WH.takex (i := 21) rfl (by kernel_rfl) (by kernel_rfl) (by kernel_rfl) hP hSW55 ?_
    refine pr_pick_t rfl rfl rfl rfl ?_
    refine WH.takex (i := 22) rfl (by kernel_rfl) (by kernel_rfl) (by kernel_rfl) hP hSW55 ?_
    refine pr_move rfl rfl ?_
    refine WH.off (i := 23) rfl (by kernel_rfl) (by kernel_rfl) (by kernel_rfl) hP rfl rfl rfl rfl hSW55 ?_
    refine WH.off (i := 24) rfl (by kernel_rfl) (by kernel_rfl) (by kernel_rfl) hP rfl rfl rfl rfl hSW55 ?_
    refine WH.off (i := 25) rfl (by kernel_rfl) (by kernel_rfl) (by kernel_rfl) hP rfl rfl rfl rfl hSW55 ?_
    refine WH.off (i := 26) rfl (by kernel_rfl) (by kernel_rfl) (by kernel_rfl) hP rfl rfl rfl rfl hSW55 ?_
    refine WH.off (i := 27) rfl (by kernel_rfl) (by kernel_rfl) (by kernel_rfl) hP rfl rfl rfl rfl hSW55 ?_
    refine WH.off (i := 28) rfl (by kernel_rfl) (by kernel_rfl) (by kernel_rfl) hP rfl rfl rfl rfl hSW55 ?_
    refine WH.off (i := 29) rfl (by kernel_rfl) (by kernel_rfl) (by kernel_rfl) hP rfl rfl rfl rfl hSW55 ?_
    refine WH.off (i := 30) rfl (by kernel_rfl) (by kernel_rfl) (by kernel_rfl) hP rfl rfl rfl rfl hSW55 ?_
    refine WH.off (i := 31) rfl (by kernel_rfl) (by kernel_rfl) (by kernel_rfl) hP rfl rfl rfl rfl hSW55 ?_
    refine WH.off (i := 32) rfl (by kernel_rfl) (by kernel_rfl) (by kernel_rfl) hP rfl rfl rfl rfl hSW55 ?_
    refine WH.takex (i := 33) rfl (by kernel_rfl) (by kernel_rfl) (by kernel_rfl) hP hSW55 ?_
    refine pr_pick_t rfl rfl rfl rfl ?_
    refine WH.done (by kernel_rfl) ?_
    exact fun a ha => hJ14 (true) _ hF hB52 (hS53.sel [0] rfl) a (ha.sub ⟨rfl, rfl, trivial⟩)
  · replace hF := ifN h57 hF
    refine WH.takexg (i := 5) rfl (by kernel_rfl) (by kernel_rfl) (by kernel_rfl) hP rfl rfl h57 hSW55 ?_
    refine pr_field (o := 4) (off' := 4) ff_69_1 rfl rfl rfl ?_
    refine WH.takexg (i := 6) rfl (by kernel_rfl) (by kernel_rfl) (by kernel_rfl) hP rfl rfl h57 hSW55 ?_
    refine pr_load_blk (i := 0) (vs := [(.int .i64 x0.2.1)]) (v := (.int .i64 x0.2.1)) tf_3 rfl rfl hS47 rfl rfl rfl (by simp) ?_
    refine WH.one (i := 7) (by kernel_rfl) rfl ?_
    refine wl_on rfl rfl h57 ?_
    obtain ⟨u58, hu58, hF⟩ := bindE hF
    refine wl_call rfl Try.call65 (C_impl_within w50 x0.2.1 0 1000 _ hu58) rfl ?_
    rintro _ w59 ⟨rfl, hb60⟩
    refine ⟨_, rfl, ?_⟩
    have hB61 := hB52.trans (hb60.mono hB52.size)
    have hS62 := hS53.below hb60
    have hSW64 := hSW55.ext hb60
    have hbS65 : Below w44.heap.size w44 w59 := hbS56.trans (hb60.mono hbS56.size)
    refine WL.nil (WH.ret hSW64 ?_)
    refine WH.takexg (i := 8) rfl (by kernel_rfl) (by kernel_rfl) (by kernel_rfl) hP rfl rfl h57 hSW64 ?_
    refine pr_not rfl rfl ?_
    refine WH.takex (i := 9) rfl (by kernel_rfl) (by kernel_rfl) (by kernel_rfl) hP hSW64 ?_
    refine pr_pick_f rfl rfl h57 rfl ?_
    refine WH.takex (i := 10) rfl (by kernel_rfl) (by kernel_rfl) (by kernel_rfl) hP hSW64 ?_
    refine pr_move rfl rfl ?_
    rcases bE (!u58) with h66 | h66
    · replace hF := ifP h66 hF
      refine WH.off (i := 11) rfl (by kernel_rfl) (by kernel_rfl) (by kernel_rfl) hP rfl rfl h66 rfl hSW64 ?_
      refine WH.off (i := 12) rfl (by kernel_rfl) (by kernel_rfl) (by kernel_rfl) hP rfl rfl h66 rfl hSW64 ?_
      refine WH.off (i := 13) rfl (by kernel_rfl) (by kernel_rfl) (by kernel_rfl) hP rfl rfl h66 rfl hSW64 ?_
      refine WH.off (i := 14) rfl (by kernel_rfl) (by kernel_rfl) (by kernel_rfl) hP rfl rfl h66 rfl hSW64 ?_
      refine WH.off (i := 15) rfl (by kernel_rfl) (by kernel_rfl) (by kernel_rfl) hP rfl rfl h66 rfl hSW64 ?_
      refine WH.off (i := 16) rfl (by kernel_rfl) (by kernel_rfl) (by kernel_rfl) hP rfl rfl h66 rfl hSW64 ?_
      refine WH.off (i := 17) rfl (by kernel_rfl) (by kernel_rfl) (by kernel_rfl) hP rfl rfl h66 rfl hSW64 ?_
      refine WH.off (i := 18) rfl (by kernel_rfl) (by kernel_rfl) (by kernel_rfl) hP rfl rfl h66 rfl hSW64 ?_
      refine WH.off (i := 19) rfl (by kernel_rfl) (by kernel_rfl) (by kernel_rfl) hP rfl rfl h66 rfl hSW64 ?_
      refine WH.off (i := 20) rfl (by kernel_rfl) (by kernel_rfl) (by kernel_rfl) hP rfl rfl h66 rfl hSW64 ?_
      refine WH.takex (i := 21) rfl (by kernel_rfl) (by kernel_rfl) (by kernel_rfl) hP hSW64 ?_
      refine pr_pick_t rfl rfl h66 rfl ?_
      refine WH.takex (i := 22) rfl (by kernel_rfl) (by kernel_rfl) (by kernel_rfl) hP hSW64 ?_
      refine pr_move rfl rfl ?_
      refine WH.off (i := 23) rfl (by kernel_rfl) (by kernel_rfl) (by kernel_rfl) hP rfl rfl rfl rfl hSW64 ?_
      refine WH.off (i := 24) rfl (by kernel_rfl) (by kernel_rfl) (by kernel_rfl) hP rfl rfl rfl rfl hSW64 ?_
      refine WH.off (i := 25) rfl (by kernel_rfl) (by kernel_rfl) (by kernel_rfl) hP rfl rfl rfl rfl hSW64 ?_
      refine WH.off (i := 26) rfl (by kernel_rfl) (by kernel_rfl) (by kernel_rfl) hP rfl rfl rfl rfl hSW64 ?_
      refine WH.off (i := 27) rfl (by kernel_rfl) (by kernel_rfl) (by kernel_rfl) hP rfl rfl rfl rfl hSW64 ?_
      refine WH.off (i := 28) rfl (by kernel_rfl) (by kernel_rfl) (by kernel_rfl) hP rfl rfl rfl rfl hSW64 ?_
      refine WH.off (i := 29) rfl (by kernel_rfl) (by kernel_rfl) (by kernel_rfl) hP rfl rfl rfl rfl hSW64 ?_
      refine WH.off (i := 30) rfl (by kernel_rfl) (by kernel_rfl) (by kernel_rfl) hP rfl rfl rfl rfl hSW64 ?_
      refine WH.off (i := 31) rfl (by kernel_rfl) (by kernel_rfl) (by kernel_rfl) hP rfl rfl rfl rfl hSW64 ?_
      refine WH.off (i := 32) rfl (by kernel_rfl) (by kernel_rfl) (by kernel_rfl) hP rfl rfl rfl rfl hSW64 ?_
      refine WH.takex (i := 33) rfl (by kernel_rfl) (by kernel_rfl) (by kernel_rfl) hP hSW64 ?_
      refine pr_pick_t rfl rfl rfl rfl ?_
      refine WH.done (by kernel_rfl) ?_
      exact fun a ha => hJ14 (true) _ hF hB61 (hS62.sel [0] rfl) a (ha.sub ⟨rfl, rfl, trivial⟩)
    · replace hF := ifN h66 hF
      refine WH.takexg (i := 11) rfl (by kernel_rfl) (by kernel_rfl) (by kernel_rfl) hP rfl rfl h66 hSW64 ?_
      refine pr_field (o := 5) (off' := 5) ff_69_2 rfl rfl rfl ?_
      refine WH.takexg (i := 12) rfl (by kernel_rfl) (by kernel_rfl) (by kernel_rfl) hP rfl rfl h66 hSW64 ?_
      refine pr_load_blk (i := 0) (vs := [v0_2]) (v := v0_2) tf_23 rfl rfl hS47 rfl rfl rfl (by simp) ?_
      refine WH.takexg (i := 13) rfl (by kernel_rfl) (by kernel_rfl) (by kernel_rfl) hP rfl rfl h66 hSW64 ?_
      refine pr_field (o := 0) (off' := 0) ff_69_0 rfl rfl rfl ?_
      refine WH.takexg (i := 14) rfl (by kernel_rfl) (by kernel_rfl) (by kernel_rfl) hP rfl rfl h66 hSW64 ?_
      refine pr_field (o := 0) (off' := 0) ff_30_0 rfl rfl rfl ?_
      refine WH.takexg (i := 15) rfl (by kernel_rfl) (by kernel_rfl) (by kernel_rfl) hP rfl rfl h66 hSW64 ?_
      refine pr_load_blk (i := 0) (vs := [v0_0]) (v := v0_0) tf_28 rfl rfl hS47 rfl rfl rfl (by simp) ?_
      obtain ⟨u67, hu67, hF⟩ := bindE hF
      refine WH.takexg (i := 16) rfl (by kernel_rfl) (by kernel_rfl) (by kernel_rfl) hP rfl rfl h66 hSW64 ?_
      refine pr_index (e := ty_109) Try.underlying28 rfl rfl rfl h0_0 hu67 ?_
      rintro p68 _ ⟨v70, rfl, hv71⟩ hp69
      refine WH.takexg (i := 17) rfl (by kernel_rfl) (by kernel_rfl) (by kernel_rfl) hP rfl rfl h66 hSW64 ?_
      refine pr_load_p (vs := [v70]) (v := v70) tf_109 rfl rfl (hp69.kx hB46 (by simp)) rfl rfl ?_
      refine WH.takexg (i := 18) rfl (by kernel_rfl) (by kernel_rfl) (by kernel_rfl) hP rfl rfl h66 hSW64 ?_
      refine pr_lenr (e := ty_105) (l := u67) Try.underlying109 rfl rfl hv71 ?_
      refine WH.one (i := 19) (by kernel_rfl) rfl ?_
      refine wl_on rfl rfl h66 ?_
      obtain ⟨u72, hu72, hF⟩ := bindE hF
      refine wl_call rfl Try.call96 (C_impl_arePerformers w59 x0.2.2.1 v0_2 (h0_2.ro hB61) (List.length u67 : Int) _ hu72) rfl ?_
      rintro _ w73 ⟨rfl, hb74⟩
      refine ⟨_, rfl, ?_⟩
      have hB75 := hB61.trans (hb74.mono hB61.size)
      have hS76 := hS62.below hb74
      have hSW78 := hSW64.ext hb74
      have hbS79 : Below w44.heap.size w44 w73 := hbS65.trans (hb74.mono hbS65.size)
      refine WL.nil (WH.ret hSW78 ?_)
      refine WH.takexg (i := 20) rfl (by kernel_rfl) (by kernel_rfl) (by kernel_rfl) hP rfl rfl h66 hSW78 ?_
      refine pr_not rfl rfl ?_
      refine WH.takex (i := 21) rfl (by kernel_rfl) (by kernel_rfl) (by kernel_rfl) hP hSW78 ?_
      refine pr_pick_f rfl rfl h66 rfl ?_
      refine WH.takex (i := 22) rfl (by kernel_rfl) (by kernel_rfl) (by kernel_rfl) hP hSW78 ?_
      refine pr_move rfl rfl ?_
      rcases bE (!u72) with h80 | h80
      · replace hF := ifP h80 hF
        refine WH.off (i := 23) rfl (by kernel_rfl) (by kernel_rfl) (by kernel_rfl) hP rfl rfl h80 rfl hSW78 ?_
        refine WH.off (i := 24) rfl (by kernel_rfl) (by kernel_rfl) (by kernel_rfl) hP rfl rfl h80 rfl hSW78 ?_
        refine WH.off (i := 25) rfl (by kernel_rfl) (by kernel_rfl) (by kernel_rfl) hP rfl rfl h80 rfl hSW78 ?_
        refine WH.off (i := 26) rfl (by kernel_rfl) (by kernel_rfl) (by kernel_rfl) hP rfl rfl h80 rfl hSW78 ?_
        refine WH.off (i := 27) rfl (by kernel_rfl) (by kernel_rfl) (by kernel_rfl) hP rfl rfl h80 rfl hSW78 ?_
        refine WH.off (i := 28) rfl (by kernel_rfl) (by kernel_rfl) (by kernel_rfl) hP rfl rfl h80 rfl hSW78 ?_
        refine WH.off (i := 29) rfl (by kernel_rfl) (by kernel_rfl) (by kernel_rfl) hP rfl rfl h80 rfl hSW78 ?_
        refine WH.off (i := 30) rfl (by kernel_rfl) (by kernel_rfl) (by kernel_rfl) hP rfl rfl h80 rfl hSW78 ?_
        refine WH.off (i := 31) rfl (by kernel_rfl) (by kernel_rfl) (by kernel_rfl) hP rfl rfl h80 rfl hSW78 ?_
        refine WH.off (i := 32) rfl (by kernel_rfl) (by kernel_rfl) (by kernel_rfl) hP rfl rfl h80 rfl hSW78 ?_
        refine WH.takex (i := 33) rfl (by kernel_rfl) (by kernel_rfl) (by kernel_rfl) hP hSW78 ?_
        refine pr_pick_t rfl rfl h80 rfl ?_
        refine WH.done (by kernel_rfl) ?_
        exact fun a ha => hJ14 (true) _ hF hB75 (hS76.sel [0] rfl) a (ha.sub ⟨rfl, rfl, trivial⟩)
      · replace hF := ifN h80 hF
        refine WH.takexg (i := 23) rfl (by kernel_rfl) (by kernel_rfl) (by kernel_rfl) hP rfl rfl h80 hSW78 ?_
        refine pr_field (o := 6) (off' := 6) ff_69_3 rfl rfl rfl ?_
        refine WH.takexg (i := 24) rfl (by kernel_rfl) (by kernel_rfl) (by kernel_rfl) hP rfl rfl h80 hSW78 ?_
        refine pr_load_blk (i := 0) (vs := [v0_3]) (v := v0_3) tf_23 rfl rfl hS47 rfl rfl rfl (by simp) ?_
        refine WH.takexg (i := 25) rfl (by kernel_rfl) (by kernel_rfl) (by kernel_rfl) hP rfl rfl h80 hSW78 ?_
        refine pr_lenr (e := ty_3) (l := x0.2.2.2) Try.underlying23 rfl rfl h0_3 ?_
        refine WH.takexg (i := 26) rfl (by kernel_rfl) (by kernel_rfl) (by kernel_rfl) hP rfl rfl h80 hSW78 ?_
        refine pr_field (o := 0) (off' := 0) ff_69_0 rfl rfl rfl ?_
        refine WH.takexg (i := 27) rfl (by kernel_rfl) (by kernel_rfl) (by kernel_rfl) hP rfl rfl h80 hSW78 ?_
        refine pr_field (o := 0) (off' := 0) ff_30_0 rfl rfl rfl ?_
        refine WH.takexg (i := 28) rfl (by kernel_rfl) (by kernel_rfl) (by kernel_rfl) hP rfl rfl h80 hSW78 ?_
        refine pr_load_blk (i := 0) (vs := [v0_0]) (v := v0_0) tf_28 rfl rfl hS47 rfl rfl rfl (by simp) ?_
        obtain ⟨u81, hu81, hF⟩ := bindE hF
        refine WH.takexg (i := 29) rfl (by kernel_rfl) (by kernel_rfl) (by kernel_rfl) hP rfl rfl h80 hSW78 ?_
        refine pr_index (e := ty_109) Try.underlying28 rfl rfl rfl h0_0 hu81 ?_
        rintro p82 _ ⟨v84, rfl, hv85⟩ hp83
        refine WH.takexg (i := 30) rfl (by kernel_rfl) (by kernel_rfl) (by kernel_rfl) hP rfl rfl h80 hSW78 ?_
        refine pr_load_p (vs := [v84]) (v := v84) tf_109 rfl rfl (hp83.kx hB46 (by simp)) rfl rfl ?_
        refine WH.takexg (i := 31) rfl (by kernel_rfl) (by kernel_rfl) (by kernel_rfl) hP rfl rfl h80 hSW78 ?_
        refine pr_lenr (e := ty_105) (l := u81) Try.underlying109 rfl rfl hv85 ?_
        refine WH.takexg (i := 32) rfl (by kernel_rfl) (by kernel_rfl) (by kernel_rfl) hP rfl rfl h80 hSW78 ?_
        refine pr_neq rfl rfl rfl ?_
        refine WH.takex (i := 33) rfl (by kernel_rfl) (by kernel_rfl) (by kernel_rfl) hP hSW78 ?_
        refine pr_pick_f rfl rfl h80 rfl ?_
        refine WH.done (by kernel_rfl) ?_
        exact fun a ha => hJ14 (((List.length x0.2.2.2 : Int) != (List.length u81 : Int))) _ hF hB75 (hS76.sel [0] rfl) a (ha.sub ⟨rfl, rfl, trivial⟩)
theorem C_laws_eqMarch (w0 : World) (x0 : (((List (List (Int × Int))) × (List Int) × Int × Int) × Int × (List Int) × (List Int))) (v0_0 : Value) (h0_0 : rdS ty_109 (· < w0.heap.size) w0 v0_0 x0.1.1) (v0_1 : Value) (h0_1 : rdS ty_3 (· < w0.heap.size) w0 v0_1 x0.1.2.1) (v0_2 : Value) (h0_2 : rdS ty_3 (· < w0.heap.size) w0 v0_2 x0.2.2.1) (v0_3 : Value) (h0_3 : rdS ty_3 (· < w0.heap.size) w0 v0_3 x0.2.2.2) (x1 : (((List (List (Int × Int))) × (List Int) × Int × Int) × Int × (List Int) × (List Int))) (v1_0 : Value) (h1_0 : rdS ty_109 (· < w0.heap.size) w0 v1_0 x1.1.1) (v1_1 : Value) (h1_1 : rdS ty_3 (· < w0.heap.size) w0 v1_1 x1.1.2.1) (v1_2 : Value) (h1_2 : rdS ty_3 (· < w0.heap.size) w0 v1_2 x1.2.2.1) (v1_3 : Value) (h1_3 : rdS ty_3 (· < w0.heap.size) w0 v1_3 x1.2.2.2) (r : Bool) (hF : F_laws_eqMarch x0 x1 = some r) :
    Calls Try.prog 49 [(.agg #[v0_0, v0_1, (.int .i64 x0.1.2.2.1), (.int .i64 x0.1.2.2.2), (.int .i64 x0.2.1), v0_2, v0_3]), (.agg #[v1_0, v1_1, (.int .i64 x1.1.2.2.1), (.int .i64 x1.1.2.2.2), (.int .i64 x1.2.1), v1_2, v1_3])].toArray w0 fun e w' => e = .returned (.bool r) ∧ Below w0.heap.size w0 w' := by
  refine calls_mk' Try.func49 rfl Try.ntmps49 rfl rfl fun Q hQ hP => ?_
  have hB : Below w0.heap.size w0 w0 := Below.refl _ _
  have hS : Sep w0.heap.size w0 [] := Sep.nil _ _
  unfold F_laws_eqMarch at hF
  refine W.seq fun K1 hK1 => ?_
  refine W.region ?_
  refine wl_box (cs := [v0_0, v0_1, (.int .i64 x0.1.2.2.1), (.int .i64 x0.1.2.2.2), (.int .i64 x0.2.1), v0_2, v0_3]) rfl rfl rfl hB hS ?_
  intro b2 w3 hb4 hB5 hS6
  refine wl_box (cs := [v1_0, v1_1, (.int .i64 x1.1.2.2.1), (.int .i64 x1.1.2.2.2), (.int .i64 x1.2.1), v1_2, v1_3]) rfl rfl rfl hB5 hS6 ?_
  intro b7 w8 hb9 hB10 hS11
  refine wl_assign rfl rfl ?_
  refine WL.nil ?_
  refine fun a ha => hK1 _ _ ?_ a ha
  refine W.seq fun K12 hK12 => ?_
  refine W.seq fun K13 hK13 => ?_
  refine W.region ?_
  refine wl_field (o := 0) (off' := 0) ff_69_0 rfl rfl rfl ?_
  refine wl_load_blk (i := 1) (vs := [v0_0, v0_1, (.int .i64 x0.1.2.2.1), (.int .i64 x0.1.2.2.2)]) (v := (.agg #[v0_0, v0_1, (.int .i64 x0.1.2.2.1), (.int .i64 x0.1.2.2.2)])) tf_30 rfl rfl hS11 rfl rfl rfl ?_
  refine wl_field (o := 0) (off' := 0) ff_69_0 rfl rfl rfl ?_
  refine wl_load_blk (i := 0) (vs := [v1_0, v1_1, (.int .i64 x1.1.2.2.1), (.int .i64 x1.1.2.2.2)]) (v := (.agg #[v1_0, v1_1, (.int .i64 x1.1.2.2.1), (.int .i64 x1.1.2.2.2)])) tf_30 rfl rfl hS11 rfl rfl rfl ?_
  obtain ⟨u14, hu14, hF⟩ := bindE hF
  refine wl_call rfl Try.call19 (C_laws_eqShow w8 x0.1 v0_0 (h0_0.ro hB10) v0_1 (h0_1.ro hB10) x1.1 v1_0 (h1_0.ro hB10) v1_1 (h1_1.ro hB10) _ hu14) rfl ?_
  rintro _ w15 ⟨rfl, hb16⟩
  refine ⟨_, rfl, ?_⟩
  have hB17 := hB10.trans (hb16.mono hB10.size)
  have hS18 := hS11.below hb16
  refine wl_not rfl rfl ?_
  refine WL.nil ?_
  refine fun a ha => hK13 _ _ ?_ a ha
  refine W.cond rfl (fun h20 => ?_) (fun h20 => ?_)
  · replace hF := ifP h20 hF
    refine W.seq fun K21 hK21 => ?_
    refine W.region ?_
    refine wl_assign rfl rfl ?_
    refine WL.nil ?_
    refine fun a ha => hK21 _ _ ?_ a ha
    refine W.ret ?_
    have hr := Option.some.inj hF
    subst hr
    exact rets (vs := [(.bool false)]) hQ rfl ⟨rv_tmp rfl, trivial⟩ ⟨rfl, hB17⟩
  · replace hF := ifN h20 hF
    refine W.skip ?_
    refine fun a ha => hK12 _ _ ?_ a ha
    refine W.seq fun K22 hK22 => ?_
    refine W.seq fun K23 hK23 => ?_
    refine W.region ?_
    refine wl_field (o := 4) (off' := 4) ff_69_1 rfl rfl rfl ?_
    refine wl_load_blk (i := 1) (vs := [(.int .i64 x0.2.1)]) (v := (.int .i64 x0.2.1)) tf_3 rfl rfl hS18 rfl rfl rfl ?_
    refine wl_field (o := 4) (off' := 4) ff_69_1 rfl rfl rfl ?_
    refine wl_load_blk (i := 0) (vs := [(.int .i64 x1.2.1)]) (v := (.int .i64 x1.2.1)) tf_3 rfl rfl hS18 rfl rfl rfl ?_
    refine wl_neq rfl rfl rfl ?_
    refine WL.nil ?_
    refine fun a ha => hK23 _ _ ?_ a ha
    refine W.cond rfl (fun h24 => ?_) (fun h24 => ?_)
    · replace hF := ifP h24 hF
      refine W.seq fun K25 hK25 => ?_
      refine W.region ?_
      refine wl_assign rfl rfl ?_
      refine WL.nil ?_
      refine fun a ha => hK25 _ _ ?_ a ha
      refine W.ret ?_
      have hr := Option.some.inj hF
      subst hr
      exact rets (vs := [(.bool false)]) hQ rfl ⟨rv_tmp rfl, trivial⟩ ⟨rfl, hB17⟩
    · replace hF := ifN h24 hF
      refine W.skip ?_
      refine fun a ha => hK22 _ _ ?_ a ha
      refine W.seq fun K26 hK26 => ?_
      refine W.seq fun K27 hK27 => ?_
      refine W.region ?_
      refine wl_field (o := 5) (off' := 5) ff_69_2 rfl rfl rfl ?_
      refine wl_load_blk (i := 1) (vs := [v0_2]) (v := v0_2) tf_23 rfl rfl hS18 rfl rfl rfl ?_
      refine wl_field (o := 5) (off' := 5) ff_69_2 rfl rfl rfl ?_
      refine wl_load_blk (i := 0) (vs := [v1_2]) (v := v1_2) tf_23 rfl rfl hS18 rfl rfl rfl ?_
      obtain ⟨u28, hu28, hF⟩ := bindE hF
      refine wl_call rfl Try.call52 (C_laws_eqIntS w15 x0.2.2.1 v0_2 (h0_2.ro hB17) x1.2.2.1 v1_2 (h1_2.ro hB17) _ hu28) rfl ?_
      rintro _ w29 ⟨rfl, hb30⟩
      refine ⟨_, rfl, ?_⟩
      have hB31 := hB17.trans (hb30.mono hB17.size)
      have hS32 := hS18.below hb30
      refine wl_not rfl rfl ?_
      refine WL.nil ?_
      refine fun a ha => hK27 _ _ ?_ a ha
      refine W.cond rfl (fun h34 => ?_) (fun h34 => ?_)
      · replace hF := ifP h34 hF
        refine W.seq fun K35 hK35 => ?_
        refine W.region ?_
        refine wl_assign rfl rfl ?_
        refine WL.nil ?_
        refine fun a ha => hK35 _ _ ?_ a ha
        refine W.ret ?_
        have hr := Option.some.inj hF
        subst hr
        exact rets (vs := [(.bool false)]) hQ rfl ⟨rv_tmp rfl, trivial⟩ ⟨rfl, hB31⟩
      · replace hF := ifN h34 hF
        refine W.skip ?_
        refine fun a ha => hK26 _ _ ?_ a ha
        refine W.seq fun K36 hK36 => ?_
        refine W.seq fun K37 hK37 => ?_
        refine W.region ?_
        refine wl_field (o := 6) (off' := 6) ff_69_3 rfl rfl rfl ?_
        refine wl_load_blk (i := 1) (vs := [v0_3]) (v := v0_3) tf_23 rfl rfl hS32 rfl rfl rfl ?_
        refine wl_field (o := 6) (off' := 6) ff_69_3 rfl rfl rfl ?_
        refine wl_load_blk (i := 0) (vs := [v1_3]) (v := v1_3) tf_23 rfl rfl hS32 rfl rfl rfl ?_
        obtain ⟨u38, hu38, hF⟩ := bindE hF
        refine wl_call rfl Try.call52 (C_laws_eqIntS w29 x0.2.2.2 v0_3 (h0_3.ro hB31) x1.2.2.2 v1_3 (h1_3.ro hB31) _ hu38) rfl ?_
        rintro _ w39 ⟨rfl, hb40⟩
        refine ⟨_, rfl, ?_⟩
        have hB41 := hB31.trans (hb40.mono hB31.size)
        have hS42 := hS32.below hb40
        refine wl_not rfl rfl ?_
        refine WL.nil ?_
        refine fun a ha => hK37 _ _ ?_ a ha
        refine W.cond rfl (fun h44 => ?_) (fun h44 => ?_)
        · replace hF := ifP h44 hF
          refine W.seq fun K45 hK45 => ?_
          refine W.region ?_
          refine wl_assign rfl rfl ?_
          refine WL.nil ?_
          refine fun a ha => hK45 _ _ ?_ a ha
          refine W.ret ?_
          have hr := Option.some.inj hF
          subst hr
          exact rets (vs := [(.bool false)]) hQ rfl ⟨rv_tmp rfl, trivial⟩ ⟨rfl, hB41⟩
        · replace hF := ifN h44 hF
          refine W.skip ?_
          refine fun a ha => hK36 _ _ ?_ a ha
          refine W.seq fun K46 hK46 => ?_
          refine W.region ?_
          refine wl_assign rfl rfl ?_
          refine WL.nil ?_
          refine fun a ha => hK46 _ _ ?_ a ha
          refine W.ret ?_
          have hr := Option.some.inj hF
          subst hr
          exact rets (vs := [(.bool true)]) hQ rfl ⟨rv_tmp rfl, trivial⟩ ⟨rfl, hB41⟩
theorem C_laws_FnExactIsMarch (w0 : World) (x0 : (((List (List (Int × Int))) × (List Int) × Int × Int) × Int × (List Int) × (List Int))) (v0_0 : Value) (h0_0 : rdS ty_119 (· < w0.heap.size) w0 v0_0 x0.1.1) (v0_1 : Value) (h0_1 : rdS ty_3 (· < w0.heap.size) w0 v0_1 x0.1.2.1) (v0_2 : Value) (h0_2 : rdS ty_3 (· < w0.heap.size) w0 v0_2 x0.2.2.1) (v0_3 : Value) (h0_3 : rdS ty_3 (· < w0.heap.size) w0 v0_3 x0.2.2.2) (r : Bool) (hF : F_laws_FnExactIsMarch x0 = some r) :
    Calls Try.prog 11 [(.agg #[v0_0, v0_1, (.int .i64 x0.1.2.2.1), (.int .i64 x0.1.2.2.2), (.int .i64 x0.2.1), v0_2, v0_3])].toArray w0 fun e w' => e = .returned (.bool r) ∧ Below w0.heap.size w0 w' := by
  refine calls_mk' Try.func11 rfl Try.ntmps11 rfl rfl fun Q hQ hP => ?_
  have hB : Below w0.heap.size w0 w0 := Below.refl _ _
  have hS : Sep w0.heap.size w0 [] := Sep.nil _ _
  unfold F_laws_FnExactIsMarch at hF
  refine W.seq fun K1 hK1 => ?_
  refine W.region ?_
  refine wl_box (cs := [v0_0, v0_1, (.int .i64 x0.1.2.2.1), (.int .i64 x0.1.2.2.2), (.int .i64 x0.2.1), v0_2, v0_3]) rfl rfl rfl hB hS ?_
  intro b2 w3 hb4 hB5 hS6
  refine wl_assign rfl rfl ?_
  refine WL.nil ?_
  refine fun a ha => hK1 _ _ ?_ a ha
  refine W.seq fun K7 hK7 => ?_
  refine W.region ?_
  refine wl_assign rfl rfl ?_
  refine WL.nil ?_
  refine fun a ha => hK7 _ _ ?_ a ha
  refine W.seq fun K8 hK8 => ?_
  refine W.region ?_
  refine wl_load_blk (i := 0) (vs := [v0_0, v0_1, (.int .i64 x0.1.2.2.1), (.int .i64 x0.1.2.2.2), (.int .i64 x0.2.1), v0_2, v0_3]) (v := (.agg #[v0_0, v0_1, (.int .i64 x0.1.2.2.1), (.int .i64 x0.1.2.2.2), (.int .i64 x0.2.1), v0_2, v0_3])) tf_65 rfl rfl hS6 rfl rfl rfl ?_
  refine wl_move rfl rfl ?_
  obtain ⟨u9, hu9, hF⟩ := bindE hF
  refine wl_call rfl Try.call45 (C_laws_szMarch w3 x0 v0_0 (h0_0.ro hB5) v0_1 (h0_1.ro hB5) v0_2 (h0_2.ro hB5) v0_3 (h0_3.ro hB5) 1048576 _ hu9) rfl ?_
  rintro _ w10 ⟨rfl, hb11⟩
  refine ⟨_, rfl, ?_⟩
  have hB12 := hB5.trans (hb11.mono hB5.size)
  have hS13 := hS6.below hb11
  refine wl_assign rfl rfl ?_
  refine WL.nil ?_
  refine fun a ha => hK8 _ _ ?_ a ha
  refine W.seq fun K15 hK15 => ?_
  refine W.seq fun K16 hK16 => ?_
  refine W.region ?_
  refine wl_move rfl rfl ?_
  refine wl_lss rfl rfl rfl ?_
  refine WL.nil ?_
  refine fun a ha => hK16 _ _ ?_ a ha
  refine W.cond rfl (fun h17 => ?_) (fun h17 => ?_)
  · replace hF := ifP h17 hF
    refine W.seq fun K18 hK18 => ?_
    refine W.region ?_
    refine wl_assign rfl rfl ?_
    refine WL.nil ?_
    refine fun a ha => hK18 _ _ ?_ a ha
    refine W.ret ?_
    have hr := Option.some.inj hF
    subst hr
    exact rets (vs := [(.bool true)]) hQ rfl ⟨rv_tmp rfl, trivial⟩ ⟨rfl, hB12⟩
  · replace hF := ifN h17 hF
    refine W.skip ?_
    refine fun a ha => hK15 _ _ ?_ a ha
    refine W.seq fun K19 hK19 => ?_
    refine W.region ?_
    refine wl_load_blk (i := 0) (vs := [v0_0, v0_1, (.int .i64 x0.1.2.2.1), (.int .i64 x0.1.2.2.2), (.int .i64 x0.2.1), v0_2, v0_3]) (v := (.agg #[v0_0, v0_1, (.int .i64 x0.1.2.2.1), (.int .i64 x0.1.2.2.2), (.int .i64 x0.2.1), v0_2, v0_3])) tf_65 rfl rfl hS13 rfl rfl rfl ?_
    obtain ⟨u20, hu20, hF⟩ := bindE hF
    refine wl_call rfl Try.call47 (C_laws_toMarch w10 x0 v0_0 (h0_0.ro hB12) v0_1 (h0_1.ro hB12) v0_2 (h0_2.ro hB12) v0_3 (h0_3.ro hB12) _ hu20) rfl ?_
    rintro _ w29 ⟨v21, F22, v23, F24, v25, F26, v27, F28, rfl, hb30, hM33⟩
    refine ⟨_, rfl, ?_⟩
    have hB31 := hB12.trans (hb30.mono hB12.size)
    have hS32 := hS13.join hb30 hM33 hB12.size
    obtain ⟨u34, hu34, hF⟩ := bindE hF
    refine wl_call rfl Try.call46 (C_spec_IsMarch w29 u20 v21 (hS32.own_ro (i := 0) rfl) v23 (hS32.own_ro (i := 1) rfl) v25 (hS32.own_ro (i := 2) rfl) v27 (hS32.own_ro (i := 3) rfl) _ hu34) rfl ?_
    rintro _ w35 ⟨rfl, hb36⟩
    refine ⟨_, rfl, ?_⟩
    have hB37 := hB31.trans (hb36.mono hB31.size)
    have hS38 := hS32.below hb36
    refine wl_assign rfl rfl ?_
    refine WL.nil ?_
    refine fun a ha => hK19 _ _ ?_ a ha
    refine W.seq fun K40 hK40 => ?_
    refine W.region ?_
    refine wl_load_blk (i := 4) (vs := [v0_0, v0_1, (.int .i64 x0.1.2.2.1), (.int .i64 x0.1.2.2.2), (.int .i64 x0.2.1), v0_2, v0_3]) (v := (.agg #[v0_0, v0_1, (.int .i64 x0.1.2.2.1), (.int .i64 x0.1.2.2.2), (.int .i64 x0.2.1), v0_2, v0_3])) tf_65 rfl rfl hS38 rfl rfl rfl ?_
    obtain ⟨u41, hu41, hF⟩ := bindE hF
    refine wl_call rfl Try.call47 (C_laws_toMarch w35 x0 v0_0 (h0_0.ro hB37) v0_1 (h0_1.ro hB37) v0_2 (h0_2.ro hB37) v0_3 (h0_3.ro hB37) _ hu41) rfl ?_
    rintro _ w50 ⟨v42, F43, v44, F45, v46, F47, v48, F49, rfl, hb51, hM54⟩
    refine ⟨_, rfl, ?_⟩
    have hB52 := hB37.trans (hb51.mono hB37.size)
    have hS53 := hS38.join hb51 hM54 hB37.size
    refine wl_alloc (cs := [(.slice none 0 0), (.slice none 0 0), (.int .i64 0), (.int .i64 0), (.int .i64 0), (.slice none 0 0), (.slice none 0 0)]) tf_69 rfl rfl hB52 hS53 ?_
    intro b55 w56 hb57 hB58 hS59
    refine wl_store_blk (i := 0) (vs := [v42, v44, (.int .i64 u41.1.2.2.1), (.int .i64 u41.1.2.2.2), (.int .i64 u41.2.1), v46, v48]) (cs' := [v42, v44, (.int .i64 u41.1.2.2.1), (.int .i64 u41.1.2.2.2), (.int .i64 u41.2.1), v46, v48]) tf_69 rfl rfl rfl rfl hB58 hS59 rfl rfl ⟨(hS59.own_ro (i := 1) rfl).one, (hS59.own_ro (i := 2) rfl).one, rfl, rfl, rfl, (hS59.own_ro (i := 3) rfl).one, (hS59.own_ro (i := 4) rfl).one, trivial⟩ rfl ?_
    intro w60 hk63 hB61 hS62
    refine WL.nil ?_
    refine fun a ha => hK40 _ _ ?_ a ha
    refine W.seq fun K64 hK64 => ?_
    refine W.region ?_
    refine wl_load_blk (i := 0) (vs := [v42, v44, (.int .i64 u41.1.2.2.1), (.int .i64 u41.1.2.2.2), (.int .i64 u41.2.1), v46, v48]) (v := (.agg #[v42, v44, (.int .i64 u41.1.2.2.1), (.int .i64 u41.1.2.2.2), (.int .i64 u41.2.1), v46, v48])) tf_69 rfl rfl hS62 rfl rfl rfl ?_
    obtain ⟨u65, hu65, hF⟩ := bindE hF
    refine wl_call rfl Try.call48 (C_impl_IsMarch w60 u41 v42 (hS62.own_ro (i := 1) rfl) v44 (hS62.own_ro (i := 2) rfl) v46 (hS62.own_ro (i := 3) rfl) v48 (hS62.own_ro (i := 4) rfl) _ hu65) rfl ?_
    rintro _ w66 ⟨rfl, hb67⟩
    refine ⟨_, rfl, ?_⟩
    have hB68 := hB61.trans (hb67.mono hB61.size)
    have hS69 := hS62.below hb67
    refine wl_assign rfl rfl ?_
    refine WL.nil ?_
    refine fun a ha => hK64 _ _ ?_ a ha
    refine W.seq fun K71 hK71 => ?_
    refine W.seq fun K72 hK72 => ?_
    refine W.region ?_
    refine wl_move rfl rfl ?_
    refine wl_move rfl rfl ?_
    refine wl_neqb Try.underlying4 rfl rfl rfl ?_
    refine WL.nil ?_
    refine fun a ha => hK72 _ _ ?_ a ha
    refine W.cond rfl (fun h73 => ?_) (fun h73 => ?_)
    · replace hF := ifP h73 hF
      refine W.seq fun K74 hK74 => ?_
      refine W.region ?_
      refine wl_assign rfl rfl ?_
      refine WL.nil ?_
      refine fun a ha => hK74 _ _ ?_ a ha
      refine W.ret ?_
      have hr := Option.some.inj hF
      subst hr
      exact rets (vs := [(.bool false)]) hQ rfl ⟨rv_tmp rfl, trivial⟩ ⟨rfl, hB68⟩
    · replace hF := ifN h73 hF
      refine W.skip ?_
      refine fun a ha => hK71 _ _ ?_ a ha
      refine W.seq fun K75 hK75 => ?_
      refine W.seq fun K76 hK76 => ?_
      refine W.regionH mixed_ [] hB68 hS69 ?_
      intro w77 hb78 hB79 hS80
      have hSW81 := KeepX.refl w77 []
      refine WH.takex (i := 0) rfl (by kernel_rfl) (by kernel_rfl) (by kernel_rfl) hP hSW81 ?_
      refine pr_load_blk (i := 0) (vs := [v42, v44, (.int .i64 u41.1.2.2.1), (.int .i64 u41.1.2.2.2), (.int .i64 u41.2.1), v46, v48]) (v := (.agg #[v42, v44, (.int .i64 u41.1.2.2.1), (.int .i64 u41.1.2.2.2), (.int .i64 u41.2.1), v46, v48])) tf_69 rfl rfl hS80 rfl rfl rfl (by simp) ?_
      refine WH.takex (i := 1) rfl (by kernel_rfl) (by kernel_rfl) (by kernel_rfl) hP hSW81 ?_
      refine pr_load_blk (i := 9) (vs := [v0_0, v0_1, (.int .i64 x0.1.2.2.1), (.int .i64 x0.1.2.2.2), (.int .i64 x0.2.1), v0_2, v0_3]) (v := (.agg #[v0_0, v0_1, (.int .i64 x0.1.2.2.1), (.int .i64 x0.1.2.2.2), (.int .i64 x0.2.1), v0_2, v0_3])) tf_65 rfl rfl hS80 rfl rfl rfl (by simp) ?_
      refine WH.one (i := 2) (by kernel_rfl) rfl ?_
      obtain ⟨u82, hu82, hF⟩ := bindE hF
      refine wl_call rfl Try.call47 (C_laws_toMarch w77 x0 v0_0 (h0_0.ro hB79) v0_1 (h0_1.ro hB79) v0_2 (h0_2.ro hB79) v0_3 (h0_3.ro hB79) _ hu82) rfl ?_
      rintro _ w91 ⟨v83, F84, v85, F86, v87, F88, v89, F90, rfl, hb92, hM95⟩
      refine ⟨_, rfl, ?_⟩
      have hB93 := hB79.trans (hb92.mono hB79.size)
      have hS94 := hS80.join hb92 hM95 hB79.size
      have hSW96 := hSW81.ext hb92
      have hbS97 : Below w77.heap.size w77 w91 := hb92
      refine WL.nil (WH.ret hSW96 ?_)
      refine WH.one (i := 3) (by kernel_rfl) rfl ?_
      obtain ⟨u98, hu98, hF⟩ := bindE hF
      refine wl_call rfl Try.call49 (C_laws_eqMarch w91 u41 v42 (hS94.own_ro (i := 5) rfl) v44 (hS94.own_ro (i := 6) rfl) v46 (hS94.own_ro (i := 7) rfl) v48 (hS94.own_ro (i := 8) rfl) u82 v83 (hS94.own_ro (i := 0) rfl) v85 (hS94.own_ro (i := 1) rfl) v87 (hS94.own_ro (i := 2) rfl) v89 (hS94.own_ro (i := 3) rfl) _ hu98) rfl ?_
      rintro _ w99 ⟨rfl, hb100⟩
      refine ⟨_, rfl, ?_⟩
      have hB101 := hB93.trans (hb100.mono hB93.size)
      have hS102 := hS94.below hb100
      have hSW104 := hSW96.ext hb100
      have hbS105 : Below w77.heap.size w77 w99 := hbS97.trans (hb100.mono hbS97.size)
      refine WL.nil (WH.ret hSW104 ?_)
      refine WH.takex (i := 4) rfl (by kernel_rfl) (by kernel_rfl) (by kernel_rfl) hP hSW104 ?_
      refine pr_not rfl rfl ?_
      refine WH.done (by kernel_rfl) ?_
      refine fun a ha => hK76 _ _ ?_ a ha
      refine W.cond rfl (fun h106 => ?_) (fun h106 => ?_)
      · replace hF := ifP h106 hF
        refine W.seq fun K107 hK107 => ?_
        refine W.region ?_
        refine wl_assign rfl rfl ?_
        refine WL.nil ?_
        refine fun a ha => hK107 _ _ ?_ a ha
        refine W.ret ?_
        have hr := Option.some.inj hF
        subst hr
        exact rets (vs := [(.bool false)]) hQ rfl ⟨rv_tmp rfl, trivial⟩ ⟨rfl, hB101⟩
      · replace hF := ifN h106 hF
        refine W.skip ?_
        refine fun a ha => hK75 _ _ ?_ a ha
        refine W.seq fun K108 hK108 => ?_
        refine W.region ?_
        refine wl_assign rfl rfl ?_
        refine WL.nil ?_
        refine fun a ha => hK108 _ _ ?_ a ha
        refine W.ret ?_
        have hr := Option.some.inj hF
        subst hr
        exact rets (vs := [(.bool true)]) hQ rfl ⟨rv_tmp rfl, trivial⟩ ⟨rfl, hB101⟩
end Go.Proofs.Ytmbhdelegdhieaa
