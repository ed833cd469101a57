/-
  THE WALKS of functions of this seat, by program (gen.py).
-/
import Derived.Test.YtmbhdelegdhieaaH
import Derived.Test.YtmbhdelegdhieaaWFnExactIsShow
import Derived.Test.YtmbhdelegdhieaaWFnExactShiftCues
set_option linter.unusedSimpArgs false
set_option linter.unusedVariables false
set_option maxRecDepth 100000
namespace Go.Proofs.Ytmbhdelegdhieaa
open Go Go.RowKit
theorem C_spec_tiTime (w0 : World) (x0 : Int) (r : Bool) (hF : F_spec_tiTime x0 = some r) :
    Calls Try.prog 72 [(.int .i64 x0)].toArray w0 fun e w' => e = .returned (.bool r) ∧ Below w0.heap.size w0 w' := by
  refine calls_mk' Try.func72 rfl Try.ntmps72 rfl rfl fun Q hQ hP => ?_
  have hB : Below w0.heap.size w0 w0 := Below.refl _ _
  have hS : Sep w0.heap.size w0 [] := Sep.nil _ _
  unfold F_spec_tiTime at hF
  refine W.seq fun K1 hK1 => ?_
  refine W.region ?_
  refine wl_assign rfl rfl ?_
  refine WL.nil ?_
  refine fun a ha => hK1 _ _ ?_ a ha
  refine W.seq fun K2 hK2 => ?_
  refine W.region ?_
  refine wl_move rfl rfl ?_
  obtain ⟨u3, hu3, hF⟩ := bindE hF
  refine wl_call rfl Try.call80 (C_spec_l1In w0 x0 0 1000000 _ hu3) rfl ?_
  rintro _ w4 ⟨rfl, hb5⟩
  refine ⟨_, rfl, ?_⟩
  have hB6 := hB.trans (hb5.mono hB.size)
  have hS7 := hS.below hb5
  refine wl_assign rfl rfl ?_
  refine WL.nil ?_
  refine fun a ha => hK2 _ _ ?_ a ha
  refine W.ret ?_
  have hr := Option.some.inj hF
  subst hr
  exact rets (vs := [(.bool u3)]) hQ rfl ⟨rv_tmp rfl, trivial⟩ ⟨rfl, hB6⟩
theorem C_spec_muLasts (w0 : World) (x0 : Int) (x1 : Int) (r : Int) (hF : F_spec_muLasts x0 x1 = some r) :
    Calls Try.prog 131 [(.int .i64 x0), (.int .i64 x1)].toArray w0 fun e w' => e = .returned (.int .i64 r) ∧ Below w0.heap.size w0 w' := by
  refine calls_mk' Try.func131 rfl Try.ntmps131 rfl rfl fun Q hQ hP => ?_
  have hB : Below w0.heap.size w0 w0 := Below.refl _ _
  have hS : Sep w0.heap.size w0 [] := Sep.nil _ _
  unfold F_spec_muLasts at hF
  refine W.seq fun K1 hK1 => ?_
  refine W.region ?_
  refine wl_assign rfl rfl ?_
  refine WL.nil ?_
  refine fun a ha => hK1 _ _ ?_ a ha
  refine W.seq fun K2 hK2 => ?_
  refine W.region ?_
  refine wl_move rfl rfl ?_
  refine wl_mul rfl rfl rfl ?_
  refine wl_move rfl rfl ?_
  have h3 : x1 ≠ 0 := fun h3 => noneE (ifP h3 hF)
  replace hF := ifNP h3 hF
  refine wl_quo rfl rfl rfl h3 ?_
  refine wl_assign rfl rfl ?_
  refine WL.nil ?_
  refine fun a ha => hK2 _ _ ?_ a ha
  refine W.ret ?_
  have hr := Option.some.inj hF
  subst hr
  exact rets (vs := [(.int .i64 (w64 (Int.tdiv (w64 (60000 * x0)) x1)))]) hQ rfl ⟨rv_tmp rfl, trivial⟩ ⟨rfl, hB⟩
theorem C_spec_muTime (w0 : World) (x0 : (List (Int × Int))) (v0_0 : Value) (h0_0 : rdS ty_93 (· < w0.heap.size) w0 v0_0 x0) (x1 : Int) (r : Int) (hF : F_spec_muTime x0 x1 = some r) :
    Calls Try.prog 112 [v0_0, (.int .i64 x1)].toArray w0 fun e w' => e = .returned (.int .i64 r) ∧ Below w0.heap.size w0 w' := by
  refine calls_mk' Try.func112 rfl Try.ntmps112 rfl rfl fun Q hQ hP => ?_
  have hB : Below w0.heap.size w0 w0 := Below.refl _ _
  have hS : Sep w0.heap.size w0 [] := Sep.nil _ _
  unfold F_spec_muTime at hF
  refine W.seq fun K1 hK1 => ?_
  refine W.region ?_
  refine wl_assign rfl rfl ?_
  refine WL.nil ?_
  refine fun a ha => hK1 _ _ ?_ a ha
  refine W.seq fun K2 hK2 => ?_
  refine W.region ?_
  refine wl_assign rfl rfl ?_
  refine WL.nil ?_
  refine fun a ha => hK2 _ _ ?_ a ha
  refine W.seq fun K3 hK3 => ?_
  refine W.seq fun K4 hK4 => ?_
  refine W.region ?_
  refine wl_move rfl rfl ?_
  refine wl_lenr (e := ty_93) (l := x0) Try.underlying41 rfl rfl h0_0 ?_
  refine wl_move rfl rfl ?_
  refine WL.nil ?_
  refine fun a ha => hK4 _ _ ?_ a ha
  refine W.block ?_
  refine W.loopk (fun m a w5 => ∃ (y8 : Int) (y9 : Int) (y10 : Int), St 37 [(1, (.int .i64 y8)), (5, (.int .i64 y9)), (8, v0_0), (9, (.int .i64 (List.length x0 : Int))), (10, (.int .i64 y10))] a ∧ Below w0.heap.size w0 w5 ∧ Sep w0.heap.size w5 [] ∧ F_spec_muTime_L1 x0 m y8 y9 y10 = some r) FU ?_ ?_
  ·
    exact fun a ha => ⟨x1, 0, 0, ha.sub ⟨rfl, rfl, rfl, rfl, rfl, trivial⟩, hB, (hS.sel [] rfl), hF⟩
  ·
    rintro m13 a w5 ⟨y8, y9, y10, ha, hB6, hS7, hF⟩ KL12 hKL12
    refine W.at ?_ ha
    cases m13 with
    | zero => exact noneE hF
    | succ m13 =>
      obtain ⟨nx11, hnx11⟩ : ∃ k, k = F_spec_muTime_L1 x0 m13 := ⟨_, rfl⟩
      rw [F_spec_muTime_L1, ← hnx11] at hF
      refine W.seq fun K14 hK14 => ?_
      refine W.region ?_
      refine wl_lss rfl rfl rfl ?_
      refine WL.nil ?_
      refine fun a ha => hK14 _ _ ?_ a ha
      refine W.seq fun K15 hK15 => ?_
      refine W.cond rfl (fun h16 => ?_) (fun h16 => ?_)
      · replace hF := ifP h16 hF
        refine W.skip ?_
        refine fun a ha => hK15 _ _ ?_ a ha
        refine W.seq fun K17 hK17 => ?_
        refine W.block ?_
        refine W.seq fun K18 hK18 => ?_
        refine W.region ?_
        obtain ⟨u19, hu19, hF⟩ := bindE hF
        refine wl_index (e := ty_93) Try.underlying41 rfl rfl rfl h0_0 hu19 ?_
        rintro p20 _ rfl hp21
        refine wl_load_p (vs := [(.int .i64 u19.1), (.int .i64 u19.2)]) (v := (.agg #[(.int .i64 u19.1), (.int .i64 u19.2)])) tf_93 rfl rfl (hp21.ro hB6) rfl rfl ?_
        refine wl_alloc (cs := [(.int .i64 0), (.int .i64 0)]) tf_93 rfl rfl hB6 hS7 ?_
        intro b22 w23 hb24 hB25 hS26
        refine wl_store_blk (i := 0) (vs := [(.int .i64 u19.1), (.int .i64 u19.2)]) (cs' := [(.int .i64 u19.1), (.int .i64 u19.2)]) tf_93 rfl rfl rfl rfl hB25 hS26 rfl rfl ⟨rfl, rfl, trivial⟩ rfl ?_
        intro w27 hk30 hB28 hS29
        refine WL.nil ?_
        refine fun a ha => hK18 _ _ ?_ a ha
        refine W.seq fun K31 hK31 => ?_
        refine W.seq fun K32 hK32 => ?_
        refine W.region ?_
        refine wl_move rfl rfl ?_
        refine wl_field (o := 0) (off' := 0) ff_93_0 rfl rfl rfl ?_
        refine wl_load_blk (i := 0) (vs := [(.int .i64 u19.1)]) (v := (.int .i64 u19.1)) tf_3 rfl rfl hS29 rfl rfl rfl ?_
        refine wl_lss rfl rfl rfl ?_
        refine WL.nil ?_
        refine fun a ha => hK32 _ _ ?_ a ha
        refine W.cond rfl (fun h33 => ?_) (fun h33 => ?_)
        · replace hF := ifP h33 hF
          refine W.seq fun K34 hK34 => ?_
          refine W.region ?_
          refine wl_move rfl rfl ?_
          refine wl_move rfl rfl ?_
          refine wl_field (o := 1) (off' := 1) ff_93_1 rfl rfl rfl ?_
          refine wl_load_blk (i := 0) (vs := [(.int .i64 u19.2)]) (v := (.int .i64 u19.2)) tf_3 rfl rfl hS29 rfl rfl rfl ?_
          obtain ⟨u35, hu35, hF⟩ := bindE hF
          refine wl_call rfl Try.call131 (C_spec_muLasts w27 y8 u19.2 _ hu35) rfl ?_
          rintro _ w36 ⟨rfl, hb37⟩
          refine ⟨_, rfl, ?_⟩
          have hB38 := hB28.trans (hb37.mono hB28.size)
          have hS39 := hS29.below hb37
          refine wl_add rfl rfl rfl ?_
          refine wl_assign rfl rfl ?_
          refine WL.nil ?_
          refine fun a ha => hK34 _ _ ?_ a ha
          refine W.ret ?_
          have hr := Option.some.inj hF
          subst hr
          exact rets (vs := [(.int .i64 (w64 (y9 + u35)))]) hQ rfl ⟨rv_tmp rfl, trivial⟩ ⟨rfl, hB38⟩
        · replace hF := ifN h33 hF
          refine W.skip ?_
          refine fun a ha => hK31 _ _ ?_ a ha
          refine W.seq fun K41 hK41 => ?_
          refine W.region ?_
          refine wl_move rfl rfl ?_
          refine wl_field (o := 0) (off' := 0) ff_93_0 rfl rfl rfl ?_
          refine wl_load_blk (i := 0) (vs := [(.int .i64 u19.1)]) (v := (.int .i64 u19.1)) tf_3 rfl rfl hS29 rfl rfl rfl ?_
          refine wl_field (o := 1) (off' := 1) ff_93_1 rfl rfl rfl ?_
          refine wl_load_blk (i := 0) (vs := [(.int .i64 u19.2)]) (v := (.int .i64 u19.2)) tf_3 rfl rfl hS29 rfl rfl rfl ?_
          obtain ⟨u42, hu42, hF⟩ := bindE hF
          refine wl_call rfl Try.call131 (C_spec_muLasts w27 u19.1 u19.2 _ hu42) rfl ?_
          rintro _ w43 ⟨rfl, hb44⟩
          refine ⟨_, rfl, ?_⟩
          have hB45 := hB28.trans (hb44.mono hB28.size)
          have hS46 := hS29.below hb44
          refine wl_add rfl rfl rfl ?_
          refine wl_assign rfl rfl ?_
          refine WL.nil ?_
          refine fun a ha => hK41 _ _ ?_ a ha
          refine W.region ?_
          refine wl_move rfl rfl ?_
          refine wl_field (o := 0) (off' := 0) ff_93_0 rfl rfl rfl ?_
          refine wl_load_blk (i := 0) (vs := [(.int .i64 u19.1)]) (v := (.int .i64 u19.1)) tf_3 rfl rfl hS46 rfl rfl rfl ?_
          refine wl_sub rfl rfl rfl ?_
          refine wl_assign rfl rfl ?_
          refine WL.nil ?_
          refine fun a ha => hK17 _ _ ?_ a ha
          refine W.region ?_
          refine wl_add rfl rfl rfl ?_
          refine wl_move rfl rfl ?_
          refine WL.nil ?_
          rw [hnx11] at hF
          exact fun a ha => hKL12 a _ m13 (Nat.lt_succ_self m13) ⟨(w64 (y8 - u19.1)), (w64 (y9 + u42)), (w64 (y10 + 1)), ha.sub ⟨rfl, rfl, rfl, rfl, rfl, trivial⟩, hB45, (hS46.sel [] rfl), hF⟩
      · replace hF := ifN h16 hF
        refine W.exit ?_
        refine fun a ha => hK3 _ _ ?_ a ha
        refine W.seq fun K48 hK48 => ?_
        refine W.region ?_
        refine wl_move rfl rfl ?_
        refine wl_assign rfl rfl ?_
        refine WL.nil ?_
        refine fun a ha => hK48 _ _ ?_ a ha
        refine W.ret ?_
        have hr := Option.some.inj hF
        subst hr
        exact rets (vs := [(.int .i64 y9)]) hQ rfl ⟨rv_tmp rfl, trivial⟩ ⟨rfl, hB6⟩
theorem C_spec_tiTimes (w0 : World) (x0 : (List (Int × Int))) (v0_0 : Value) (h0_0 : rdS ty_93 (· < w0.heap.size) w0 v0_0 x0) (x1 : (List (Int × (List UInt8)))) (v1_0 : Value) (h1_0 : rdS ty_56 (· < w0.heap.size) w0 v1_0 x1) (r : (List Int)) (hF : F_spec_tiTimes x0 x1 = some r) :
    Calls Try.prog 73 [v0_0, v1_0].toArray w0 fun e w' => ∃ (q0 : Value) (G0 : List Nat), e = .returned q0 ∧ Below w0.heap.size w0 w' ∧ Sep w0.heap.size w' [R.own ty_3 G0 q0 r] := by
  refine calls_mk' Try.func73 rfl Try.ntmps73 rfl rfl fun Q hQ hP => ?_
  have hB : Below w0.heap.size w0 w0 := Below.refl _ _
  have hS : Sep w0.heap.size w0 [] := Sep.nil _ _
  unfold F_spec_tiTimes at hF
  refine W.seq fun K1 hK1 => ?_
  refine W.region ?_
  refine wl_assign rfl rfl ?_
  refine WL.nil ?_
  refine fun a ha => hK1 _ _ ?_ a ha
  refine W.seq fun K2 hK2 => ?_
  refine W.region ?_
  refine wl_assign rfl rfl ?_
  refine WL.nil ?_
  refine fun a ha => hK2 _ _ ?_ a ha
  refine W.seq fun K3 hK3 => ?_
  refine W.seq fun K4 hK4 => ?_
  refine W.region ?_
  refine wl_move rfl rfl ?_
  refine wl_lenr (e := ty_56) (l := x1) Try.underlying43 rfl rfl h1_0 ?_
  refine wl_move rfl rfl ?_
  refine WL.nil ?_
  refine fun a ha => hK4 _ _ ?_ a ha
  refine W.block ?_
  refine W.loopk (fun m a w5 => ∃ (l8 : (List Int)) (y11 : Int) (v9 : Value) (F10 : List Nat), St 23 [(0, v0_0), (5, v9), (8, v1_0), (9, (.int .i64 (List.length x1 : Int))), (10, (.int .i64 y11))] a ∧ Below w0.heap.size w0 w5 ∧ Sep w0.heap.size w5 [R.own ty_3 F10 v9 l8] ∧ F_spec_tiTimes_L1 x1 x0 m l8 y11 = some r) FU ?_ ?_
  ·
    have hS13 := hS.push0 (r := R.own ty_3 [] (.slice none 0 0) []) rfl fun _ => .inl ⟨rfl, rfl, rfl⟩
    exact fun a ha => ⟨[], 0, (.slice none 0 0), [], ha.sub ⟨rfl, rfl, rfl, rfl, rfl, trivial⟩, hB, (hS13.sel [0] rfl), hF⟩
  ·
    rintro m15 a w5 ⟨l8, y11, v9, F10, ha, hB6, hS7, hF⟩ KL14 hKL14
    refine W.at ?_ ha
    cases m15 with
    | zero => exact noneE hF
    | succ m15 =>
      obtain ⟨nx12, hnx12⟩ : ∃ k, k = F_spec_tiTimes_L1 x1 x0 m15 := ⟨_, rfl⟩
      rw [F_spec_tiTimes_L1, ← hnx12] at hF
      refine W.seq fun K16 hK16 => ?_
      refine W.region ?_
      refine wl_lss rfl rfl rfl ?_
      refine WL.nil ?_
      refine fun a ha => hK16 _ _ ?_ a ha
      refine W.seq fun K17 hK17 => ?_
      refine W.cond rfl (fun h18 => ?_) (fun h18 => ?_)
      · replace hF := ifP h18 hF
        refine W.skip ?_
        refine fun a ha => hK17 _ _ ?_ a ha
        refine W.seq fun K19 hK19 => ?_
        refine W.block ?_
        refine W.seq fun K20 hK20 => ?_
        refine W.region ?_
        obtain ⟨u21, hu21, hF⟩ := bindE hF
        refine wl_index (e := ty_56) Try.underlying43 rfl rfl rfl h1_0 hu21 ?_
        rintro p22 _ rfl hp23
        refine wl_load_p (vs := [(.int .i64 u21.1), (.string (mkS u21.2))]) (v := (.agg #[(.int .i64 u21.1), (.string (mkS u21.2))])) tf_56 rfl rfl (hp23.ro hB6) rfl rfl ?_
        refine wl_alloc (cs := [(.int .i64 0), (.string (mkS []))]) tf_56 rfl rfl hB6 hS7 ?_
        intro b24 w25 hb26 hB27 hS28
        refine wl_store_blk (i := 0) (vs := [(.int .i64 u21.1), (.string (mkS u21.2))]) (cs' := [(.int .i64 u21.1), (.string (mkS u21.2))]) tf_56 rfl rfl rfl rfl hB27 hS28 rfl rfl ⟨rfl, rfl, trivial⟩ rfl ?_
        intro w29 hk32 hB30 hS31
        refine WL.nil ?_
        refine fun a ha => hK20 _ _ ?_ a ha
        refine W.region ?_
        refine wl_move rfl rfl ?_
        refine wl_move rfl rfl ?_
        refine wl_field (o := 0) (off' := 0) ff_56_0 rfl rfl rfl ?_
        refine wl_load_blk (i := 0) (vs := [(.int .i64 u21.1)]) (v := (.int .i64 u21.1)) tf_3 rfl rfl hS31 rfl rfl rfl ?_
        obtain ⟨u33, hu33, hF⟩ := bindE hF
        refine wl_call rfl Try.call112 (C_spec_muTime w29 x0 v0_0 (h0_0.ro hB30) u21.1 _ hu33) rfl ?_
        rintro _ w34 ⟨rfl, hb35⟩
        refine ⟨_, rfl, ?_⟩
        have hB36 := hB30.trans (hb35.mono hB30.size)
        have hS37 := hS31.below hb35
        refine wl_lit (vs := [(.int .i64 u33)]) (l := [u33]) fl_3 Try.underlying23 rfl rfl rfl rfl rfl rfl hB36 hS37 ?_
        intro v39 F40 w41 hb42 hB43 hS44
        obtain ⟨u45, hu45, hF⟩ := bindE hF
        refine wl_append (i := 2) (S := (· < w41.heap.size)) fl_3 Try.underlying23 rfl rfl rfl hB43 hS44 rfl (hS44.own_ro (i := 0) rfl) hu45 ?_
        intro v46 F47 w48 hk49 hB50 hS51
        refine wl_assign rfl rfl ?_
        refine WL.nil ?_
        refine fun a ha => hK19 _ _ ?_ a ha
        refine W.region ?_
        refine wl_add rfl rfl rfl ?_
        refine wl_move rfl rfl ?_
        refine WL.nil ?_
        rw [hnx12] at hF
        exact fun a ha => hKL14 a _ m15 (Nat.lt_succ_self m15) ⟨u45, (w64 (y11 + 1)), v46, F47, ha.sub ⟨rfl, rfl, rfl, rfl, rfl, trivial⟩, hB50, (hS51.sel [2] rfl), hF⟩
      · replace hF := ifN h18 hF
        refine W.exit ?_
        refine fun a ha => hK3 _ _ ?_ a ha
        refine W.seq fun K52 hK52 => ?_
        refine W.region ?_
        refine wl_move rfl rfl ?_
        refine wl_assign rfl rfl ?_
        refine WL.nil ?_
        refine fun a ha => hK52 _ _ ?_ a ha
        refine W.ret ?_
        have hr := Option.some.inj hF
        subst hr
        exact rets (vs := [v9]) hQ rfl ⟨rv_tmp rfl, trivial⟩ ⟨v9, F10, rfl, hB6, hS7.sel [0] rfl⟩
theorem C_spec_LastCueAt (w0 : World) (x0 : (List (Int × Int))) (v0_0 : Value) (h0_0 : rdS ty_93 (· < w0.heap.size) w0 v0_0 x0) (x1 : (List (Int × (List UInt8)))) (v1_0 : Value) (h1_0 : rdS ty_56 (· < w0.heap.size) w0 v1_0 x1) (x2 : Int) (r : (Int × Bool)) (hF : F_spec_LastCueAt x0 x1 x2 = some r) :
    Calls Try.prog 24 [v0_0, v1_0, (.int .i64 x2)].toArray w0 fun e w' => e = .returned (.tuple #[(.int .i64 r.1), (.bool r.2)]) ∧ Below w0.heap.size w0 w' := by
  refine calls_mk' Try.func24 rfl Try.ntmps24 rfl rfl fun Q hQ hP => ?_
  have hB : Below w0.heap.size w0 w0 := Below.refl _ _
  have hS : Sep w0.heap.size w0 [] := Sep.nil _ _
  unfold F_spec_LastCueAt at hF
  refine W.seq fun K1 hK1 => ?_
  refine W.region ?_
  refine wl_assign rfl rfl ?_
  refine wl_assign rfl rfl ?_
  refine WL.nil ?_
  refine fun a ha => hK1 _ _ ?_ a ha
  refine W.seq fun K2 hK2 => ?_
  refine W.seq fun K3 hK3 => ?_
  obtain ⟨k8, hk8, hF⟩ := jE1 hF
  have hJ9 : ∀ (y7 : Bool) (w4 : World) (_ : k8 y7 = some r) (_ : Below w0.heap.size w0 w4) (_ : Sep w0.heap.size w4 []), ∀ a, St 37 [(0, v0_0), (1, v1_0), (2, (.int .i64 x2)), (19, (.bool y7))] a → K3 a w4 := by
    intro y7 w4 hF hB5 hS6
    subst hk8
    refine fun a ha => hK3 _ _ ?_ a ha
    refine W.cond rfl (fun h10 => ?_) (fun h10 => ?_)
    · replace hF := ifP h10 hF
      refine W.seq fun K11 hK11 => ?_
      refine W.region ?_
      refine wl_assign rfl rfl ?_
      refine wl_assign rfl rfl ?_
      refine WL.nil ?_
      refine fun a ha => hK11 _ _ ?_ a ha
      refine W.ret ?_
      have hr := Option.some.inj hF
      subst hr
      exact rets (vs := [(.int .i64 0), (.bool false)]) hQ rfl ⟨rv_tmp rfl, rv_tmp rfl, trivial⟩ ⟨rfl, hB5⟩
    · replace hF := ifN h10 hF
      refine W.skip ?_
      refine fun a ha => hK2 _ _ ?_ a ha
      refine W.seq fun K12 hK12 => ?_
      refine W.region ?_
      refine wl_assign rfl rfl ?_
      refine WL.nil ?_
      refine fun a ha => hK12 _ _ ?_ a ha
      refine W.seq fun K13 hK13 => ?_
      refine W.seq fun K14 hK14 => ?_
      refine W.region ?_
      refine wl_move rfl rfl ?_
      refine wl_move rfl rfl ?_
      obtain ⟨u15, hu15, hF⟩ := bindE hF
      refine wl_call rfl Try.call73 (C_spec_tiTimes w4 x0 v0_0 (h0_0.ro hB5) x1 v1_0 (h1_0.ro hB5) _ hu15) rfl ?_
      rintro _ w18 ⟨v16, F17, rfl, hb19, hM22⟩
      refine ⟨_, rfl, ?_⟩
      have hB20 := hB5.trans (hb19.mono hB5.size)
      have hS21 := hS6.join hb19 hM22 hB5.size
      refine wl_lenr (e := ty_3) (l := u15) Try.underlying23 rfl rfl (hS21.own_ro (i := 0) rfl) ?_
      refine wl_move rfl rfl ?_
      refine WL.nil ?_
      refine fun a ha => hK14 _ _ ?_ a ha
      refine W.block ?_
      refine W.loopk (fun m a w23 => ∃ (y26 : Int) (y27 : Int), St 37 [(2, (.int .i64 x2)), (8, (.int .i64 y26)), (22, v16), (23, (.int .i64 (List.length u15 : Int))), (24, (.int .i64 y27))] a ∧ Below w0.heap.size w0 w23 ∧ Sep w0.heap.size w23 [R.own ty_3 F17 v16 u15] ∧ F_spec_LastCueAt_L1 u15 x2 m y26 y27 = some r) FU ?_ ?_
      ·
        exact fun a ha => ⟨(-1), 0, ha.sub ⟨rfl, rfl, rfl, rfl, rfl, trivial⟩, hB20, (hS21.sel [0] rfl), hF⟩
      ·
        rintro m30 a w23 ⟨y26, y27, ha, hB24, hS25, hF⟩ KL29 hKL29
        refine W.at ?_ ha
        cases m30 with
        | zero => exact noneE hF
        | succ m30 =>
          obtain ⟨nx28, hnx28⟩ : ∃ k, k = F_spec_LastCueAt_L1 u15 x2 m30 := ⟨_, rfl⟩
          rw [F_spec_LastCueAt_L1, ← hnx28] at hF
          refine W.seq fun K31 hK31 => ?_
          refine W.region ?_
          refine wl_lss rfl rfl rfl ?_
          refine WL.nil ?_
          refine fun a ha => hK31 _ _ ?_ a ha
          refine W.seq fun K32 hK32 => ?_
          refine W.cond rfl (fun h33 => ?_) (fun h33 => ?_)
          · replace hF := ifP h33 hF
            refine W.skip ?_
            refine fun a ha => hK32 _ _ ?_ a ha
            refine W.seq fun K34 hK34 => ?_
            obtain ⟨k39, hk39, hF⟩ := jE1 hF
            have hJ40 : ∀ (y38 : Int) (w35 : World) (_ : k39 y38 = some r) (_ : Below w0.heap.size w0 w35) (_ : Sep w0.heap.size w35 [R.own ty_3 F17 v16 u15]), ∀ a, St 37 [(2, (.int .i64 x2)), (8, (.int .i64 y38)), (22, v16), (23, (.int .i64 (List.length u15 : Int))), (24, (.int .i64 y27))] a → K34 a w35 := by
              intro y38 w35 hF hB36 hS37
              subst hk39
              refine fun a ha => hK34 _ _ ?_ a ha
              refine W.region ?_
              refine wl_add rfl rfl rfl ?_
              refine wl_move rfl rfl ?_
              refine WL.nil ?_
              rw [hnx28] at hF
              exact fun a ha => hKL29 a _ m30 (Nat.lt_succ_self m30) ⟨y38, (w64 (y27 + 1)), ha.sub ⟨rfl, rfl, rfl, rfl, rfl, trivial⟩, hB36, (hS37.sel [0] rfl), hF⟩
            refine W.block ?_
            refine W.seq fun K41 hK41 => ?_
            refine W.region ?_
            refine wl_move rfl rfl ?_
            obtain ⟨u42, hu42, hF⟩ := bindE hF
            refine wl_indexo (e := ty_3) (i := 0) Try.underlying23 rfl rfl rfl hS25 rfl hu42 ?_
            rintro p43 _ rfl hp44 ho45
            refine wl_load_p (vs := [(.int .i64 u42)]) (v := (.int .i64 u42)) tf_3 rfl rfl hp44 rfl rfl ?_
            refine wl_assign rfl rfl ?_
            refine wl_assign rfl rfl ?_
            refine WL.nil ?_
            refine fun a ha => hK41 _ _ ?_ a ha
            refine W.seq fun K46 hK46 => ?_
            refine W.region ?_
            refine wl_move rfl rfl ?_
            refine wl_move rfl rfl ?_
            refine wl_leq rfl rfl rfl ?_
            refine WL.nil ?_
            refine fun a ha => hK46 _ _ ?_ a ha
            refine W.cond rfl (fun h47 => ?_) (fun h47 => ?_)
            · replace hF := ifP h47 hF
              refine W.region ?_
              refine wl_move rfl rfl ?_
              refine wl_assign rfl rfl ?_
              refine WL.nil ?_
              exact fun a ha => hJ40 (y27) _ hF hB24 (hS25.sel [0] rfl) a (ha.sub ⟨rfl, rfl, rfl, rfl, rfl, trivial⟩)
            · replace hF := ifN h47 hF
              refine W.skip ?_
              exact fun a ha => hJ40 (y26) _ hF hB24 (hS25.sel [0] rfl) a (ha.sub ⟨rfl, rfl, rfl, rfl, rfl, trivial⟩)
          · replace hF := ifN h33 hF
            refine W.exit ?_
            refine fun a ha => hK13 _ _ ?_ a ha
            refine W.seq fun K48 hK48 => ?_
            refine W.seq fun K49 hK49 => ?_
            refine W.region ?_
            refine wl_move rfl rfl ?_
            refine wl_lss rfl rfl rfl ?_
            refine WL.nil ?_
            refine fun a ha => hK49 _ _ ?_ a ha
            refine W.cond rfl (fun h50 => ?_) (fun h50 => ?_)
            · replace hF := ifP h50 hF
              refine W.seq fun K51 hK51 => ?_
              refine W.region ?_
              refine wl_assign rfl rfl ?_
              refine wl_assign rfl rfl ?_
              refine WL.nil ?_
              refine fun a ha => hK51 _ _ ?_ a ha
              refine W.ret ?_
              have hr := Option.some.inj hF
              subst hr
              exact rets (vs := [(.int .i64 0), (.bool false)]) hQ rfl ⟨rv_tmp rfl, rv_tmp rfl, trivial⟩ ⟨rfl, hB24⟩
            · replace hF := ifN h50 hF
              refine W.skip ?_
              refine fun a ha => hK48 _ _ ?_ a ha
              refine W.seq fun K52 hK52 => ?_
              refine W.region ?_
              refine wl_move rfl rfl ?_
              refine wl_assign rfl rfl ?_
              refine wl_assign rfl rfl ?_
              refine WL.nil ?_
              refine fun a ha => hK52 _ _ ?_ a ha
              refine W.ret ?_
              have hr := Option.some.inj hF
              subst hr
              exact rets (vs := [(.int .i64 y26), (.bool true)]) hQ rfl ⟨rv_tmp rfl, rv_tmp rfl, trivial⟩ ⟨rfl, hB24⟩
  refine W.region ?_
  refine wl_move rfl rfl ?_
  refine wl_move rfl rfl ?_
  obtain ⟨u53, hu53, hF⟩ := bindE hF
  refine wl_call rfl Try.call71 (C_spec_tiGood w0 x0 v0_0 (h0_0.ro hB) x1 v1_0 (h1_0.ro hB) _ hu53) rfl ?_
  rintro _ w54 ⟨rfl, hb55⟩
  refine ⟨_, rfl, ?_⟩
  have hB56 := hB.trans (hb55.mono hB.size)
  have hS57 := hS.below hb55
  refine wl_not rfl rfl ?_
  refine wl_move rfl rfl ?_
  rcases bE (!u53) with h59 | h59
  · replace hF := ifP h59 hF
    refine wl_off rfl rfl rfl h59 ?_
    refine wl_off rfl rfl rfl h59 ?_
    refine wl_off rfl rfl rfl h59 ?_
    refine wl_pick_t rfl rfl h59 rfl ?_
    refine WL.nil ?_
    exact fun a ha => hJ9 (true) _ hF hB56 (hS57.sel [] rfl) a (ha.sub ⟨rfl, rfl, rfl, rfl, trivial⟩)
  · replace hF := ifN h59 hF
    refine wl_on rfl rfl h59 ?_
    refine wl_move rfl rfl ?_
    refine wl_on rfl rfl h59 ?_
    obtain ⟨u60, hu60, hF⟩ := bindE hF
    refine wl_call rfl Try.call72 (C_spec_tiTime w54 x2 _ hu60) rfl ?_
    rintro _ w61 ⟨rfl, hb62⟩
    refine ⟨_, rfl, ?_⟩
    have hB63 := hB56.trans (hb62.mono hB56.size)
    have hS64 := hS57.below hb62
    refine wl_on rfl rfl h59 ?_
    refine wl_not rfl rfl ?_
    refine wl_pick_f rfl rfl h59 rfl ?_
    refine WL.nil ?_
    exact fun a ha => hJ9 ((!u60)) _ hF hB63 (hS64.sel [] rfl) a (ha.sub ⟨rfl, rfl, rfl, rfl, trivial⟩)
theorem C_impl_isTime (w0 : World) (x0 : Int) (r : Bool) (hF : F_impl_isTime x0 = some r) :
    Calls Try.prog 76 [(.int .i64 x0)].toArray w0 fun e w' => e = .returned (.bool r) ∧ Below w0.heap.size w0 w' := by
  refine calls_mk' Try.func76 rfl Try.ntmps76 rfl rfl fun Q hQ hP => ?_
  have hB : Below w0.heap.size w0 w0 := Below.refl _ _
  have hS : Sep w0.heap.size w0 [] := Sep.nil _ _
  unfold F_impl_isTime at hF
  refine W.seq fun K1 hK1 => ?_
  refine W.region ?_
  refine wl_assign rfl rfl ?_
  refine WL.nil ?_
  refine fun a ha => hK1 _ _ ?_ a ha
  refine W.seq fun K2 hK2 => ?_
  refine W.region ?_
  refine wl_move rfl rfl ?_
  obtain ⟨u3, hu3, hF⟩ := bindE hF
  refine wl_call rfl Try.call65 (C_impl_within w0 x0 0 1000000 _ hu3) rfl ?_
  rintro _ w4 ⟨rfl, hb5⟩
  refine ⟨_, rfl, ?_⟩
  have hB6 := hB.trans (hb5.mono hB.size)
  have hS7 := hS.below hb5
  refine wl_assign rfl rfl ?_
  refine WL.nil ?_
  refine fun a ha => hK2 _ _ ?_ a ha
  refine W.ret ?_
  have hr := Option.some.inj hF
  subst hr
  exact rets (vs := [(.bool u3)]) hQ rfl ⟨rv_tmp rfl, trivial⟩ ⟨rfl, hB6⟩
theorem C_impl_timeOf (w0 : World) (x0 : (List (Int × Int))) (v0_0 : Value) (h0_0 : rdS ty_93 (· < w0.heap.size) w0 v0_0 x0) (x1 : Int) (r : Int) (hF : F_impl_timeOf x0 x1 = some r) :
    Calls Try.prog 114 [v0_0, (.int .i64 x1)].toArray w0 fun e w' => e = .returned (.int .i64 r) ∧ Below w0.heap.size w0 w' := by
  refine calls_mk' Try.func114 rfl Try.ntmps114 rfl rfl fun Q hQ hP => ?_
  have hB : Below w0.heap.size w0 w0 := Below.refl _ _
  have hS : Sep w0.heap.size w0 [] := Sep.nil _ _
  unfold F_impl_timeOf at hF
  refine W.seq fun K1 hK1 => ?_
  refine W.region ?_
  refine wl_assign rfl rfl ?_
  refine WL.nil ?_
  refine fun a ha => hK1 _ _ ?_ a ha
  refine W.seq fun K2 hK2 => ?_
  refine W.region ?_
  refine wl_assign rfl rfl ?_
  refine WL.nil ?_
  refine fun a ha => hK2 _ _ ?_ a ha
  refine W.seq fun K3 hK3 => ?_
  refine W.seq fun K4 hK4 => ?_
  refine W.region ?_
  refine wl_move rfl rfl ?_
  refine wl_lenr (e := ty_93) (l := x0) Try.underlying41 rfl rfl h0_0 ?_
  refine wl_move rfl rfl ?_
  refine WL.nil ?_
  refine fun a ha => hK4 _ _ ?_ a ha
  refine W.block ?_
  refine W.loopk (fun m a w5 => ∃ (y8 : Int) (y9 : Int) (y10 : Int), St 39 [(1, (.int .i64 y8)), (5, (.int .i64 y9)), (8, v0_0), (9, (.int .i64 (List.length x0 : Int))), (10, (.int .i64 y10))] a ∧ Below w0.heap.size w0 w5 ∧ Sep w0.heap.size w5 [] ∧ F_impl_timeOf_L1 x0 m y8 y9 y10 = some r) FU ?_ ?_
  ·
    exact fun a ha => ⟨x1, 0, 0, ha.sub ⟨rfl, rfl, rfl, rfl, rfl, trivial⟩, hB, (hS.sel [] rfl), hF⟩
  ·
    rintro m13 a w5 ⟨y8, y9, y10, ha, hB6, hS7, hF⟩ KL12 hKL12
    refine W.at ?_ ha
    cases m13 with
    | zero => exact noneE hF
    | succ m13 =>
      obtain ⟨nx11, hnx11⟩ : ∃ k, k = F_impl_timeOf_L1 x0 m13 := ⟨_, rfl⟩
      rw [F_impl_timeOf_L1, ← hnx11] at hF
      refine W.seq fun K14 hK14 => ?_
      refine W.region ?_
      refine wl_lss rfl rfl rfl ?_
      refine WL.nil ?_
      refine fun a ha => hK14 _ _ ?_ a ha
      refine W.seq fun K15 hK15 => ?_
      refine W.cond rfl (fun h16 => ?_) (fun h16 => ?_)
      · replace hF := ifP h16 hF
        refine W.skip ?_
        refine fun a ha => hK15 _ _ ?_ a ha
        refine W.seq fun K17 hK17 => ?_
        refine W.block ?_
        refine W.seq fun K18 hK18 => ?_
        refine W.region ?_
        obtain ⟨u19, hu19, hF⟩ := bindE hF
        refine wl_index (e := ty_93) Try.underlying41 rfl rfl rfl h0_0 hu19 ?_
        rintro p20 _ rfl hp21
        refine wl_load_p (vs := [(.int .i64 u19.1), (.int .i64 u19.2)]) (v := (.agg #[(.int .i64 u19.1), (.int .i64 u19.2)])) tf_93 rfl rfl (hp21.ro hB6) rfl rfl ?_
        refine wl_alloc (cs := [(.int .i64 0), (.int .i64 0)]) tf_93 rfl rfl hB6 hS7 ?_
        intro b22 w23 hb24 hB25 hS26
        refine wl_store_blk (i := 0) (vs := [(.int .i64 u19.1), (.int .i64 u19.2)]) (cs' := [(.int .i64 u19.1), (.int .i64 u19.2)]) tf_93 rfl rfl rfl rfl hB25 hS26 rfl rfl ⟨rfl, rfl, trivial⟩ rfl ?_
        intro w27 hk30 hB28 hS29
        refine WL.nil ?_
        refine fun a ha => hK18 _ _ ?_ a ha
        refine W.seq fun K31 hK31 => ?_
        refine W.seq fun K32 hK32 => ?_
        refine W.region ?_
        refine wl_move rfl rfl ?_
        refine wl_field (o := 0) (off' := 0) ff_93_0 rfl rfl rfl ?_
        refine wl_load_blk (i := 0) (vs := [(.int .i64 u19.1)]) (v := (.int .i64 u19.1)) tf_3 rfl rfl hS29 rfl rfl rfl ?_
        refine wl_lss rfl rfl rfl ?_
        refine WL.nil ?_
        refine fun a ha => hK32 _ _ ?_ a ha
        refine W.cond rfl (fun h33 => ?_) (fun h33 => ?_)
        · replace hF := ifP h33 hF
          refine W.seq fun K34 hK34 => ?_
          refine W.region ?_
          refine wl_move rfl rfl ?_
          refine wl_move rfl rfl ?_
          refine wl_mul rfl rfl rfl ?_
          refine wl_field (o := 1) (off' := 1) ff_93_1 rfl rfl rfl ?_
          refine wl_load_blk (i := 0) (vs := [(.int .i64 u19.2)]) (v := (.int .i64 u19.2)) tf_3 rfl rfl hS29 rfl rfl rfl ?_
          have h35 : u19.2 ≠ 0 := fun h35 => noneE (ifP h35 hF)
          replace hF := ifNP h35 hF
          refine wl_quo rfl rfl rfl h35 ?_
          refine wl_add rfl rfl rfl ?_
          refine wl_assign rfl rfl ?_
          refine WL.nil ?_
          refine fun a ha => hK34 _ _ ?_ a ha
          refine W.ret ?_
          have hr := Option.some.inj hF
          subst hr
          exact rets (vs := [(.int .i64 (w64 (y9 + (w64 (Int.tdiv (w64 (60000 * y8)) u19.2)))))]) hQ rfl ⟨rv_tmp rfl, trivial⟩ ⟨rfl, hB28⟩
        · replace hF := ifN h33 hF
          refine W.skip ?_
          refine fun a ha => hK31 _ _ ?_ a ha
          refine W.seq fun K36 hK36 => ?_
          refine W.region ?_
          refine wl_move rfl rfl ?_
          refine wl_field (o := 0) (off' := 0) ff_93_0 rfl rfl rfl ?_
          refine wl_load_blk (i := 0) (vs := [(.int .i64 u19.1)]) (v := (.int .i64 u19.1)) tf_3 rfl rfl hS29 rfl rfl rfl ?_
          refine wl_mul rfl rfl rfl ?_
          refine wl_field (o := 1) (off' := 1) ff_93_1 rfl rfl rfl ?_
          refine wl_load_blk (i := 0) (vs := [(.int .i64 u19.2)]) (v := (.int .i64 u19.2)) tf_3 rfl rfl hS29 rfl rfl rfl ?_
          have h37 : u19.2 ≠ 0 := fun h37 => noneE (ifP h37 hF)
          replace hF := ifNP h37 hF
          refine wl_quo rfl rfl rfl h37 ?_
          refine wl_add rfl rfl rfl ?_
          refine wl_assign rfl rfl ?_
          refine WL.nil ?_
          refine fun a ha => hK36 _ _ ?_ a ha
          refine W.region ?_
          refine wl_move rfl rfl ?_
          refine wl_field (o := 0) (off' := 0) ff_93_0 rfl rfl rfl ?_
          refine wl_load_blk (i := 0) (vs := [(.int .i64 u19.1)]) (v := (.int .i64 u19.1)) tf_3 rfl rfl hS29 rfl rfl rfl ?_
          refine wl_sub rfl rfl rfl ?_
          refine wl_assign rfl rfl ?_
          refine WL.nil ?_
          refine fun a ha => hK17 _ _ ?_ a ha
          refine W.region ?_
          refine wl_add rfl rfl rfl ?_
          refine wl_move rfl rfl ?_
          refine WL.nil ?_
          rw [hnx11] at hF
          exact fun a ha => hKL12 a _ m13 (Nat.lt_succ_self m13) ⟨(w64 (y8 - u19.1)), (w64 (y9 + (w64 (Int.tdiv (w64 (60000 * u19.1)) u19.2)))), (w64 (y10 + 1)), ha.sub ⟨rfl, rfl, rfl, rfl, rfl, trivial⟩, hB28, (hS29.sel [] rfl), hF⟩
      · replace hF := ifN h16 hF
        refine W.exit ?_
        refine fun a ha => hK3 _ _ ?_ a ha
        refine W.seq fun K38 hK38 => ?_
        refine W.region ?_
        refine wl_move rfl rfl ?_
        refine wl_assign rfl rfl ?_
        refine WL.nil ?_
        refine fun a ha => hK38 _ _ ?_ a ha
        refine W.ret ?_
        have hr := Option.some.inj hF
        subst hr
        exact rets (vs := [(.int .i64 y9)]) hQ rfl ⟨rv_tmp rfl, trivial⟩ ⟨rfl, hB6⟩
theorem C_impl_cueTimes (w0 : World) (x0 : (List (Int × Int))) (v0_0 : Value) (h0_0 : rdS ty_93 (· < w0.heap.size) w0 v0_0 x0) (x1 : (List (Int × (List UInt8)))) (v1_0 : Value) (h1_0 : rdS ty_56 (· < w0.heap.size) w0 v1_0 x1) (r : (List Int)) (hF : F_impl_cueTimes x0 x1 = some r) :
    Calls Try.prog 77 [v0_0, v1_0].toArray w0 fun e w' => ∃ (q0 : Value) (G0 : List Nat), e = .returned q0 ∧ Below w0.heap.size w0 w' ∧ Sep w0.heap.size w' [R.own ty_3 G0 q0 r] := by
  refine calls_mk' Try.func77 rfl Try.ntmps77 rfl rfl fun Q hQ hP => ?_
  have hB : Below w0.heap.size w0 w0 := Below.refl _ _
  have hS : Sep w0.heap.size w0 [] := Sep.nil _ _
  unfold F_impl_cueTimes at hF
  refine W.seq fun K1 hK1 => ?_
  refine W.region ?_
  refine wl_assign rfl rfl ?_
  refine WL.nil ?_
  refine fun a ha => hK1 _ _ ?_ a ha
  refine W.seq fun K2 hK2 => ?_
  refine W.region ?_
  refine wl_lit (vs := []) (l := []) fl_3 Try.underlying23 rfl rfl rfl rfl rfl rfl hB hS ?_
  intro v3 F4 w5 hb6 hB7 hS8
  refine wl_assign rfl rfl ?_
  refine WL.nil ?_
  refine fun a ha => hK2 _ _ ?_ a ha
  refine W.seq fun K9 hK9 => ?_
  refine W.seq fun K10 hK10 => ?_
  refine W.region ?_
  refine wl_move rfl rfl ?_
  refine wl_lenr (e := ty_56) (l := x1) Try.underlying43 rfl rfl h1_0 ?_
  refine wl_move rfl rfl ?_
  refine WL.nil ?_
  refine fun a ha => hK10 _ _ ?_ a ha
  refine W.block ?_
  refine W.loopk (fun m a w11 => ∃ (l14 : (List Int)) (y17 : Int) (v15 : Value) (F16 : List Nat), St 24 [(0, v0_0), (5, v15), (9, v1_0), (10, (.int .i64 (List.length x1 : Int))), (11, (.int .i64 y17))] a ∧ Below w0.heap.size w0 w11 ∧ Sep w0.heap.size w11 [R.own ty_3 F16 v15 l14] ∧ F_impl_cueTimes_L1 x1 x0 m l14 y17 = some r) FU ?_ ?_
  ·
    exact fun a ha => ⟨[], 0, v3, F4, ha.sub ⟨rfl, rfl, rfl, rfl, rfl, trivial⟩, hB7, (hS8.sel [0] rfl), hF⟩
  ·
    rintro m20 a w11 ⟨l14, y17, v15, F16, ha, hB12, hS13, hF⟩ KL19 hKL19
    refine W.at ?_ ha
    cases m20 with
    | zero => exact noneE hF
    | succ m20 =>
      obtain ⟨nx18, hnx18⟩ : ∃ k, k = F_impl_cueTimes_L1 x1 x0 m20 := ⟨_, rfl⟩
      rw [F_impl_cueTimes_L1, ← hnx18] at hF
      refine W.seq fun K21 hK21 => ?_
      refine W.region ?_
      refine wl_lss rfl rfl rfl ?_
      refine WL.nil ?_
      refine fun a ha => hK21 _ _ ?_ a ha
      refine W.seq fun K22 hK22 => ?_
      refine W.cond rfl (fun h23 => ?_) (fun h23 => ?_)
      · replace hF := ifP h23 hF
        refine W.skip ?_
        refine fun a ha => hK22 _ _ ?_ a ha
        refine W.seq fun K24 hK24 => ?_
        refine W.block ?_
        refine W.seq fun K25 hK25 => ?_
        refine W.region ?_
        obtain ⟨u26, hu26, hF⟩ := bindE hF
        refine wl_index (e := ty_56) Try.underlying43 rfl rfl rfl h1_0 hu26 ?_
        rintro p27 _ rfl hp28
        refine wl_load_p (vs := [(.int .i64 u26.1), (.string (mkS u26.2))]) (v := (.agg #[(.int .i64 u26.1), (.string (mkS u26.2))])) tf_56 rfl rfl (hp28.ro hB12) rfl rfl ?_
        refine wl_alloc (cs := [(.int .i64 0), (.string (mkS []))]) tf_56 rfl rfl hB12 hS13 ?_
        intro b29 w30 hb31 hB32 hS33
        refine wl_store_blk (i := 0) (vs := [(.int .i64 u26.1), (.string (mkS u26.2))]) (cs' := [(.int .i64 u26.1), (.string (mkS u26.2))]) tf_56 rfl rfl rfl rfl hB32 hS33 rfl rfl ⟨rfl, rfl, trivial⟩ rfl ?_
        intro w34 hk37 hB35 hS36
        refine WL.nil ?_
        refine fun a ha => hK25 _ _ ?_ a ha
        refine W.region ?_
        refine wl_move rfl rfl ?_
        refine wl_move rfl rfl ?_
        refine wl_field (o := 0) (off' := 0) ff_56_0 rfl rfl rfl ?_
        refine wl_load_blk (i := 0) (vs := [(.int .i64 u26.1)]) (v := (.int .i64 u26.1)) tf_3 rfl rfl hS36 rfl rfl rfl ?_
        obtain ⟨u38, hu38, hF⟩ := bindE hF
        refine wl_call rfl Try.call114 (C_impl_timeOf w34 x0 v0_0 (h0_0.ro hB35) u26.1 _ hu38) rfl ?_
        rintro _ w39 ⟨rfl, hb40⟩
        refine ⟨_, rfl, ?_⟩
        have hB41 := hB35.trans (hb40.mono hB35.size)
        have hS42 := hS36.below hb40
        refine wl_lit (vs := [(.int .i64 u38)]) (l := [u38]) fl_3 Try.underlying23 rfl rfl rfl rfl rfl rfl hB41 hS42 ?_
        intro v44 F45 w46 hb47 hB48 hS49
        obtain ⟨u50, hu50, hF⟩ := bindE hF
        refine wl_append (i := 2) (S := (· < w46.heap.size)) fl_3 Try.underlying23 rfl rfl rfl hB48 hS49 rfl (hS49.own_ro (i := 0) rfl) hu50 ?_
        intro v51 F52 w53 hk54 hB55 hS56
        refine wl_assign rfl rfl ?_
        refine WL.nil ?_
        refine fun a ha => hK24 _ _ ?_ a ha
        refine W.region ?_
        refine wl_add rfl rfl rfl ?_
        refine wl_move rfl rfl ?_
        refine WL.nil ?_
        rw [hnx18] at hF
        exact fun a ha => hKL19 a _ m20 (Nat.lt_succ_self m20) ⟨u50, (w64 (y17 + 1)), v51, F52, ha.sub ⟨rfl, rfl, rfl, rfl, rfl, trivial⟩, hB55, (hS56.sel [2] rfl), hF⟩
      · replace hF := ifN h23 hF
        refine W.exit ?_
        refine fun a ha => hK9 _ _ ?_ a ha
        refine W.seq fun K57 hK57 => ?_
        refine W.region ?_
        refine wl_move rfl rfl ?_
        refine wl_assign rfl rfl ?_
        refine WL.nil ?_
        refine fun a ha => hK57 _ _ ?_ a ha
        refine W.ret ?_
        have hr := Option.some.inj hF
        subst hr
        exact rets (vs := [v15]) hQ rfl ⟨rv_tmp rfl, trivial⟩ ⟨v15, F16, rfl, hB12, hS13.sel [0] rfl⟩
theorem C_impl_LastCueAt (w0 : World) (x0 : (List (Int × Int))) (v0_0 : Value) (h0_0 : rdS ty_93 (· < w0.heap.size) w0 v0_0 x0) (x1 : (List (Int × (List UInt8)))) (v1_0 : Value) (h1_0 : rdS ty_56 (· < w0.heap.size) w0 v1_0 x1) (x2 : Int) (r : (Int × Bool)) (hF : F_impl_LastCueAt x0 x1 x2 = some r) :
    Calls Try.prog 27 [v0_0, v1_0, (.int .i64 x2)].toArray w0 fun e w' => e = .returned (.tuple #[(.int .i64 r.1), (.bool r.2)]) ∧ Below w0.heap.size w0 w' := by
  refine calls_mk' Try.func27 rfl Try.ntmps27 rfl rfl fun Q hQ hP => ?_
  have hB : Below w0.heap.size w0 w0 := Below.refl _ _
  have hS : Sep w0.heap.size w0 [] := Sep.nil _ _
  unfold F_impl_LastCueAt at hF
  refine W.seq fun K1 hK1 => ?_
  refine W.region ?_
  refine wl_assign rfl rfl ?_
  refine wl_assign rfl rfl ?_
  refine WL.nil ?_
  refine fun a ha => hK1 _ _ ?_ a ha
  refine W.seq fun K2 hK2 => ?_
  refine W.seq fun K3 hK3 => ?_
  obtain ⟨k8, hk8, hF⟩ := jE1 hF
  have hJ9 : ∀ (y7 : Bool) (w4 : World) (_ : k8 y7 = some r) (_ : Below w0.heap.size w0 w4) (_ : Sep w0.heap.size w4 []), ∀ a, St 37 [(0, v0_0), (1, v1_0), (2, (.int .i64 x2)), (19, (.bool y7))] a → K3 a w4 := by
    intro y7 w4 hF hB5 hS6
    subst hk8
    refine fun a ha => hK3 _ _ ?_ a ha
    refine W.cond rfl (fun h10 => ?_) (fun h10 => ?_)
    · replace hF := ifP h10 hF
      refine W.seq fun K11 hK11 => ?_
      refine W.region ?_
      refine wl_assign rfl rfl ?_
      refine wl_assign rfl rfl ?_
      refine WL.nil ?_
      refine fun a ha => hK11 _ _ ?_ a ha
      refine W.ret ?_
      have hr := Option.some.inj hF
      subst hr
      exact rets (vs := [(.int .i64 0), (.bool false)]) hQ rfl ⟨rv_tmp rfl, rv_tmp rfl, trivial⟩ ⟨rfl, hB5⟩
    · replace hF := ifN h10 hF
      refine W.skip ?_
      refine fun a ha => hK2 _ _ ?_ a ha
      refine W.seq fun K12 hK12 => ?_
      refine W.region ?_
      refine wl_assign rfl rfl ?_
      refine WL.nil ?_
      refine fun a ha => hK12 _ _ ?_ a ha
      refine W.seq fun K13 hK13 => ?_
      refine W.seq fun K14 hK14 => ?_
      refine W.region ?_
      refine wl_move rfl rfl ?_
      refine wl_move rfl rfl ?_
      obtain ⟨u15, hu15, hF⟩ := bindE hF
      refine wl_call rfl Try.call77 (C_impl_cueTimes w4 x0 v0_0 (h0_0.ro hB5) x1 v1_0 (h1_0.ro hB5) _ hu15) rfl ?_
      rintro _ w18 ⟨v16, F17, rfl, hb19, hM22⟩
      refine ⟨_, rfl, ?_⟩
      have hB20 := hB5.trans (hb19.mono hB5.size)
      have hS21 := hS6.join hb19 hM22 hB5.size
      refine wl_lenr (e := ty_3) (l := u15) Try.underlying23 rfl rfl (hS21.own_ro (i := 0) rfl) ?_
      refine wl_move rfl rfl ?_
      refine WL.nil ?_
      refine fun a ha => hK14 _ _ ?_ a ha
      refine W.block ?_
      refine W.loopk (fun m a w23 => ∃ (y26 : Int) (y27 : Int), St 37 [(2, (.int .i64 x2)), (8, (.int .i64 y26)), (22, v16), (23, (.int .i64 (List.length u15 : Int))), (24, (.int .i64 y27))] a ∧ Below w0.heap.size w0 w23 ∧ Sep w0.heap.size w23 [R.own ty_3 F17 v16 u15] ∧ F_impl_LastCueAt_L1 u15 x2 m y26 y27 = some r) FU ?_ ?_
      ·
        exact fun a ha => ⟨(-1), 0, ha.sub ⟨rfl, rfl, rfl, rfl, rfl, trivial⟩, hB20, (hS21.sel [0] rfl), hF⟩
      ·
        rintro m30 a w23 ⟨y26, y27, ha, hB24, hS25, hF⟩ KL29 hKL29
        refine W.at ?_ ha
        cases m30 with
        | zero => exact noneE hF
        | succ m30 =>
          obtain ⟨nx28, hnx28⟩ : ∃ k, k = F_impl_LastCueAt_L1 u15 x2 m30 := ⟨_, rfl⟩
          rw [F_impl_LastCueAt_L1, ← hnx28] at hF
          refine W.seq fun K31 hK31 => ?_
          refine W.region ?_
          refine wl_lss rfl rfl rfl ?_
          refine WL.nil ?_
          refine fun a ha => hK31 _ _ ?_ a ha
          refine W.seq fun K32 hK32 => ?_
          refine W.cond rfl (fun h33 => ?_) (fun h33 => ?_)
          · replace hF := ifP h33 hF
            refine W.skip ?_
            refine fun a ha => hK32 _ _ ?_ a ha
            refine W.seq fun K34 hK34 => ?_
            obtain ⟨k39, hk39, hF⟩ := jE1 hF
            have hJ40 : ∀ (y38 : Int) (w35 : World) (_ : k39 y38 = some r) (_ : Below w0.heap.size w0 w35) (_ : Sep w0.heap.size w35 [R.own ty_3 F17 v16 u15]), ∀ a, St 37 [(2, (.int .i64 x2)), (8, (.int .i64 y38)), (22, v16), (23, (.int .i64 (List.length u15 : Int))), (24, (.int .i64 y27))] a → K34 a w35 := by
              intro y38 w35 hF hB36 hS37
              subst hk39
              refine fun a ha => hK34 _ _ ?_ a ha
              refine W.region ?_
              refine wl_add rfl rfl rfl ?_
              refine wl_move rfl rfl ?_
              refine WL.nil ?_
              rw [hnx28] at hF
              exact fun a ha => hKL29 a _ m30 (Nat.lt_succ_self m30) ⟨y38, (w64 (y27 + 1)), ha.sub ⟨rfl, rfl, rfl, rfl, rfl, trivial⟩, hB36, (hS37.sel [0] rfl), hF⟩
            refine W.block ?_
            refine W.seq fun K41 hK41 => ?_
            refine W.region ?_
            refine wl_move rfl rfl ?_
            obtain ⟨u42, hu42, hF⟩ := bindE hF
            refine wl_indexo (e := ty_3) (i := 0) Try.underlying23 rfl rfl rfl hS25 rfl hu42 ?_
            rintro p43 _ rfl hp44 ho45
            refine wl_load_p (vs := [(.int .i64 u42)]) (v := (.int .i64 u42)) tf_3 rfl rfl hp44 rfl rfl ?_
            refine wl_assign rfl rfl ?_
            refine wl_assign rfl rfl ?_
            refine WL.nil ?_
            refine fun a ha => hK41 _ _ ?_ a ha
            refine W.seq fun K46 hK46 => ?_
            refine W.region ?_
            refine wl_move rfl rfl ?_
            refine wl_move rfl rfl ?_
            refine wl_leq rfl rfl rfl ?_
            refine WL.nil ?_
            refine fun a ha => hK46 _ _ ?_ a ha
            refine W.cond rfl (fun h47 => ?_) (fun h47 => ?_)
            · replace hF := ifP h47 hF
              refine W.region ?_
              refine wl_move rfl rfl ?_
              refine wl_assign rfl rfl ?_
              refine WL.nil ?_
              exact fun a ha => hJ40 (y27) _ hF hB24 (hS25.sel [0] rfl) a (ha.sub ⟨rfl, rfl, rfl, rfl, rfl, trivial⟩)
            · replace hF := ifN h47 hF
              refine W.skip ?_
              exact fun a ha => hJ40 (y26) _ hF hB24 (hS25.sel [0] rfl) a (ha.sub ⟨rfl, rfl, rfl, rfl, rfl, trivial⟩)
          · replace hF := ifN h33 hF
            refine W.exit ?_
            refine fun a ha => hK13 _ _ ?_ a ha
            refine W.seq fun K48 hK48 => ?_
            refine W.seq fun K49 hK49 => ?_
            refine W.region ?_
            refine wl_move rfl rfl ?_
            refine wl_lss rfl rfl rfl ?_
            refine WL.nil ?_
            refine fun a ha => hK49 _ _ ?_ a ha
            refine W.cond rfl (fun h50 => ?_) (fun h50 => ?_)
            · replace hF := ifP h50 hF
              refine W.seq fun K51 hK51 => ?_
              refine W.region ?_
              refine wl_assign rfl rfl ?_
              refine wl_assign rfl rfl ?_
              refine WL.nil ?_
              refine fun a ha => hK51 _ _ ?_ a ha
              refine W.ret ?_
              have hr := Option.some.inj hF
              subst hr
              exact rets (vs := [(.int .i64 0), (.bool false)]) hQ rfl ⟨rv_tmp rfl, rv_tmp rfl, trivial⟩ ⟨rfl, hB24⟩
            · replace hF := ifN h50 hF
              refine W.skip ?_
              refine fun a ha => hK48 _ _ ?_ a ha
              refine W.seq fun K52 hK52 => ?_
              refine W.region ?_
              refine wl_move rfl rfl ?_
              refine wl_assign rfl rfl ?_
              refine wl_assign rfl rfl ?_
              refine WL.nil ?_
              refine fun a ha => hK52 _ _ ?_ a ha
              refine W.ret ?_
              have hr := Option.some.inj hF
              subst hr
              exact rets (vs := [(.int .i64 y26), (.bool true)]) hQ rfl ⟨rv_tmp rfl, rv_tmp rfl, trivial⟩ ⟨rfl, hB24⟩
  refine W.region ?_
  refine wl_move rfl rfl ?_
  refine wl_move rfl rfl ?_
  obtain ⟨u53, hu53, hF⟩ := bindE hF
  refine wl_call rfl Try.call75 (C_impl_haveCues w0 x0 v0_0 (h0_0.ro hB) x1 v1_0 (h1_0.ro hB) _ hu53) rfl ?_
  rintro _ w54 ⟨rfl, hb55⟩
  refine ⟨_, rfl, ?_⟩
  have hB56 := hB.trans (hb55.mono hB.size)
  have hS57 := hS.below hb55
  refine wl_not rfl rfl ?_
  refine wl_move rfl rfl ?_
  rcases bE (!u53) with h59 | h59
  · replace hF := ifP h59 hF
    refine wl_off rfl rfl rfl h59 ?_
    refine wl_off rfl rfl rfl h59 ?_
    refine wl_off rfl rfl rfl h59 ?_
    refine wl_pick_t rfl rfl h59 rfl ?_
    refine WL.nil ?_
    exact fun a ha => hJ9 (true) _ hF hB56 (hS57.sel [] rfl) a (ha.sub ⟨rfl, rfl, rfl, rfl, trivial⟩)
  · replace hF := ifN h59 hF
    refine wl_on rfl rfl h59 ?_
    refine wl_move rfl rfl ?_
    refine wl_on rfl rfl h59 ?_
    obtain ⟨u60, hu60, hF⟩ := bindE hF
    refine wl_call rfl Try.call76 (C_impl_isTime w54 x2 _ hu60) rfl ?_
    rintro _ w61 ⟨rfl, hb62⟩
    refine ⟨_, rfl, ?_⟩
    have hB63 := hB56.trans (hb62.mono hB56.size)
    have hS64 := hS57.below hb62
    refine wl_on rfl rfl h59 ?_
    refine wl_not rfl rfl ?_
    refine wl_pick_f rfl rfl h59 rfl ?_
    refine WL.nil ?_
    exact fun a ha => hJ9 ((!u60)) _ hF hB63 (hS64.sel [] rfl) a (ha.sub ⟨rfl, rfl, rfl, rfl, trivial⟩)
theorem C_laws_FnExactLastCueAt (w0 : World) (x0 : (List (Int × Int))) (v0_0 : Value) (h0_0 : rdS ty_95 (· < w0.heap.size) w0 v0_0 x0) (x1 : (List (Int × (List UInt8)))) (v1_0 : Value) (h1_0 : rdS ty_53 (· < w0.heap.size) w0 v1_0 x1) (x2 : Int) (r : Bool) (hF : F_laws_FnExactLastCueAt x0 x1 x2 = some r) :
    Calls Try.prog 5 [v0_0, v1_0, (.int .i64 x2)].toArray w0 fun e w' => e = .returned (.bool r) ∧ Below w0.heap.size w0 w' := by
  refine calls_mk' Try.func5 rfl Try.ntmps5 rfl rfl fun Q hQ hP => ?_
  have hB : Below w0.heap.size w0 w0 := Below.refl _ _
  have hS : Sep w0.heap.size w0 [] := Sep.nil _ _
  unfold F_laws_FnExactLastCueAt at hF
  refine W.seq fun K1 hK1 => ?_
  refine W.region ?_
  refine wl_assign rfl rfl ?_
  refine WL.nil ?_
  refine fun a ha => hK1 _ _ ?_ a ha
  refine W.seq fun K2 hK2 => ?_
  refine W.region ?_
  refine wl_assign rfl rfl ?_
  refine WL.nil ?_
  refine fun a ha => hK2 _ _ ?_ a ha
  refine W.seq fun K3 hK3 => ?_
  refine W.region ?_
  refine wl_move rfl rfl ?_
  refine wl_move rfl rfl ?_
  obtain ⟨u4, hu4, hF⟩ := bindE hF
  refine wl_call rfl Try.call22 (C_laws_szMeasureS w0 x0 v0_0 (h0_0.ro hB) 1048576 _ hu4) rfl ?_
  rintro _ w5 ⟨rfl, hb6⟩
  refine ⟨_, rfl, ?_⟩
  have hB7 := hB.trans (hb6.mono hB.size)
  have hS8 := hS.below hb6
  refine wl_assign rfl rfl ?_
  refine WL.nil ?_
  refine fun a ha => hK3 _ _ ?_ a ha
  refine W.seq fun K10 hK10 => ?_
  refine W.seq fun K11 hK11 => ?_
  refine W.region ?_
  refine wl_move rfl rfl ?_
  refine wl_lss rfl rfl rfl ?_
  refine WL.nil ?_
  refine fun a ha => hK11 _ _ ?_ a ha
  refine W.cond rfl (fun h12 => ?_) (fun h12 => ?_)
  · replace hF := ifP h12 hF
    refine W.seq fun K13 hK13 => ?_
    refine W.region ?_
    refine wl_assign rfl rfl ?_
    refine WL.nil ?_
    refine fun a ha => hK13 _ _ ?_ a ha
    refine W.ret ?_
    have hr := Option.some.inj hF
    subst hr
    exact rets (vs := [(.bool true)]) hQ rfl ⟨rv_tmp rfl, trivial⟩ ⟨rfl, hB7⟩
  · replace hF := ifN h12 hF
    refine W.skip ?_
    refine fun a ha => hK10 _ _ ?_ a ha
    refine W.seq fun K14 hK14 => ?_
    refine W.region ?_
    refine wl_move rfl rfl ?_
    refine wl_move rfl rfl ?_
    obtain ⟨u15, hu15, hF⟩ := bindE hF
    refine wl_call rfl Try.call23 (C_laws_szCueS w5 x1 v1_0 (h1_0.ro hB7) u4 _ hu15) rfl ?_
    rintro _ w16 ⟨rfl, hb17⟩
    refine ⟨_, rfl, ?_⟩
    have hB18 := hB7.trans (hb17.mono hB7.size)
    have hS19 := hS8.below hb17
    refine wl_assign rfl rfl ?_
    refine WL.nil ?_
    refine fun a ha => hK14 _ _ ?_ a ha
    refine W.seq fun K21 hK21 => ?_
    refine W.seq fun K22 hK22 => ?_
    refine W.region ?_
    refine wl_move rfl rfl ?_
    refine wl_lss rfl rfl rfl ?_
    refine WL.nil ?_
    refine fun a ha => hK22 _ _ ?_ a ha
    refine W.cond rfl (fun h23 => ?_) (fun h23 => ?_)
    · replace hF := ifP h23 hF
      refine W.seq fun K24 hK24 => ?_
      refine W.region ?_
      refine wl_assign rfl rfl ?_
      refine WL.nil ?_
      refine fun a ha => hK24 _ _ ?_ a ha
      refine W.ret ?_
      have hr := Option.some.inj hF
      subst hr
      exact rets (vs := [(.bool true)]) hQ rfl ⟨rv_tmp rfl, trivial⟩ ⟨rfl, hB18⟩
    · replace hF := ifN h23 hF
      refine W.skip ?_
      refine fun a ha => hK21 _ _ ?_ a ha
      refine W.seq fun K25 hK25 => ?_
      refine W.region ?_
      refine wl_move rfl rfl ?_
      obtain ⟨u26, hu26, hF⟩ := bindE hF
      refine wl_call rfl Try.call25 (C_laws_toMeasureS w16 x0 v0_0 (h0_0.ro hB18) _ hu26) rfl ?_
      rintro _ w29 ⟨v27, F28, rfl, hb30, hM33⟩
      refine ⟨_, rfl, ?_⟩
      have hB31 := hB18.trans (hb30.mono hB18.size)
      have hS32 := hS19.join hb30 hM33 hB18.size
      refine wl_move rfl rfl ?_
      obtain ⟨u34, hu34, hF⟩ := bindE hF
      refine wl_call rfl Try.call26 (C_laws_toCueS w29 x1 v1_0 (h1_0.ro hB31) _ hu34) rfl ?_
      rintro _ w37 ⟨v35, F36, rfl, hb38, hM41⟩
      refine ⟨_, rfl, ?_⟩
      have hB39 := hB31.trans (hb38.mono hB31.size)
      have hS40 := hS32.join hb38 hM41 hB31.size
      refine wl_move rfl rfl ?_
      obtain ⟨u42, hu42, hF⟩ := bindE hF
      refine wl_call rfl Try.call24 (C_spec_LastCueAt w37 u26 v27 (hS40.own_ro (i := 1) rfl) u34 v35 (hS40.own_ro (i := 0) rfl) x2 _ hu42) rfl ?_
      rintro _ w43 ⟨rfl, hb44⟩
      refine ⟨_, rfl, ?_⟩
      have hB45 := hB39.trans (hb44.mono hB39.size)
      have hS46 := hS40.below hb44
      refine wl_move rfl rfl ?_
      refine wl_extract rfl rfl rfl ?_
      refine wl_extract rfl rfl rfl ?_
      refine wl_assign rfl rfl ?_
      refine wl_assign rfl rfl ?_
      refine WL.nil ?_
      refine fun a ha => hK25 _ _ ?_ a ha
      refine W.seq fun K48 hK48 => ?_
      refine W.region ?_
      refine wl_move rfl rfl ?_
      obtain ⟨u49, hu49, hF⟩ := bindE hF
      refine wl_call rfl Try.call25 (C_laws_toMeasureS w43 x0 v0_0 (h0_0.ro hB45) _ hu49) rfl ?_
      rintro _ w52 ⟨v50, F51, rfl, hb53, hM56⟩
      refine ⟨_, rfl, ?_⟩
      have hB54 := hB45.trans (hb53.mono hB45.size)
      have hS55 := hS46.join hb53 hM56 hB45.size
      refine wl_assign rfl rfl ?_
      refine WL.nil ?_
      refine fun a ha => hK48 _ _ ?_ a ha
      refine W.seq fun K57 hK57 => ?_
      refine W.region ?_
      refine wl_move rfl rfl ?_
      obtain ⟨u58, hu58, hF⟩ := bindE hF
      refine wl_call rfl Try.call26 (C_laws_toCueS w52 x1 v1_0 (h1_0.ro hB54) _ hu58) rfl ?_
      rintro _ w61 ⟨v59, F60, rfl, hb62, hM65⟩
      refine ⟨_, rfl, ?_⟩
      have hB63 := hB54.trans (hb62.mono hB54.size)
      have hS64 := hS55.join hb62 hM65 hB54.size
      refine wl_assign rfl rfl ?_
      refine WL.nil ?_
      refine fun a ha => hK57 _ _ ?_ a ha
      refine W.seq fun K66 hK66 => ?_
      refine W.region ?_
      refine wl_move rfl rfl ?_
      refine wl_move rfl rfl ?_
      refine wl_move rfl rfl ?_
      obtain ⟨u67, hu67, hF⟩ := bindE hF
      refine wl_call rfl Try.call27 (C_impl_LastCueAt w61 u49 v50 (hS64.own_ro (i := 1) rfl) u58 v59 (hS64.own_ro (i := 0) rfl) x2 _ hu67) rfl ?_
      rintro _ w68 ⟨rfl, hb69⟩
      refine ⟨_, rfl, ?_⟩
      have hB70 := hB63.trans (hb69.mono hB63.size)
      have hS71 := hS64.below hb69
      refine wl_move rfl rfl ?_
      refine wl_extract rfl rfl rfl ?_
      refine wl_extract rfl rfl rfl ?_
      refine wl_assign rfl rfl ?_
      refine wl_assign rfl rfl ?_
      refine WL.nil ?_
      refine fun a ha => hK66 _ _ ?_ a ha
      refine W.seq fun K73 hK73 => ?_
      refine W.seq fun K74 hK74 => ?_
      obtain ⟨k79, hk79, hF⟩ := jE1 hF
      have hJ80 : ∀ (y78 : Bool) (w75 : World) (_ : k79 y78 = some r) (_ : Below w0.heap.size w0 w75) (_ : Sep w0.heap.size w75 [R.own ty_93 F51 v50 u49, R.own ty_56 F60 v59 u58]), ∀ a, St 62 [(0, v0_0), (1, v1_0), (10, v50), (11, v59), (51, (.bool y78))] a → K74 a w75 := by
        intro y78 w75 hF hB76 hS77
        subst hk79
        refine fun a ha => hK74 _ _ ?_ a ha
        refine W.cond rfl (fun h81 => ?_) (fun h81 => ?_)
        · replace hF := ifP h81 hF
          refine W.seq fun K82 hK82 => ?_
          refine W.region ?_
          refine wl_assign rfl rfl ?_
          refine WL.nil ?_
          refine fun a ha => hK82 _ _ ?_ a ha
          refine W.ret ?_
          have hr := Option.some.inj hF
          subst hr
          exact rets (vs := [(.bool false)]) hQ rfl ⟨rv_tmp rfl, trivial⟩ ⟨rfl, hB76⟩
        · replace hF := ifN h81 hF
          refine W.skip ?_
          refine fun a ha => hK73 _ _ ?_ a ha
          refine W.seq fun K83 hK83 => ?_
          refine W.seq fun K84 hK84 => ?_
          refine W.region ?_
          refine wl_move rfl rfl ?_
          refine wl_move rfl rfl ?_
          obtain ⟨u85, hu85, hF⟩ := bindE hF
          refine wl_call rfl Try.call25 (C_laws_toMeasureS w75 x0 v0_0 (h0_0.ro hB76) _ hu85) rfl ?_
          rintro _ w88 ⟨v86, F87, rfl, hb89, hM92⟩
          refine ⟨_, rfl, ?_⟩
          have hB90 := hB76.trans (hb89.mono hB76.size)
          have hS91 := hS77.join hb89 hM92 hB76.size
          obtain ⟨u93, hu93, hF⟩ := bindE hF
          refine wl_call rfl Try.call28 (C_laws_eqMeasureS w88 u49 v50 (hS91.own_ro (i := 1) rfl) u85 v86 (hS91.own_ro (i := 0) rfl) _ hu93) rfl ?_
          rintro _ w94 ⟨rfl, hb95⟩
          refine ⟨_, rfl, ?_⟩
          have hB96 := hB90.trans (hb95.mono hB90.size)
          have hS97 := hS91.below hb95
          refine wl_not rfl rfl ?_
          refine WL.nil ?_
          refine fun a ha => hK84 _ _ ?_ a ha
          refine W.cond rfl (fun h99 => ?_) (fun h99 => ?_)
          · replace hF := ifP h99 hF
            refine W.seq fun K100 hK100 => ?_
            refine W.region ?_
            refine wl_assign rfl rfl ?_
            refine WL.nil ?_
            refine fun a ha => hK100 _ _ ?_ a ha
            refine W.ret ?_
            have hr := Option.some.inj hF
            subst hr
            exact rets (vs := [(.bool false)]) hQ rfl ⟨rv_tmp rfl, trivial⟩ ⟨rfl, hB96⟩
          · replace hF := ifN h99 hF
            refine W.skip ?_
            refine fun a ha => hK83 _ _ ?_ a ha
            refine W.seq fun K101 hK101 => ?_
            refine W.seq fun K102 hK102 => ?_
            refine W.region ?_
            refine wl_move rfl rfl ?_
            refine wl_move rfl rfl ?_
            obtain ⟨u103, hu103, hF⟩ := bindE hF
            refine wl_call rfl Try.call26 (C_laws_toCueS w94 x1 v1_0 (h1_0.ro hB96) _ hu103) rfl ?_
            rintro _ w106 ⟨v104, F105, rfl, hb107, hM110⟩
            refine ⟨_, rfl, ?_⟩
            have hB108 := hB96.trans (hb107.mono hB96.size)
            have hS109 := hS97.join hb107 hM110 hB96.size
            obtain ⟨u111, hu111, hF⟩ := bindE hF
            refine wl_call rfl Try.call29 (C_laws_eqCueS w106 u58 v59 (hS109.own_ro (i := 3) rfl) u103 v104 (hS109.own_ro (i := 0) rfl) _ hu111) rfl ?_
            rintro _ w112 ⟨rfl, hb113⟩
            refine ⟨_, rfl, ?_⟩
            have hB114 := hB108.trans (hb113.mono hB108.size)
            have hS115 := hS109.below hb113
            refine wl_not rfl rfl ?_
            refine WL.nil ?_
            refine fun a ha => hK102 _ _ ?_ a ha
            refine W.cond rfl (fun h117 => ?_) (fun h117 => ?_)
            · replace hF := ifP h117 hF
              refine W.seq fun K118 hK118 => ?_
              refine W.region ?_
              refine wl_assign rfl rfl ?_
              refine WL.nil ?_
              refine fun a ha => hK118 _ _ ?_ a ha
              refine W.ret ?_
              have hr := Option.some.inj hF
              subst hr
              exact rets (vs := [(.bool false)]) hQ rfl ⟨rv_tmp rfl, trivial⟩ ⟨rfl, hB114⟩
            · replace hF := ifN h117 hF
              refine W.skip ?_
              refine fun a ha => hK101 _ _ ?_ a ha
              refine W.seq fun K119 hK119 => ?_
              refine W.region ?_
              refine wl_assign rfl rfl ?_
              refine WL.nil ?_
              refine fun a ha => hK119 _ _ ?_ a ha
              refine W.ret ?_
              have hr := Option.some.inj hF
              subst hr
              exact rets (vs := [(.bool true)]) hQ rfl ⟨rv_tmp rfl, trivial⟩ ⟨rfl, hB114⟩
      refine W.region ?_
      refine wl_move rfl rfl ?_
      refine wl_move rfl rfl ?_
      refine wl_neq rfl rfl rfl ?_
      refine wl_move rfl rfl ?_
      rcases bE (u67.1 != u42.1) with h120 | h120
      · replace hF := ifP h120 hF
        refine wl_off rfl rfl rfl h120 ?_
        refine wl_off rfl rfl rfl h120 ?_
        refine wl_off rfl rfl rfl h120 ?_
        refine wl_pick_t rfl rfl h120 rfl ?_
        refine WL.nil ?_
        exact fun a ha => hJ80 (true) _ hF hB70 (hS71.sel [1, 0] rfl) a (ha.sub ⟨rfl, rfl, rfl, rfl, rfl, trivial⟩)
      · replace hF := ifN h120 hF
        refine wl_on rfl rfl h120 ?_
        refine wl_move rfl rfl ?_
        refine wl_on rfl rfl h120 ?_
        refine wl_move rfl rfl ?_
        refine wl_on rfl rfl h120 ?_
        refine wl_neqb Try.underlying4 rfl rfl rfl ?_
        refine wl_pick_f rfl rfl h120 rfl ?_
        refine WL.nil ?_
        exact fun a ha => hJ80 ((u67.2 != u42.2)) _ hF hB70 (hS71.sel [1, 0] rfl) a (ha.sub ⟨rfl, rfl, rfl, rfl, rfl, trivial⟩)
end Go.Proofs.Ytmbhdelegdhieaa
