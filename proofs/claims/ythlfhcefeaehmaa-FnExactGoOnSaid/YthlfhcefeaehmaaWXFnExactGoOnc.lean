/-
  THE WALKS of functions of this seat, by program (gen.py, prune.py).
-/
import Derived.Test.YthlfhcefeaehmaaWXFnExactGoOnb
set_option linter.unusedSimpArgs false
set_option linter.unusedVariables false
set_option maxRecDepth 100000
namespace Go.Proofs.Ythlfhcefeaehmaa
open Go Go.RowKit
theorem C_spec_GoOn (w0 : World) (x0 : (((List (List (Int × Int))) × (List Int) × Int × Int) × Int × (List Int) × (List Int))) (v0_0 : Value) (h0_0 : rdS ty_70 (· < w0.heap.size) w0 v0_0 x0.1.1) (v0_1 : Value) (h0_1 : rdS ty_3 (· < w0.heap.size) w0 v0_1 x0.1.2.1) (v0_2 : Value) (h0_2 : rdS ty_3 (· < w0.heap.size) w0 v0_2 x0.2.2.1) (v0_3 : Value) (h0_3 : rdS ty_3 (· < w0.heap.size) w0 v0_3 x0.2.2.2) (x1 : Int) (r : ((((List (List (Int × Int))) × (List Int) × Int × Int) × Int × (List Int) × (List Int)) × Bool)) (hF : F_spec_GoOn x0 x1 = some r) :
    Calls Try.prog 45 [(.agg #[v0_0, v0_1, (.int .i64 x0.1.2.2.1), (.int .i64 x0.1.2.2.2), (.int .i64 x0.2.1), v0_2, v0_3]), (.int .i64 x1)].toArray w0 fun e w' => ∃ (q0 : Value) (G0 : List Nat) (q1 : Value) (G1 : List Nat) (q2 : Value) (G2 : List Nat) (q3 : Value) (G3 : List Nat), e = .returned (.tuple #[(.agg #[q0, q1, (.int .i64 r.1.1.2.2.1), (.int .i64 r.1.1.2.2.2), (.int .i64 r.1.2.1), q2, q3]), (.bool r.2)]) ∧ Below w0.heap.size w0 w' ∧ Sep w0.heap.size w' [R.own ty_70 G0 q0 r.1.1.1, R.own ty_3 G1 q1 r.1.1.2.1, R.own ty_3 G2 q2 r.1.2.2.1, R.own ty_3 G3 q3 r.1.2.2.2] := by
  refine calls_mk' Try.func45 rfl Try.ntmps45 rfl rfl fun Q hQ hP => ?_
  have hB : Below w0.heap.size w0 w0 := Below.refl _ _
  have hS : Sep w0.heap.size w0 [] := Sep.nil _ _
  unfold F_spec_GoOn at hF
  refine W.seq fun K1 hK1 => ?_
  refine W.region ?_
  refine wl_box (cs := [v0_0, v0_1, (.int .i64 x0.1.2.2.1), (.int .i64 x0.1.2.2.2), (.int .i64 x0.2.1), v0_2, v0_3]) rfl rfl rfl hB hS ?_
  intro b2 w3 hb4 hB5 hS6
  refine wl_alloc (cs := [(.slice none 0 0), (.slice none 0 0), (.int .i64 0), (.int .i64 0), (.int .i64 0), (.slice none 0 0), (.slice none 0 0)]) tf_58 rfl rfl hB5 hS6 ?_
  intro b7 w8 hb9 hB10 hS11
  refine wl_assign rfl rfl ?_
  refine WL.nil ?_
  refine fun a ha => hK1 _ _ ?_ a ha
  refine W.seq fun K12 hK12 => ?_
  refine W.region ?_
  refine wl_load_blk (i := 1) (vs := [v0_0, v0_1, (.int .i64 x0.1.2.2.1), (.int .i64 x0.1.2.2.2), (.int .i64 x0.2.1), v0_2, v0_3]) (v := (.agg #[v0_0, v0_1, (.int .i64 x0.1.2.2.1), (.int .i64 x0.1.2.2.2), (.int .i64 x0.2.1), v0_2, v0_3])) tf_58 rfl rfl hS11 rfl rfl rfl ?_
  refine wl_move rfl rfl ?_
  refine wl_build (zs := [(.int .i64 0), (.int .i64 0)]) (out := [(.int .i64 3), (.int .i64 x1)]) (vs := [(.int .i64 3), (.int .i64 x1)]) (css := [[(.int .i64 3)], [(.int .i64 x1)]]) tf_104 pl_104 rfl rfl rfl rfl rfl ?_
  obtain ⟨u13, hu13, hF⟩ := bindE hF
  refine wl_call rfl Try.call86 (C_spec_mnAsked w8 x0 v0_0 (h0_0.ro hB10) v0_1 (h0_1.ro hB10) v0_2 (h0_2.ro hB10) v0_3 (h0_3.ro hB10) (3, x1) _ hu13) rfl ?_
  rintro _ w22 ⟨v14, F15, v16, F17, v18, F19, v20, F21, rfl, hb23, hM26⟩
  refine ⟨_, rfl, ?_⟩
  have hB24 := hB10.trans (hb23.mono hB10.size)
  have hS25 := hS11.join hb23 hM26 hB10.size
  refine wl_extract rfl rfl rfl ?_
  refine wl_extract rfl rfl rfl ?_
  refine wl_store_blk (i := 4) (vs := [v14, v16, (.int .i64 u13.1.1.2.2.1), (.int .i64 u13.1.1.2.2.2), (.int .i64 u13.1.2.1), v18, v20]) (cs' := [v14, v16, (.int .i64 u13.1.1.2.2.1), (.int .i64 u13.1.1.2.2.2), (.int .i64 u13.1.2.1), v18, v20]) tf_58 rfl rfl rfl rfl hB24 hS25 rfl rfl ⟨(hS25.own_ro (i := 0) rfl).one, (hS25.own_ro (i := 1) rfl).one, rfl, rfl, rfl, (hS25.own_ro (i := 2) rfl).one, (hS25.own_ro (i := 3) rfl).one, trivial⟩ rfl ?_
  intro w27 hk30 hB28 hS29
  refine wl_assign rfl rfl ?_
  refine WL.nil ?_
  refine fun a ha => hK12 _ _ ?_ a ha
  refine W.ret ?_
  have hr := Option.some.inj hF
  subst hr
  exact rets (vs := [(.agg #[v14, v16, (.int .i64 u13.1.1.2.2.1), (.int .i64 u13.1.1.2.2.2), (.int .i64 u13.1.2.1), v18, v20]), (.bool u13.2)]) hQ rfl ⟨rv_cell (i := 4) tf_58 rfl hS29 rfl rfl rfl, rv_tmp rfl, trivial⟩ ⟨v14, F15, v16, F17, v18, F19, v20, F21, rfl, hB28, hS29.sel [0, 1, 2, 3] rfl⟩
theorem C_slices_Index_int_int (w0 : World) (x0 : (List Int)) (v0_0 : Value) (h0_0 : rdS ty_3 (· < w0.heap.size) w0 v0_0 x0) (x1 : Int) (r : Int) (hF : F_slices_Index_int_int x0 x1 = some r) :
    Calls Try.prog 91 [v0_0, (.int .i64 x1)].toArray w0 fun e w' => e = .returned (.int .i64 r) ∧ Below w0.heap.size w0 w' := by
  refine calls_mk' Try.func91 rfl Try.ntmps91 rfl rfl fun Q hQ hP => ?_
  have hB : Below w0.heap.size w0 w0 := Below.refl _ _
  have hS : Sep w0.heap.size w0 [] := Sep.nil _ _
  unfold F_slices_Index_int_int at hF
  refine W.seq fun K1 hK1 => ?_
  refine W.region ?_
  refine wl_assign rfl rfl ?_
  refine WL.nil ?_
  refine fun a ha => hK1 _ _ ?_ a ha
  refine W.seq fun K2 hK2 => ?_
  refine W.seq fun K3 hK3 => ?_
  refine W.region ?_
  refine wl_move rfl rfl ?_
  refine wl_lenr (e := ty_3) (l := x0) Try.underlying23 rfl rfl h0_0 ?_
  refine wl_move rfl rfl ?_
  refine WL.nil ?_
  refine fun a ha => hK3 _ _ ?_ a ha
  refine W.block ?_
  refine W.loopk (fun m a w4 => ∃ (y7 : Int), St 19 [(0, v0_0), (1, (.int .i64 x1)), (7, (.int .i64 (List.length x0 : Int))), (8, (.int .i64 y7))] a ∧ Below w0.heap.size w0 w4 ∧ Sep w0.heap.size w4 [] ∧ F_slices_Index_int_int_L1 x0 x1 m y7 = some r) FU ?_ ?_
  ·
    exact fun a ha => ⟨0, ha.sub ⟨rfl, rfl, rfl, rfl, trivial⟩, hB, (hS.sel [] rfl), hF⟩
  ·
    rintro m10 a w4 ⟨y7, ha, hB5, hS6, hF⟩ KL9 hKL9
    refine W.at ?_ ha
    cases m10 with
    | zero => exact noneE hF
    | succ m10 =>
      obtain ⟨nx8, hnx8⟩ : ∃ k, k = F_slices_Index_int_int_L1 x0 x1 m10 := ⟨_, rfl⟩
      rw [F_slices_Index_int_int_L1, ← hnx8] at hF
      refine W.seq fun K11 hK11 => ?_
      refine W.region ?_
      refine wl_lss rfl rfl rfl ?_
      refine WL.nil ?_
      refine fun a ha => hK11 _ _ ?_ a ha
      refine W.seq fun K12 hK12 => ?_
      refine W.cond rfl (fun h13 => ?_) (fun h13 => ?_)
      · replace hF := ifP h13 hF
        refine W.skip ?_
        refine fun a ha => hK12 _ _ ?_ a ha
        refine W.seq fun K14 hK14 => ?_
        refine W.block ?_
        refine W.seq fun K15 hK15 => ?_
        refine W.region ?_
        refine wl_move rfl rfl ?_
        refine wl_assign rfl rfl ?_
        refine WL.nil ?_
        refine fun a ha => hK15 _ _ ?_ a ha
        refine W.seq fun K16 hK16 => ?_
        refine W.region ?_
        refine wl_move rfl rfl ?_
        refine wl_move rfl rfl ?_
        refine wl_move rfl rfl ?_
        obtain ⟨u17, hu17, hF⟩ := bindE hF
        refine wl_index (e := ty_3) Try.underlying23 rfl rfl rfl h0_0 hu17 ?_
        rintro p18 _ rfl hp19
        refine wl_load_p (vs := [(.int .i64 u17)]) (v := (.int .i64 u17)) tf_3 rfl rfl (hp19.ro hB5) rfl rfl ?_
        refine wl_eql rfl rfl rfl ?_
        refine WL.nil ?_
        refine fun a ha => hK16 _ _ ?_ a ha
        refine W.cond rfl (fun h20 => ?_) (fun h20 => ?_)
        · replace hF := ifP h20 hF
          refine W.seq fun K21 hK21 => ?_
          refine W.region ?_
          refine wl_move rfl rfl ?_
          refine wl_assign rfl rfl ?_
          refine WL.nil ?_
          refine fun a ha => hK21 _ _ ?_ a ha
          refine W.ret ?_
          have hr := Option.some.inj hF
          subst hr
          exact rets (vs := [(.int .i64 y7)]) hQ rfl ⟨rv_tmp rfl, trivial⟩ ⟨rfl, hB5⟩
        · replace hF := ifN h20 hF
          refine W.skip ?_
          refine fun a ha => hK14 _ _ ?_ a ha
          refine W.region ?_
          refine wl_add rfl rfl rfl ?_
          refine wl_move rfl rfl ?_
          refine WL.nil ?_
          rw [hnx8] at hF
          exact fun a ha => hKL9 a _ m10 (Nat.lt_succ_self m10) ⟨(w64 (y7 + 1)), ha.sub ⟨rfl, rfl, rfl, rfl, trivial⟩, hB5, (hS6.sel [] rfl), hF⟩
      · replace hF := ifN h13 hF
        refine W.exit ?_
        refine fun a ha => hK2 _ _ ?_ a ha
        refine W.seq fun K22 hK22 => ?_
        refine W.region ?_
        refine wl_assign rfl rfl ?_
        refine WL.nil ?_
        refine fun a ha => hK22 _ _ ?_ a ha
        refine W.ret ?_
        have hr := Option.some.inj hF
        subst hr
        exact rets (vs := [(.int .i64 (-1))]) hQ rfl ⟨rv_tmp rfl, trivial⟩ ⟨rfl, hB5⟩
theorem C_slices_Contains_int_int (w0 : World) (x0 : (List Int)) (v0_0 : Value) (h0_0 : rdS ty_3 (· < w0.heap.size) w0 v0_0 x0) (x1 : Int) (r : Bool) (hF : F_slices_Contains_int_int x0 x1 = some r) :
    Calls Try.prog 90 [v0_0, (.int .i64 x1)].toArray w0 fun e w' => e = .returned (.bool r) ∧ Below w0.heap.size w0 w' := by
  refine calls_mk' Try.func90 rfl Try.ntmps90 rfl rfl fun Q hQ hP => ?_
  have hB : Below w0.heap.size w0 w0 := Below.refl _ _
  have hS : Sep w0.heap.size w0 [] := Sep.nil _ _
  unfold F_slices_Contains_int_int at hF
  refine W.seq fun K1 hK1 => ?_
  refine W.region ?_
  refine wl_assign rfl rfl ?_
  refine WL.nil ?_
  refine fun a ha => hK1 _ _ ?_ a ha
  refine W.seq fun K2 hK2 => ?_
  refine W.region ?_
  refine wl_move rfl rfl ?_
  refine wl_move rfl rfl ?_
  obtain ⟨u3, hu3, hF⟩ := bindE hF
  refine wl_call rfl Try.call91 (C_slices_Index_int_int w0 x0 v0_0 (h0_0.ro hB) x1 _ hu3) rfl ?_
  rintro _ w4 ⟨rfl, hb5⟩
  refine ⟨_, rfl, ?_⟩
  have hB6 := hB.trans (hb5.mono hB.size)
  have hS7 := hS.below hb5
  refine wl_geq rfl rfl rfl ?_
  refine wl_assign rfl rfl ?_
  refine WL.nil ?_
  refine fun a ha => hK2 _ _ ?_ a ha
  refine W.ret ?_
  have hr := Option.some.inj hF
  subst hr
  exact rets (vs := [(.bool (decide (0 ≤ u3)))]) hQ rfl ⟨rv_tmp rfl, trivial⟩ ⟨rfl, hB6⟩
theorem C_slices_Delete_int_int__take (w0 : World) (x0 : (List Int)) (v0_0 : Value) (B0_0 : List Nat) (x1 : Int) (x2 : Int) (hS0 : Sep 0 w0 [R.own ty_3 B0_0 v0_0 x0]) (r : (List Int)) (hF : F_slices_Delete_int_int__take x0 x1 x2 = some r) :
    Calls Try.prog 92 [v0_0, (.int .i64 x1), (.int .i64 x2)].toArray w0 fun e w' => ∃ (q0 : Value) (G0 : List Nat), e = .returned q0 ∧ Below 0 (wE w0) w' ∧ Sep 0 w' [R.rest w0 (fps [R.own ty_3 B0_0 v0_0 x0]), R.own ty_3 G0 q0 r] := by
  refine calls_mk' Try.func92 rfl Try.ntmps92 rfl rfl fun Q hQ hP => ?_
  have hB : Below (wE w0).heap.size (wE w0) w0 := wE_below w0
  have hS : Sep (wE w0).heap.size w0 [R.rest w0 (fps [R.own ty_3 B0_0 v0_0 x0]), R.own ty_3 B0_0 v0_0 x0] := hS0.rest
  unfold F_slices_Delete_int_int__take at hF
  refine W.seq fun K1 hK1 => ?_
  refine W.region ?_
  refine wl_assign rfl rfl ?_
  refine WL.nil ?_
  refine fun a ha => hK1 _ _ ?_ a ha
  refine W.seq fun K2 hK2 => ?_
  refine W.region ?_
  refine wl_move rfl rfl ?_
  refine wl_move rfl rfl ?_
  refine wl_move rfl rfl ?_
  refine wl_move rfl rfl ?_
  refine wl_lenr (e := ty_3) (l := x0) Try.underlying23 rfl rfl (hS.own_ro (i := 1) rfl) ?_
  obtain ⟨u3, hu3, hF⟩ := bindE hF
  refine wl_slice3 (e := ty_3) Try.underlying23 rfl rfl (hS.own_ro (i := 1) rfl) rfl rfl rfl hu3 ?_
  intro v4
  refine WL.nil ?_
  refine fun a ha => hK2 _ _ ?_ a ha
  refine W.seq fun K5 hK5 => ?_
  refine W.seq fun K6 hK6 => ?_
  refine W.region ?_
  refine wl_move rfl rfl ?_
  refine wl_move rfl rfl ?_
  refine wl_eql rfl rfl rfl ?_
  refine WL.nil ?_
  refine fun a ha => hK6 _ _ ?_ a ha
  refine W.cond rfl (fun h7 => ?_) (fun h7 => ?_)
  · replace hF := ifP h7 hF
    refine W.seq fun K8 hK8 => ?_
    refine W.region ?_
    refine wl_move rfl rfl ?_
    refine wl_assign rfl rfl ?_
    refine WL.nil ?_
    refine fun a ha => hK8 _ _ ?_ a ha
    refine W.ret ?_
    have hr := Option.some.inj hF
    subst hr
    exact rets (vs := [v0_0]) hQ rfl ⟨rv_tmp rfl, trivial⟩ ⟨v0_0, B0_0, rfl, hB, hS.sel [0, 1] rfl⟩
  · replace hF := ifN h7 hF
    refine W.skip ?_
    refine fun a ha => hK5 _ _ ?_ a ha
    refine W.seq fun K9 hK9 => ?_
    refine W.region ?_
    refine wl_move rfl rfl ?_
    refine wl_lenr (e := ty_3) (l := x0) Try.underlying23 rfl rfl (hS.own_ro (i := 1) rfl) ?_
    refine wl_assign rfl rfl ?_
    refine WL.nil ?_
    refine fun a ha => hK9 _ _ ?_ a ha
    refine W.seq fun K10 hK10 => ?_
    refine W.regionH mixed_ B0_0 hB hS ?_
    intro w11 hb12 hB13 hS14
    have hSW15 := KeepX.refl w11 B0_0
    refine WH.takex (i := 0) rfl (by kernel_rfl) (by kernel_rfl) (by kernel_rfl) hP hSW15 ?_
    refine pr_move rfl rfl ?_
    refine WH.takex (i := 1) rfl (by kernel_rfl) (by kernel_rfl) (by kernel_rfl) hP hSW15 ?_
    refine pr_move rfl rfl ?_
    obtain ⟨u16, hu16, hF⟩ := bindE hF
    refine WH.takex (i := 2) rfl (by kernel_rfl) (by kernel_rfl) (by kernel_rfl) hP hSW15 ?_
    refine pr_sliceof (e := ty_3) Try.underlying23 rfl rfl (hS14.ok (i := 1) rfl : ownS ty_3 _ _ _ _).rd hu16 (.inl ⟨rfl, rfl⟩) (.inr ⟨_, _, rfl, rfl⟩) ?_
    intro v17 hv20 hs19
    have hv18 := hv20.mono fun b hb => ((hS14.get (i := 1) rfl).2.1 b hb).2
    refine WH.takex (i := 3) rfl (by kernel_rfl) (by kernel_rfl) (by kernel_rfl) hP hSW15 ?_
    refine pr_move rfl rfl ?_
    refine WH.takex (i := 4) rfl (by kernel_rfl) (by kernel_rfl) (by kernel_rfl) hP hSW15 ?_
    refine pr_move rfl rfl ?_
    obtain ⟨u21, hu21, hF⟩ := bindE hF
    refine WH.takex (i := 5) rfl (by kernel_rfl) (by kernel_rfl) (by kernel_rfl) hP hSW15 ?_
    refine pr_sliceof (e := ty_3) Try.underlying23 rfl rfl (hS14.ok (i := 1) rfl : ownS ty_3 _ _ _ _).rd hu21 (.inr ⟨_, _, rfl, rfl⟩) (.inl ⟨rfl, rfl⟩) ?_
    intro v22 hv25 hs24
    have hv23 := hv25.mono fun b hb => ((hS14.get (i := 1) rfl).2.1 b hb).2
    refine WH.one (i := 6) (by kernel_rfl) rfl ?_
    obtain ⟨u26, hu26, hF⟩ := bindE hF
    obtain ⟨hc27, hc28, hc29, hc30⟩ := cutL_some hu26
    refine wl_appendcut (e := ty_3) Try.underlying23 rfl rfl rfl hB13 (hS14.sel [1, 0] rfl) hs19 hs24 hc28 hc29 ?_
    intro v31 F32 w33 hk34 hcap35 hB36 hS37
    have hS38 : Sep (wE w0).heap.size w33 [R.own ty_3 F32 v31 u26, R.rest w0 (fps [R.own ty_3 B0_0 v0_0 x0])] := by rw [hc27]; exact hS37
    have hSW39 := hSW15.wr' hk34.1 hk34.2.1 (fun _ _ h => h)
    refine WL.nil (WH.ret hSW39 ?_)
    refine WH.takex (i := 7) rfl (by kernel_rfl) (by kernel_rfl) (by kernel_rfl) hP hSW39 ?_
    refine pr_assign rfl rfl ?_
    refine WH.done (by kernel_rfl) ?_
    refine fun a ha => hK10 _ _ ?_ a ha
    refine W.seq fun K40 hK40 => ?_
    refine W.region ?_
    refine wl_move rfl rfl ?_
    refine wl_move rfl rfl ?_
    refine wl_lenr (e := ty_3) (l := u26) Try.underlying23 rfl rfl (hS38.own_ro (i := 0) rfl) ?_
    refine wl_move rfl rfl ?_
    refine wl_slicetail (e := ty_3) Try.underlying23 rfl rfl (hS38.own_ro (i := 0) rfl) rfl rfl (Int.natCast_nonneg _) (Int.ofNat_le.2 hc30) hcap35 ?_
    intro v41 hs42
    refine wl_clear (e := ty_3) Try.underlying23 rfl hB36 (hS38.sel [0, 1] rfl) hs42 hc30 hcap35 ?_
    intro w43 hk44 hB45 hS46
    refine WL.nil ?_
    refine fun a ha => hK40 _ _ ?_ a ha
    refine W.seq fun K47 hK47 => ?_
    refine W.region ?_
    refine wl_move rfl rfl ?_
    refine wl_assign rfl rfl ?_
    refine WL.nil ?_
    refine fun a ha => hK47 _ _ ?_ a ha
    refine W.ret ?_
    have hr := Option.some.inj hF
    subst hr
    exact rets (vs := [v31]) hQ rfl ⟨rv_tmp rfl, trivial⟩ ⟨v31, F32, rfl, hB45, hS46.sel [1, 0] rfl⟩
theorem C_impl_GoOn (w0 : World) (x0 : (((List (List (Int × Int))) × (List Int) × Int × Int) × Int × (List Int) × (List Int))) (v0_0 : Value) (h0_0 : rdS ty_70 (· < w0.heap.size) w0 v0_0 x0.1.1) (v0_1 : Value) (h0_1 : rdS ty_3 (· < w0.heap.size) w0 v0_1 x0.1.2.1) (v0_2 : Value) (h0_2 : rdS ty_3 (· < w0.heap.size) w0 v0_2 x0.2.2.1) (v0_3 : Value) (h0_3 : rdS ty_3 (· < w0.heap.size) w0 v0_3 x0.2.2.2) (x1 : Int) (r : ((((List (List (Int × Int))) × (List Int) × Int × Int) × Int × (List Int) × (List Int)) × Bool)) (hF : F_impl_GoOn x0 x1 = some r) :
    Calls Try.prog 46 [(.agg #[v0_0, v0_1, (.int .i64 x0.1.2.2.1), (.int .i64 x0.1.2.2.2), (.int .i64 x0.2.1), v0_2, v0_3]), (.int .i64 x1)].toArray w0 fun e w' => ∃ (q0 : Value) (G0 : List Nat) (q1 : Value) (G1 : List Nat) (q2 : Value) (G2 : List Nat) (q3 : Value) (G3 : List Nat), e = .returned (.tuple #[(.agg #[q0, q1, (.int .i64 r.1.1.2.2.1), (.int .i64 r.1.1.2.2.2), (.int .i64 r.1.2.1), q2, q3]), (.bool r.2)]) ∧ Below w0.heap.size w0 w' ∧ Sep w0.heap.size w' [R.own ty_70 G0 q0 r.1.1.1, R.own ty_3 G1 q1 r.1.1.2.1, R.own ty_3 G2 q2 r.1.2.2.1, R.own ty_3 G3 q3 r.1.2.2.2] := by
  refine calls_mk' Try.func46 rfl Try.ntmps46 rfl rfl fun Q hQ hP => ?_
  have hB : Below w0.heap.size w0 w0 := Below.refl _ _
  have hS : Sep w0.heap.size w0 [] := Sep.nil _ _
  unfold F_impl_GoOn at hF
  refine W.seq fun K1 hK1 => ?_
  refine W.region ?_
  refine wl_box (cs := [v0_0, v0_1, (.int .i64 x0.1.2.2.1), (.int .i64 x0.1.2.2.2), (.int .i64 x0.2.1), v0_2, v0_3]) rfl rfl rfl hB hS ?_
  intro b2 w3 hb4 hB5 hS6
  refine wl_alloc (cs := [(.slice none 0 0), (.slice none 0 0), (.int .i64 0), (.int .i64 0), (.int .i64 0), (.slice none 0 0), (.slice none 0 0)]) tf_58 rfl rfl hB5 hS6 ?_
  intro b7 w8 hb9 hB10 hS11
  refine wl_assign rfl rfl ?_
  refine WL.nil ?_
  refine fun a ha => hK1 _ _ ?_ a ha
  refine W.seq fun K12 hK12 => ?_
  refine W.seq fun K13 hK13 => ?_
  obtain ⟨k18, hk18, hF⟩ := jE1 hF
  have hJ19 : ∀ (y17 : Bool) (w14 : World) (_ : k18 y17 = some r) (_ : Below w0.heap.size w0 w14) (_ : Sep w0.heap.size w14 [R.blk b2 58 [v0_0, v0_1, (.int .i64 x0.1.2.2.1), (.int .i64 x0.1.2.2.2), (.int .i64 x0.2.1), v0_2, v0_3], R.blk b7 58 [(.slice none 0 0), (.slice none 0 0), (.int .i64 0), (.int .i64 0), (.int .i64 0), (.slice none 0 0), (.slice none 0 0)]]), ∀ a, St 34 [(1, (.int .i64 x1)), (2, (.pointer (some ⟨b2, 0, none⟩))), (4, (.pointer (some ⟨b7, 0, none⟩))), (18, (.bool y17))] a → K13 a w14 := by
    intro y17 w14 hF hB15 hS16
    subst hk18
    refine fun a ha => hK13 _ _ ?_ a ha
    refine W.cond rfl (fun h20 => ?_) (fun h20 => ?_)
    · replace hF := ifP h20 hF
      refine W.seq fun K21 hK21 => ?_
      refine W.region ?_
      refine wl_build (zs := [(.slice none 0 0), (.slice none 0 0), (.int .i64 0), (.int .i64 0), (.int .i64 0), (.slice none 0 0), (.slice none 0 0)]) (out := [(.slice none 0 0), (.slice none 0 0), (.int .i64 0), (.int .i64 0), (.int .i64 0), (.slice none 0 0), (.slice none 0 0)]) (vs := []) (css := []) tf_58 pl_58 rfl rfl rfl rfl rfl ?_
      refine wl_store_blk (i := 1) (vs := [(.slice none 0 0), (.slice none 0 0), (.int .i64 0), (.int .i64 0), (.int .i64 0), (.slice none 0 0), (.slice none 0 0)]) (cs' := [(.slice none 0 0), (.slice none 0 0), (.int .i64 0), (.int .i64 0), (.int .i64 0), (.slice none 0 0), (.slice none 0 0)]) tf_58 rfl rfl rfl rfl hB15 hS16 rfl rfl ⟨rfl, rfl, rfl, rfl, rfl, rfl, rfl, trivial⟩ rfl ?_
      intro w22 hk25 hB23 hS24
      refine wl_assign rfl rfl ?_
      refine WL.nil ?_
      refine fun a ha => hK21 _ _ ?_ a ha
      refine W.ret ?_
      have hS26 := hS24.push0 (r := R.own ty_70 [] (.slice none 0 0) []) rfl fun _ => .inl ⟨rfl, rfl, rfl⟩
      have hS27 := hS26.push0 (r := R.own ty_3 [] (.slice none 0 0) []) rfl fun _ => .inl ⟨rfl, rfl, rfl⟩
      have hS28 := hS27.push0 (r := R.own ty_3 [] (.slice none 0 0) []) rfl fun _ => .inl ⟨rfl, rfl, rfl⟩
      have hS29 := hS28.push0 (r := R.own ty_3 [] (.slice none 0 0) []) rfl fun _ => .inl ⟨rfl, rfl, rfl⟩
      have hr := Option.some.inj hF
      subst hr
      exact rets (vs := [(.agg #[(.slice none 0 0), (.slice none 0 0), (.int .i64 0), (.int .i64 0), (.int .i64 0), (.slice none 0 0), (.slice none 0 0)]), (.bool false)]) hQ rfl ⟨rv_cell (i := 1) tf_58 rfl hS24 rfl rfl rfl, rv_tmp rfl, trivial⟩ ⟨(.slice none 0 0), [], (.slice none 0 0), [], (.slice none 0 0), [], (.slice none 0 0), [], rfl, hB23, hS29.sel [3, 2, 1, 0] rfl⟩
    · replace hF := ifN h20 hF
      refine W.skip ?_
      refine fun a ha => hK12 _ _ ?_ a ha
      refine W.seq fun K30 hK30 => ?_
      refine W.region ?_
      refine wl_load_blk (i := 0) (vs := [v0_0, v0_1, (.int .i64 x0.1.2.2.1), (.int .i64 x0.1.2.2.2), (.int .i64 x0.2.1), v0_2, v0_3]) (v := (.agg #[v0_0, v0_1, (.int .i64 x0.1.2.2.1), (.int .i64 x0.1.2.2.2), (.int .i64 x0.2.1), v0_2, v0_3])) tf_58 rfl rfl hS16 rfl rfl rfl ?_
      obtain ⟨u31, hu31, hF⟩ := bindE hF
      refine wl_call rfl Try.call88 (C_impl_copyMarch w14 x0 v0_0 (h0_0.ro hB15) v0_1 (h0_1.ro hB15) v0_2 (h0_2.ro hB15) v0_3 (h0_3.ro hB15) _ hu31) rfl ?_
      rintro _ w40 ⟨v32, F33, v34, F35, v36, F37, v38, F39, rfl, hb41, hM44⟩
      refine ⟨_, rfl, ?_⟩
      have hB42 := hB15.trans (hb41.mono hB15.size)
      have hS43 := hS16.join hb41 hM44 hB15.size
      refine wl_alloc (cs := [(.slice none 0 0), (.slice none 0 0), (.int .i64 0), (.int .i64 0), (.int .i64 0), (.slice none 0 0), (.slice none 0 0)]) tf_58 rfl rfl hB42 hS43 ?_
      intro b45 w46 hb47 hB48 hS49
      refine wl_store_blk (i := 0) (vs := [v32, v34, (.int .i64 u31.1.2.2.1), (.int .i64 u31.1.2.2.2), (.int .i64 u31.2.1), v36, v38]) (cs' := [v32, v34, (.int .i64 u31.1.2.2.1), (.int .i64 u31.1.2.2.2), (.int .i64 u31.2.1), v36, v38]) tf_58 rfl rfl rfl rfl hB48 hS49 rfl rfl ⟨(hS49.own_ro (i := 1) rfl).one, (hS49.own_ro (i := 2) rfl).one, rfl, rfl, rfl, (hS49.own_ro (i := 3) rfl).one, (hS49.own_ro (i := 4) rfl).one, trivial⟩ rfl ?_
      intro w50 hk53 hB51 hS52
      refine WL.nil ?_
      refine fun a ha => hK30 _ _ ?_ a ha
      refine W.seq fun K54 hK54 => ?_
      refine W.region ?_
      refine wl_field (o := 5) (off' := 5) ff_58_2 rfl rfl rfl ?_
      refine wl_load_blk (i := 0) (vs := [v36]) (v := v36) tf_23 rfl rfl hS52 rfl rfl rfl ?_
      refine wl_move rfl rfl ?_
      obtain ⟨u55, hu55, hF⟩ := bindE hF
      refine wl_call rfl Try.call91 (C_slices_Index_int_int w50 u31.2.2.1 v36 (hS52.own_ro (i := 3) rfl) x1 _ hu55) rfl ?_
      rintro _ w56 ⟨rfl, hb57⟩
      refine ⟨_, rfl, ?_⟩
      have hB58 := hB51.trans (hb57.mono hB51.size)
      have hS59 := hS52.below hb57
      refine wl_assign rfl rfl ?_
      refine WL.nil ?_
      refine fun a ha => hK54 _ _ ?_ a ha
      refine W.seq fun K61 hK61 => ?_
      refine W.region ?_
      refine wl_field (o := 5) (off' := 5) ff_58_2 rfl rfl rfl ?_
      refine wl_load_blk (i := 0) (vs := [v36]) (v := v36) tf_23 rfl rfl hS59 rfl rfl rfl ?_
      refine wl_move rfl rfl ?_
      refine wl_move rfl rfl ?_
      refine wl_add rfl rfl rfl ?_
      obtain ⟨u62, hu62, hF⟩ := bindE hF
      refine wl_call rfl Try.call92 (C_slices_Delete_int_int__take w56 u31.2.2.1 v36 F37 u55 (w64 (u55 + 1)) (hS59.sel [3] rfl).base0 _ hu62) rfl ?_
      rintro _ w63 ⟨v68, F69, rfl, hE64, hM65⟩
      refine ⟨_, rfl, ?_⟩
      have hB66 := hS59.takeB [3] rfl (M := [R.own ty_3 F37 v36 u31.2.2.1]) rfl hB58 hE64 hM65
      have hS67 : Sep w0.heap.size w63 [R.own ty_3 F69 v68 u62, R.blk b45 58 [v32, v34, (.int .i64 u31.1.2.2.1), (.int .i64 u31.1.2.2.2), (.int .i64 u31.2.1), v36, v38], R.own ty_70 F33 v32 u31.1.1, R.own ty_3 F35 v34 u31.1.2.1, R.own ty_3 F39 v38 u31.2.2.2, R.blk b2 58 [v0_0, v0_1, (.int .i64 x0.1.2.2.1), (.int .i64 x0.1.2.2.2), (.int .i64 x0.2.1), v0_2, v0_3], R.blk b7 58 [(.slice none 0 0), (.slice none 0 0), (.int .i64 0), (.int .i64 0), (.int .i64 0), (.slice none 0 0), (.slice none 0 0)]] := hS59.take [3] [0, 1, 2, 4, 5, 6] rfl (M := [R.own ty_3 F37 v36 u31.2.2.1]) rfl hM65 hB58.size
      refine wl_field (o := 5) (off' := 5) ff_58_2 rfl rfl rfl ?_
      refine wl_store_blk (i := 1) (vs := [v68]) (cs' := [v32, v34, (.int .i64 u31.1.2.2.1), (.int .i64 u31.1.2.2.2), (.int .i64 u31.2.1), v68, v38]) tf_23 rfl rfl (cells_one (hS67.own_ro (i := 0) rfl).one) rfl hB66 hS67 rfl rfl ⟨(hS67.own_ro (i := 0) rfl).one, trivial⟩ rfl ?_
      intro w70 hk73 hB71 hS72
      refine WL.nil ?_
      refine fun a ha => hK61 _ _ ?_ a ha
      refine W.seq fun K74 hK74 => ?_
      refine W.region ?_
      refine wl_load_blk (i := 1) (vs := [v32, v34, (.int .i64 u31.1.2.2.1), (.int .i64 u31.1.2.2.2), (.int .i64 u31.2.1), v68, v38]) (v := (.agg #[v32, v34, (.int .i64 u31.1.2.2.1), (.int .i64 u31.1.2.2.2), (.int .i64 u31.2.1), v68, v38])) tf_58 rfl rfl hS72 rfl rfl rfl ?_
      refine wl_store_blk (i := 6) (vs := [v32, v34, (.int .i64 u31.1.2.2.1), (.int .i64 u31.1.2.2.2), (.int .i64 u31.2.1), v68, v38]) (cs' := [v32, v34, (.int .i64 u31.1.2.2.1), (.int .i64 u31.1.2.2.2), (.int .i64 u31.2.1), v68, v38]) tf_58 rfl rfl rfl rfl hB71 hS72 rfl rfl ⟨(hS72.own_ro (i := 2) rfl).one, (hS72.own_ro (i := 3) rfl).one, rfl, rfl, rfl, (hS72.own_ro (i := 0) rfl).one, (hS72.own_ro (i := 4) rfl).one, trivial⟩ rfl ?_
      intro w75 hk78 hB76 hS77
      refine wl_assign rfl rfl ?_
      refine WL.nil ?_
      refine fun a ha => hK74 _ _ ?_ a ha
      refine W.ret ?_
      have hr := Option.some.inj hF
      subst hr
      exact rets (vs := [(.agg #[v32, v34, (.int .i64 u31.1.2.2.1), (.int .i64 u31.1.2.2.2), (.int .i64 u31.2.1), v68, v38]), (.bool true)]) hQ rfl ⟨rv_cell (i := 6) tf_58 rfl hS77 rfl rfl rfl, rv_tmp rfl, trivial⟩ ⟨v32, F33, v34, F35, v68, F69, v38, F39, rfl, hB76, hS77.sel [2, 3, 0, 4] rfl⟩
  refine W.region ?_
  refine wl_load_blk (i := 1) (vs := [v0_0, v0_1, (.int .i64 x0.1.2.2.1), (.int .i64 x0.1.2.2.2), (.int .i64 x0.2.1), v0_2, v0_3]) (v := (.agg #[v0_0, v0_1, (.int .i64 x0.1.2.2.1), (.int .i64 x0.1.2.2.2), (.int .i64 x0.2.1), v0_2, v0_3])) tf_58 rfl rfl hS11 rfl rfl rfl ?_
  refine wl_move rfl rfl ?_
  obtain ⟨u79, hu79, hF⟩ := bindE hF
  refine wl_call rfl Try.call84 (C_impl_hasPerformer w8 x0 v0_0 (h0_0.ro hB10) v0_1 (h0_1.ro hB10) v0_2 (h0_2.ro hB10) v0_3 (h0_3.ro hB10) x1 _ hu79) rfl ?_
  rintro _ w80 ⟨rfl, hb81⟩
  refine ⟨_, rfl, ?_⟩
  have hB82 := hB10.trans (hb81.mono hB10.size)
  have hS83 := hS11.below hb81
  refine wl_not rfl rfl ?_
  refine wl_move rfl rfl ?_
  rcases bE (!u79) with h85 | h85
  · replace hF := ifP h85 hF
    refine wl_off rfl rfl rfl h85 ?_
    refine wl_off rfl rfl rfl h85 ?_
    refine wl_off rfl rfl rfl h85 ?_
    refine wl_off rfl rfl rfl h85 ?_
    refine wl_off rfl rfl rfl h85 ?_
    refine wl_pick_t rfl rfl h85 rfl ?_
    refine WL.nil ?_
    exact fun a ha => hJ19 (true) _ hF hB82 (hS83.sel [1, 0] rfl) a (ha.sub ⟨rfl, rfl, rfl, rfl, trivial⟩)
  · replace hF := ifN h85 hF
    refine wl_on rfl rfl h85 ?_
    refine wl_field (o := 5) (off' := 5) ff_58_2 rfl rfl rfl ?_
    refine wl_on rfl rfl h85 ?_
    refine wl_load_blk (i := 1) (vs := [v0_2]) (v := v0_2) tf_23 rfl rfl hS83 rfl rfl rfl ?_
    refine wl_on rfl rfl h85 ?_
    refine wl_move rfl rfl ?_
    refine wl_on rfl rfl h85 ?_
    obtain ⟨u86, hu86, hF⟩ := bindE hF
    refine wl_call rfl Try.call90 (C_slices_Contains_int_int w80 x0.2.2.1 v0_2 (h0_2.ro hB82) x1 _ hu86) rfl ?_
    rintro _ w87 ⟨rfl, hb88⟩
    refine ⟨_, rfl, ?_⟩
    have hB89 := hB82.trans (hb88.mono hB82.size)
    have hS90 := hS83.below hb88
    refine wl_on rfl rfl h85 ?_
    refine wl_not rfl rfl ?_
    refine wl_pick_f rfl rfl h85 rfl ?_
    refine WL.nil ?_
    exact fun a ha => hJ19 ((!u86)) _ hF hB89 (hS90.sel [1, 0] rfl) a (ha.sub ⟨rfl, rfl, rfl, rfl, trivial⟩)
theorem C_laws_FnExactGoOn (w0 : World) (x0 : (((List (List (Int × Int))) × (List Int) × Int × Int) × Int × (List Int) × (List Int))) (v0_0 : Value) (h0_0 : rdS ty_119 (· < w0.heap.size) w0 v0_0 x0.1.1) (v0_1 : Value) (h0_1 : rdS ty_3 (· < w0.heap.size) w0 v0_1 x0.1.2.1) (v0_2 : Value) (h0_2 : rdS ty_3 (· < w0.heap.size) w0 v0_2 x0.2.2.1) (v0_3 : Value) (h0_3 : rdS ty_3 (· < w0.heap.size) w0 v0_3 x0.2.2.2) (x1 : Int) (r : Bool) (hF : F_laws_FnExactGoOn x0 x1 = some r) :
    Calls Try.prog 10 [(.agg #[v0_0, v0_1, (.int .i64 x0.1.2.2.1), (.int .i64 x0.1.2.2.2), (.int .i64 x0.2.1), v0_2, v0_3]), (.int .i64 x1)].toArray w0 fun e w' => e = .returned (.bool r) ∧ Below w0.heap.size w0 w' := by
  refine calls_mk' Try.func10 rfl Try.ntmps10 rfl rfl fun Q hQ hP => ?_
  have hB : Below w0.heap.size w0 w0 := Below.refl _ _
  have hS : Sep w0.heap.size w0 [] := Sep.nil _ _
  unfold F_laws_FnExactGoOn at hF
  refine W.seq fun K1 hK1 => ?_
  refine W.region ?_
  refine wl_box (cs := [v0_0, v0_1, (.int .i64 x0.1.2.2.1), (.int .i64 x0.1.2.2.2), (.int .i64 x0.2.1), v0_2, v0_3]) rfl rfl rfl hB hS ?_
  intro b2 w3 hb4 hB5 hS6
  refine wl_assign rfl rfl ?_
  refine WL.nil ?_
  refine fun a ha => hK1 _ _ ?_ a ha
  refine W.seq fun K7 hK7 => ?_
  refine W.region ?_
  refine wl_assign rfl rfl ?_
  refine WL.nil ?_
  refine fun a ha => hK7 _ _ ?_ a ha
  refine W.seq fun K8 hK8 => ?_
  refine W.region ?_
  refine wl_load_blk (i := 0) (vs := [v0_0, v0_1, (.int .i64 x0.1.2.2.1), (.int .i64 x0.1.2.2.2), (.int .i64 x0.2.1), v0_2, v0_3]) (v := (.agg #[v0_0, v0_1, (.int .i64 x0.1.2.2.1), (.int .i64 x0.1.2.2.2), (.int .i64 x0.2.1), v0_2, v0_3])) tf_51 rfl rfl hS6 rfl rfl rfl ?_
  refine wl_move rfl rfl ?_
  obtain ⟨u9, hu9, hF⟩ := bindE hF
  refine wl_call rfl Try.call35 (C_laws_szMarch w3 x0 v0_0 (h0_0.ro hB5) v0_1 (h0_1.ro hB5) v0_2 (h0_2.ro hB5) v0_3 (h0_3.ro hB5) 1048576 _ hu9) rfl ?_
  rintro _ w10 ⟨rfl, hb11⟩
  refine ⟨_, rfl, ?_⟩
  have hB12 := hB5.trans (hb11.mono hB5.size)
  have hS13 := hS6.below hb11
  refine wl_assign rfl rfl ?_
  refine WL.nil ?_
  refine fun a ha => hK8 _ _ ?_ a ha
  refine W.seq fun K15 hK15 => ?_
  refine W.seq fun K16 hK16 => ?_
  refine W.region ?_
  refine wl_move rfl rfl ?_
  refine wl_lss rfl rfl rfl ?_
  refine WL.nil ?_
  refine fun a ha => hK16 _ _ ?_ a ha
  refine W.cond rfl (fun h17 => ?_) (fun h17 => ?_)
  · replace hF := ifP h17 hF
    refine W.seq fun K18 hK18 => ?_
    refine W.region ?_
    refine wl_assign rfl rfl ?_
    refine WL.nil ?_
    refine fun a ha => hK18 _ _ ?_ a ha
    refine W.ret ?_
    have hr := Option.some.inj hF
    subst hr
    exact rets (vs := [(.bool true)]) hQ rfl ⟨rv_tmp rfl, trivial⟩ ⟨rfl, hB12⟩
  · replace hF := ifN h17 hF
    refine W.skip ?_
    refine fun a ha => hK15 _ _ ?_ a ha
    refine W.seq fun K19 hK19 => ?_
    refine W.region ?_
    refine wl_load_blk (i := 0) (vs := [v0_0, v0_1, (.int .i64 x0.1.2.2.1), (.int .i64 x0.1.2.2.2), (.int .i64 x0.2.1), v0_2, v0_3]) (v := (.agg #[v0_0, v0_1, (.int .i64 x0.1.2.2.1), (.int .i64 x0.1.2.2.2), (.int .i64 x0.2.1), v0_2, v0_3])) tf_51 rfl rfl hS13 rfl rfl rfl ?_
    obtain ⟨u20, hu20, hF⟩ := bindE hF
    refine wl_call rfl Try.call37 (C_laws_toMarch w10 x0 v0_0 (h0_0.ro hB12) v0_1 (h0_1.ro hB12) v0_2 (h0_2.ro hB12) v0_3 (h0_3.ro hB12) _ hu20) rfl ?_
    rintro _ w29 ⟨v21, F22, v23, F24, v25, F26, v27, F28, rfl, hb30, hM33⟩
    refine ⟨_, rfl, ?_⟩
    have hB31 := hB12.trans (hb30.mono hB12.size)
    have hS32 := hS13.join hb30 hM33 hB12.size
    refine wl_move rfl rfl ?_
    obtain ⟨u34, hu34, hF⟩ := bindE hF
    refine wl_call rfl Try.call45 (C_spec_GoOn w29 u20 v21 (hS32.own_ro (i := 0) rfl) v23 (hS32.own_ro (i := 1) rfl) v25 (hS32.own_ro (i := 2) rfl) v27 (hS32.own_ro (i := 3) rfl) x1 _ hu34) rfl ?_
    rintro _ w43 ⟨v35, F36, v37, F38, v39, F40, v41, F42, rfl, hb44, hM47⟩
    refine ⟨_, rfl, ?_⟩
    have hB45 := hB31.trans (hb44.mono hB31.size)
    have hS46 := hS32.join hb44 hM47 hB31.size
    refine wl_move rfl rfl ?_
    refine wl_extract rfl rfl rfl ?_
    refine wl_extract rfl rfl rfl ?_
    refine wl_alloc (cs := [(.slice none 0 0), (.slice none 0 0), (.int .i64 0), (.int .i64 0), (.int .i64 0), (.slice none 0 0), (.slice none 0 0)]) tf_58 rfl rfl hB45 hS46 ?_
    intro b48 w49 hb50 hB51 hS52
    refine wl_store_blk (i := 0) (vs := [v35, v37, (.int .i64 u34.1.1.2.2.1), (.int .i64 u34.1.1.2.2.2), (.int .i64 u34.1.2.1), v39, v41]) (cs' := [v35, v37, (.int .i64 u34.1.1.2.2.1), (.int .i64 u34.1.1.2.2.2), (.int .i64 u34.1.2.1), v39, v41]) tf_58 rfl rfl rfl rfl hB51 hS52 rfl rfl ⟨(hS52.own_ro (i := 1) rfl).one, (hS52.own_ro (i := 2) rfl).one, rfl, rfl, rfl, (hS52.own_ro (i := 3) rfl).one, (hS52.own_ro (i := 4) rfl).one, trivial⟩ rfl ?_
    intro w53 hk56 hB54 hS55
    refine wl_assign rfl rfl ?_
    refine WL.nil ?_
    refine fun a ha => hK19 _ _ ?_ a ha
    refine W.seq fun K57 hK57 => ?_
    refine W.region ?_
    refine wl_load_blk (i := 9) (vs := [v0_0, v0_1, (.int .i64 x0.1.2.2.1), (.int .i64 x0.1.2.2.2), (.int .i64 x0.2.1), v0_2, v0_3]) (v := (.agg #[v0_0, v0_1, (.int .i64 x0.1.2.2.1), (.int .i64 x0.1.2.2.2), (.int .i64 x0.2.1), v0_2, v0_3])) tf_51 rfl rfl hS55 rfl rfl rfl ?_
    obtain ⟨u58, hu58, hF⟩ := bindE hF
    refine wl_call rfl Try.call37 (C_laws_toMarch w53 x0 v0_0 (h0_0.ro hB54) v0_1 (h0_1.ro hB54) v0_2 (h0_2.ro hB54) v0_3 (h0_3.ro hB54) _ hu58) rfl ?_
    rintro _ w67 ⟨v59, F60, v61, F62, v63, F64, v65, F66, rfl, hb68, hM71⟩
    refine ⟨_, rfl, ?_⟩
    have hB69 := hB54.trans (hb68.mono hB54.size)
    have hS70 := hS55.join hb68 hM71 hB54.size
    refine wl_alloc (cs := [(.slice none 0 0), (.slice none 0 0), (.int .i64 0), (.int .i64 0), (.int .i64 0), (.slice none 0 0), (.slice none 0 0)]) tf_58 rfl rfl hB69 hS70 ?_
    intro b72 w73 hb74 hB75 hS76
    refine wl_store_blk (i := 0) (vs := [v59, v61, (.int .i64 u58.1.2.2.1), (.int .i64 u58.1.2.2.2), (.int .i64 u58.2.1), v63, v65]) (cs' := [v59, v61, (.int .i64 u58.1.2.2.1), (.int .i64 u58.1.2.2.2), (.int .i64 u58.2.1), v63, v65]) tf_58 rfl rfl rfl rfl hB75 hS76 rfl rfl ⟨(hS76.own_ro (i := 1) rfl).one, (hS76.own_ro (i := 2) rfl).one, rfl, rfl, rfl, (hS76.own_ro (i := 3) rfl).one, (hS76.own_ro (i := 4) rfl).one, trivial⟩ rfl ?_
    intro w77 hk80 hB78 hS79
    refine WL.nil ?_
    refine fun a ha => hK57 _ _ ?_ a ha
    refine W.seq fun K81 hK81 => ?_
    refine W.region ?_
    refine wl_load_blk (i := 0) (vs := [v59, v61, (.int .i64 u58.1.2.2.1), (.int .i64 u58.1.2.2.2), (.int .i64 u58.2.1), v63, v65]) (v := (.agg #[v59, v61, (.int .i64 u58.1.2.2.1), (.int .i64 u58.1.2.2.2), (.int .i64 u58.2.1), v63, v65])) tf_58 rfl rfl hS79 rfl rfl rfl ?_
    refine wl_move rfl rfl ?_
    obtain ⟨u82, hu82, hF⟩ := bindE hF
    refine wl_call rfl Try.call46 (C_impl_GoOn w77 u58 v59 (hS79.own_ro (i := 1) rfl) v61 (hS79.own_ro (i := 2) rfl) v63 (hS79.own_ro (i := 3) rfl) v65 (hS79.own_ro (i := 4) rfl) x1 _ hu82) rfl ?_
    rintro _ w91 ⟨v83, F84, v85, F86, v87, F88, v89, F90, rfl, hb92, hM95⟩
    refine ⟨_, rfl, ?_⟩
    have hB93 := hB78.trans (hb92.mono hB78.size)
    have hS94 := hS79.join hb92 hM95 hB78.size
    refine wl_move rfl rfl ?_
    refine wl_extract rfl rfl rfl ?_
    refine wl_extract rfl rfl rfl ?_
    refine wl_alloc (cs := [(.slice none 0 0), (.slice none 0 0), (.int .i64 0), (.int .i64 0), (.int .i64 0), (.slice none 0 0), (.slice none 0 0)]) tf_58 rfl rfl hB93 hS94 ?_
    intro b96 w97 hb98 hB99 hS100
    refine wl_store_blk (i := 0) (vs := [v83, v85, (.int .i64 u82.1.1.2.2.1), (.int .i64 u82.1.1.2.2.2), (.int .i64 u82.1.2.1), v87, v89]) (cs' := [v83, v85, (.int .i64 u82.1.1.2.2.1), (.int .i64 u82.1.1.2.2.2), (.int .i64 u82.1.2.1), v87, v89]) tf_58 rfl rfl rfl rfl hB99 hS100 rfl rfl ⟨(hS100.own_ro (i := 1) rfl).one, (hS100.own_ro (i := 2) rfl).one, rfl, rfl, rfl, (hS100.own_ro (i := 3) rfl).one, (hS100.own_ro (i := 4) rfl).one, trivial⟩ rfl ?_
    intro w101 hk104 hB102 hS103
    refine wl_assign rfl rfl ?_
    refine WL.nil ?_
    refine fun a ha => hK81 _ _ ?_ a ha
    refine W.seq fun K105 hK105 => ?_
    refine W.seq fun K106 hK106 => ?_
    obtain ⟨k111, hk111, hF⟩ := jE1 hF
    have hJ112 : ∀ (y110 : Bool) (w107 : World) (_ : k111 y110 = some r) (_ : Below w0.heap.size w0 w107) (_ : Sep w0.heap.size w107 [R.blk b2 51 [v0_0, v0_1, (.int .i64 x0.1.2.2.1), (.int .i64 x0.1.2.2.2), (.int .i64 x0.2.1), v0_2, v0_3], R.own ty_70 F36 v35 u34.1.1.1, R.own ty_3 F38 v37 u34.1.1.2.1, R.own ty_3 F40 v39 u34.1.2.2.1, R.own ty_3 F42 v41 u34.1.2.2.2, R.blk b48 58 [v35, v37, (.int .i64 u34.1.1.2.2.1), (.int .i64 u34.1.1.2.2.2), (.int .i64 u34.1.2.1), v39, v41], R.own ty_70 F60 v59 u58.1.1, R.own ty_3 F62 v61 u58.1.2.1, R.own ty_3 F64 v63 u58.2.2.1, R.own ty_3 F66 v65 u58.2.2.2, R.blk b72 58 [v59, v61, (.int .i64 u58.1.2.2.1), (.int .i64 u58.1.2.2.2), (.int .i64 u58.2.1), v63, v65], R.own ty_70 F84 v83 u82.1.1.1, R.own ty_3 F86 v85 u82.1.1.2.1, R.own ty_3 F88 v87 u82.1.2.2.1, R.own ty_3 F90 v89 u82.1.2.2.2, R.blk b96 58 [v83, v85, (.int .i64 u82.1.1.2.2.1), (.int .i64 u82.1.1.2.2.2), (.int .i64 u82.1.2.1), v87, v89]]), ∀ a, St 101 [(1, (.int .i64 x1)), (2, (.pointer (some ⟨b2, 0, none⟩))), (6, (.pointer (some ⟨b48, 0, none⟩))), (7, (.bool u34.2)), (8, (.pointer (some ⟨b72, 0, none⟩))), (9, (.pointer (some ⟨b96, 0, none⟩))), (10, (.bool u82.2)), (44, (.bool y110))] a → K106 a w107 := by
      intro y110 w107 hF hB108 hS109
      subst hk111
      refine fun a ha => hK106 _ _ ?_ a ha
      refine W.cond rfl (fun h113 => ?_) (fun h113 => ?_)
      · replace hF := ifP h113 hF
        refine W.seq fun K114 hK114 => ?_
        refine W.region ?_
        refine wl_assign rfl rfl ?_
        refine WL.nil ?_
        refine fun a ha => hK114 _ _ ?_ a ha
        refine W.ret ?_
        have hr := Option.some.inj hF
        subst hr
        exact rets (vs := [(.bool false)]) hQ rfl ⟨rv_tmp rfl, trivial⟩ ⟨rfl, hB108⟩
      · replace hF := ifN h113 hF
        refine W.skip ?_
        refine fun a ha => hK105 _ _ ?_ a ha
        refine W.seq fun K115 hK115 => ?_
        refine W.seq fun K116 hK116 => ?_
        refine W.regionH mixed_ [] hB108 hS109 ?_
        intro w117 hb118 hB119 hS120
        have hSW121 := KeepX.refl w117 []
        refine WH.takex (i := 0) rfl (by kernel_rfl) (by kernel_rfl) (by kernel_rfl) hP hSW121 ?_
        refine pr_load_blk (i := 10) (vs := [v59, v61, (.int .i64 u58.1.2.2.1), (.int .i64 u58.1.2.2.2), (.int .i64 u58.2.1), v63, v65]) (v := (.agg #[v59, v61, (.int .i64 u58.1.2.2.1), (.int .i64 u58.1.2.2.2), (.int .i64 u58.2.1), v63, v65])) tf_58 rfl rfl hS120 rfl rfl rfl (by simp) ?_
        refine WH.takex (i := 1) rfl (by kernel_rfl) (by kernel_rfl) (by kernel_rfl) hP hSW121 ?_
        refine pr_load_blk (i := 0) (vs := [v0_0, v0_1, (.int .i64 x0.1.2.2.1), (.int .i64 x0.1.2.2.2), (.int .i64 x0.2.1), v0_2, v0_3]) (v := (.agg #[v0_0, v0_1, (.int .i64 x0.1.2.2.1), (.int .i64 x0.1.2.2.2), (.int .i64 x0.2.1), v0_2, v0_3])) tf_51 rfl rfl hS120 rfl rfl rfl (by simp) ?_
        refine WH.one (i := 2) (by kernel_rfl) rfl ?_
        obtain ⟨u122, hu122, hF⟩ := bindE hF
        refine wl_call rfl Try.call37 (C_laws_toMarch w117 x0 v0_0 (h0_0.ro hB119) v0_1 (h0_1.ro hB119) v0_2 (h0_2.ro hB119) v0_3 (h0_3.ro hB119) _ hu122) rfl ?_
        rintro _ w131 ⟨v123, F124, v125, F126, v127, F128, v129, F130, rfl, hb132, hM135⟩
        refine ⟨_, rfl, ?_⟩
        have hB133 := hB119.trans (hb132.mono hB119.size)
        have hS134 := hS120.join hb132 hM135 hB119.size
        have hSW136 := hSW121.ext hb132
        refine WL.nil (WH.ret hSW136 ?_)
        refine WH.one (i := 3) (by kernel_rfl) rfl ?_
        obtain ⟨u137, hu137, hF⟩ := bindE hF
        refine wl_call rfl Try.call40 (C_laws_eqMarch w131 u58 v59 (hS134.own_ro (i := 10) rfl) v61 (hS134.own_ro (i := 11) rfl) v63 (hS134.own_ro (i := 12) rfl) v65 (hS134.own_ro (i := 13) rfl) u122 v123 (hS134.own_ro (i := 0) rfl) v125 (hS134.own_ro (i := 1) rfl) v127 (hS134.own_ro (i := 2) rfl) v129 (hS134.own_ro (i := 3) rfl) _ hu137) rfl ?_
        rintro _ w138 ⟨rfl, hb139⟩
        refine ⟨_, rfl, ?_⟩
        have hB140 := hB133.trans (hb139.mono hB133.size)
        have hS141 := hS134.below hb139
        have hSW143 := hSW136.ext hb139
        refine WL.nil (WH.ret hSW143 ?_)
        refine WH.takex (i := 4) rfl (by kernel_rfl) (by kernel_rfl) (by kernel_rfl) hP hSW143 ?_
        refine pr_not rfl rfl ?_
        refine WH.done (by kernel_rfl) ?_
        refine fun a ha => hK116 _ _ ?_ a ha
        refine W.cond rfl (fun h144 => ?_) (fun h144 => ?_)
        · replace hF := ifP h144 hF
          refine W.seq fun K145 hK145 => ?_
          refine W.region ?_
          refine wl_assign rfl rfl ?_
          refine WL.nil ?_
          refine fun a ha => hK145 _ _ ?_ a ha
          refine W.ret ?_
          have hr := Option.some.inj hF
          subst hr
          exact rets (vs := [(.bool false)]) hQ rfl ⟨rv_tmp rfl, trivial⟩ ⟨rfl, hB140⟩
        · replace hF := ifN h144 hF
          refine W.skip ?_
          refine fun a ha => hK115 _ _ ?_ a ha
          refine W.seq fun K146 hK146 => ?_
          refine W.region ?_
          refine wl_assign rfl rfl ?_
          refine WL.nil ?_
          refine fun a ha => hK146 _ _ ?_ a ha
          refine W.seq fun K147 hK147 => ?_
          refine W.region ?_
          refine wl_load_blk (i := 14) (vs := [v59, v61, (.int .i64 u58.1.2.2.1), (.int .i64 u58.1.2.2.2), (.int .i64 u58.2.1), v63, v65]) (v := (.agg #[v59, v61, (.int .i64 u58.1.2.2.1), (.int .i64 u58.1.2.2.2), (.int .i64 u58.2.1), v63, v65])) tf_58 rfl rfl hS141 rfl rfl rfl ?_
          refine wl_move rfl rfl ?_
          obtain ⟨u148, hu148, hF⟩ := bindE hF
          refine wl_call rfl Try.call43 (C_laws_markMarch w138 u58 v59 F60 v61 F62 v63 F64 v65 F66 1 (hS141.sel [10, 11, 12, 13] rfl).base0 _ hu148) rfl ?_
          rintro _ w149 ⟨rfl, hE150, hM151⟩
          refine ⟨_, rfl, ?_⟩
          have hB152 := hS141.mutB [10, 11, 12, 13] rfl (M := [R.own ty_70 F60 v59 u58.1.1, R.own ty_3 F62 v61 u58.1.2.1, R.own ty_3 F64 v63 u58.2.2.1, R.own ty_3 F66 v65 u58.2.2.2]) rfl (M' := [R.own ty_70 F60 v59 u148.2.1.1, R.own ty_3 F62 v61 u148.2.1.2.1, R.own ty_3 F64 v63 u148.2.2.2.1, R.own ty_3 F66 v65 u148.2.2.2.2]) rfl hB140 hB140.size hE150 hM151
          have hS153 : Sep w0.heap.size w149 [R.own ty_70 F60 v59 u148.2.1.1, R.own ty_3 F62 v61 u148.2.1.2.1, R.own ty_3 F64 v63 u148.2.2.2.1, R.own ty_3 F66 v65 u148.2.2.2.2, R.own ty_70 F124 v123 u122.1.1, R.own ty_3 F126 v125 u122.1.2.1, R.own ty_3 F128 v127 u122.2.2.1, R.own ty_3 F130 v129 u122.2.2.2, R.blk b2 51 [v0_0, v0_1, (.int .i64 x0.1.2.2.1), (.int .i64 x0.1.2.2.2), (.int .i64 x0.2.1), v0_2, v0_3], R.own ty_70 F36 v35 u34.1.1.1, R.own ty_3 F38 v37 u34.1.1.2.1, R.own ty_3 F40 v39 u34.1.2.2.1, R.own ty_3 F42 v41 u34.1.2.2.2, R.blk b48 58 [v35, v37, (.int .i64 u34.1.1.2.2.1), (.int .i64 u34.1.1.2.2.2), (.int .i64 u34.1.2.1), v39, v41], R.blk b72 58 [v59, v61, (.int .i64 u58.1.2.2.1), (.int .i64 u58.1.2.2.2), (.int .i64 u58.2.1), v63, v65], R.own ty_70 F84 v83 u82.1.1.1, R.own ty_3 F86 v85 u82.1.1.2.1, R.own ty_3 F88 v87 u82.1.2.2.1, R.own ty_3 F90 v89 u82.1.2.2.2, R.blk b96 58 [v83, v85, (.int .i64 u82.1.1.2.2.1), (.int .i64 u82.1.1.2.2.2), (.int .i64 u82.1.2.1), v87, v89]] := hS141.mut [10, 11, 12, 13] [0, 1, 2, 3, 4, 5, 6, 7, 8, 9, 14, 15, 16, 17, 18, 19] rfl (M := [R.own ty_70 F60 v59 u58.1.1, R.own ty_3 F62 v61 u58.1.2.1, R.own ty_3 F64 v63 u58.2.2.1, R.own ty_3 F66 v65 u58.2.2.2]) rfl (M' := [R.own ty_70 F60 v59 u148.2.1.1, R.own ty_3 F62 v61 u148.2.1.2.1, R.own ty_3 F64 v63 u148.2.2.2.1, R.own ty_3 F66 v65 u148.2.2.2.2]) rfl hM151
          refine wl_assign rfl rfl ?_
          refine WL.nil ?_
          refine fun a ha => hK147 _ _ ?_ a ha
          refine W.seq fun K154 hK154 => ?_
          refine W.seq fun K155 hK155 => ?_
          obtain ⟨k160, hk160, hF⟩ := jE1 hF
          have hJ161 : ∀ (y159 : Bool) (w156 : World) (_ : k160 y159 = some r) (_ : Below w0.heap.size w0 w156) (_ : Sep w0.heap.size w156 [R.blk b2 51 [v0_0, v0_1, (.int .i64 x0.1.2.2.1), (.int .i64 x0.1.2.2.2), (.int .i64 x0.2.1), v0_2, v0_3], R.own ty_70 F36 v35 u34.1.1.1, R.own ty_3 F38 v37 u34.1.1.2.1, R.own ty_3 F40 v39 u34.1.2.2.1, R.own ty_3 F42 v41 u34.1.2.2.2, R.blk b48 58 [v35, v37, (.int .i64 u34.1.1.2.2.1), (.int .i64 u34.1.1.2.2.2), (.int .i64 u34.1.2.1), v39, v41], R.own ty_70 F84 v83 u82.1.1.1, R.own ty_3 F86 v85 u82.1.1.2.1, R.own ty_3 F88 v87 u82.1.2.2.1, R.own ty_3 F90 v89 u82.1.2.2.2, R.blk b96 58 [v83, v85, (.int .i64 u82.1.1.2.2.1), (.int .i64 u82.1.1.2.2.2), (.int .i64 u82.1.2.1), v87, v89]]), ∀ a, St 101 [(1, (.int .i64 x1)), (2, (.pointer (some ⟨b2, 0, none⟩))), (6, (.pointer (some ⟨b48, 0, none⟩))), (7, (.bool u34.2)), (9, (.pointer (some ⟨b96, 0, none⟩))), (65, (.bool y159))] a → K155 a w156 := by
            intro y159 w156 hF hB157 hS158
            subst hk160
            refine fun a ha => hK155 _ _ ?_ a ha
            refine W.cond rfl (fun h162 => ?_) (fun h162 => ?_)
            · replace hF := ifP h162 hF
              refine W.seq fun K163 hK163 => ?_
              refine W.region ?_
              refine wl_assign rfl rfl ?_
              refine WL.nil ?_
              refine fun a ha => hK163 _ _ ?_ a ha
              refine W.ret ?_
              have hr := Option.some.inj hF
              subst hr
              exact rets (vs := [(.bool false)]) hQ rfl ⟨rv_tmp rfl, trivial⟩ ⟨rfl, hB157⟩
            · replace hF := ifN h162 hF
              refine W.skip ?_
              refine fun a ha => hK154 _ _ ?_ a ha
              refine W.seq fun K164 hK164 => ?_
              refine W.region ?_
              refine wl_assign rfl rfl ?_
              refine WL.nil ?_
              refine fun a ha => hK164 _ _ ?_ a ha
              refine W.seq fun K165 hK165 => ?_
              refine W.region ?_
              refine wl_load_blk (i := 10) (vs := [v83, v85, (.int .i64 u82.1.1.2.2.1), (.int .i64 u82.1.1.2.2.2), (.int .i64 u82.1.2.1), v87, v89]) (v := (.agg #[v83, v85, (.int .i64 u82.1.1.2.2.1), (.int .i64 u82.1.1.2.2.2), (.int .i64 u82.1.2.1), v87, v89])) tf_58 rfl rfl hS158 rfl rfl rfl ?_
              refine wl_move rfl rfl ?_
              obtain ⟨u166, hu166, hF⟩ := bindE hF
              refine wl_call rfl Try.call43 (C_laws_markMarch w156 u82.1 v83 F84 v85 F86 v87 F88 v89 F90 1 (hS158.sel [6, 7, 8, 9] rfl).base0 _ hu166) rfl ?_
              rintro _ w167 ⟨rfl, hE168, hM169⟩
              refine ⟨_, rfl, ?_⟩
              have hB170 := hS158.mutB [6, 7, 8, 9] rfl (M := [R.own ty_70 F84 v83 u82.1.1.1, R.own ty_3 F86 v85 u82.1.1.2.1, R.own ty_3 F88 v87 u82.1.2.2.1, R.own ty_3 F90 v89 u82.1.2.2.2]) rfl (M' := [R.own ty_70 F84 v83 u166.2.1.1, R.own ty_3 F86 v85 u166.2.1.2.1, R.own ty_3 F88 v87 u166.2.2.2.1, R.own ty_3 F90 v89 u166.2.2.2.2]) rfl hB157 hB157.size hE168 hM169
              have hS171 : Sep w0.heap.size w167 [R.own ty_70 F84 v83 u166.2.1.1, R.own ty_3 F86 v85 u166.2.1.2.1, R.own ty_3 F88 v87 u166.2.2.2.1, R.own ty_3 F90 v89 u166.2.2.2.2, R.blk b2 51 [v0_0, v0_1, (.int .i64 x0.1.2.2.1), (.int .i64 x0.1.2.2.2), (.int .i64 x0.2.1), v0_2, v0_3], R.own ty_70 F36 v35 u34.1.1.1, R.own ty_3 F38 v37 u34.1.1.2.1, R.own ty_3 F40 v39 u34.1.2.2.1, R.own ty_3 F42 v41 u34.1.2.2.2, R.blk b48 58 [v35, v37, (.int .i64 u34.1.1.2.2.1), (.int .i64 u34.1.1.2.2.2), (.int .i64 u34.1.2.1), v39, v41], R.blk b96 58 [v83, v85, (.int .i64 u82.1.1.2.2.1), (.int .i64 u82.1.1.2.2.2), (.int .i64 u82.1.2.1), v87, v89]] := hS158.mut [6, 7, 8, 9] [0, 1, 2, 3, 4, 5, 10] rfl (M := [R.own ty_70 F84 v83 u82.1.1.1, R.own ty_3 F86 v85 u82.1.1.2.1, R.own ty_3 F88 v87 u82.1.2.2.1, R.own ty_3 F90 v89 u82.1.2.2.2]) rfl (M' := [R.own ty_70 F84 v83 u166.2.1.1, R.own ty_3 F86 v85 u166.2.1.2.1, R.own ty_3 F88 v87 u166.2.2.2.1, R.own ty_3 F90 v89 u166.2.2.2.2]) rfl hM169
              refine wl_assign rfl rfl ?_
              refine WL.nil ?_
              refine fun a ha => hK165 _ _ ?_ a ha
              refine W.seq fun K172 hK172 => ?_
              refine W.region ?_
              refine wl_assign rfl rfl ?_
              refine WL.nil ?_
              refine fun a ha => hK172 _ _ ?_ a ha
              refine W.seq fun K173 hK173 => ?_
              refine W.region ?_
              refine wl_load_blk (i := 10) (vs := [v83, v85, (.int .i64 u82.1.1.2.2.1), (.int .i64 u82.1.1.2.2.2), (.int .i64 u82.1.2.1), v87, v89]) (v := (.agg #[v83, v85, (.int .i64 u82.1.1.2.2.1), (.int .i64 u82.1.1.2.2.2), (.int .i64 u82.1.2.1), v87, v89])) tf_58 rfl rfl hS171 rfl rfl rfl ?_
              refine wl_move rfl rfl ?_
              obtain ⟨u174, hu174, hF⟩ := bindE hF
              refine wl_call rfl Try.call44 (C_laws_heldMarch w167 ((u166.2.1.1, u166.2.1.2.1, u82.1.1.2.2.1, u82.1.1.2.2.2), u82.1.2.1, u166.2.2.2.1, u166.2.2.2.2) v83 (hS171.own_ro (i := 0) rfl) v85 (hS171.own_ro (i := 1) rfl) v87 (hS171.own_ro (i := 2) rfl) v89 (hS171.own_ro (i := 3) rfl) 1 _ hu174) rfl ?_
              rintro _ w175 ⟨rfl, hb176⟩
              refine ⟨_, rfl, ?_⟩
              have hB177 := hB170.trans (hb176.mono hB170.size)
              have hS178 := hS171.below hb176
              refine wl_assign rfl rfl ?_
              refine WL.nil ?_
              refine fun a ha => hK173 _ _ ?_ a ha
              refine W.seq fun K180 hK180 => ?_
              refine W.seq fun K181 hK181 => ?_
              refine W.region ?_
              refine wl_move rfl rfl ?_
              refine wl_lss rfl rfl rfl ?_
              refine WL.nil ?_
              refine fun a ha => hK181 _ _ ?_ a ha
              refine W.cond rfl (fun h182 => ?_) (fun h182 => ?_)
              · replace hF := ifP h182 hF
                refine W.seq fun K183 hK183 => ?_
                refine W.region ?_
                refine wl_assign rfl rfl ?_
                refine WL.nil ?_
                refine fun a ha => hK183 _ _ ?_ a ha
                refine W.ret ?_
                have hr := Option.some.inj hF
                subst hr
                exact rets (vs := [(.bool false)]) hQ rfl ⟨rv_tmp rfl, trivial⟩ ⟨rfl, hB177⟩
              · replace hF := ifN h182 hF
                refine W.skip ?_
                refine fun a ha => hK180 _ _ ?_ a ha
                refine W.seq fun K184 hK184 => ?_
                refine W.seq fun K185 hK185 => ?_
                refine W.region ?_
                refine wl_move rfl rfl ?_
                refine wl_move rfl rfl ?_
                refine wl_neq rfl rfl rfl ?_
                refine WL.nil ?_
                refine fun a ha => hK185 _ _ ?_ a ha
                refine W.cond rfl (fun h186 => ?_) (fun h186 => ?_)
                · replace hF := ifP h186 hF
                  refine W.seq fun K187 hK187 => ?_
                  refine W.region ?_
                  refine wl_assign rfl rfl ?_
                  refine WL.nil ?_
                  refine fun a ha => hK187 _ _ ?_ a ha
                  refine W.ret ?_
                  have hr := Option.some.inj hF
                  subst hr
                  exact rets (vs := [(.bool false)]) hQ rfl ⟨rv_tmp rfl, trivial⟩ ⟨rfl, hB177⟩
                · replace hF := ifN h186 hF
                  refine W.skip ?_
                  refine fun a ha => hK184 _ _ ?_ a ha
                  refine W.seq fun K188 hK188 => ?_
                  refine W.region ?_
                  refine wl_load_blk (i := 4) (vs := [v0_0, v0_1, (.int .i64 x0.1.2.2.1), (.int .i64 x0.1.2.2.2), (.int .i64 x0.2.1), v0_2, v0_3]) (v := (.agg #[v0_0, v0_1, (.int .i64 x0.1.2.2.1), (.int .i64 x0.1.2.2.2), (.int .i64 x0.2.1), v0_2, v0_3])) tf_51 rfl rfl hS178 rfl rfl rfl ?_
                  obtain ⟨u189, hu189, hF⟩ := bindE hF
                  refine wl_call rfl Try.call37 (C_laws_toMarch w175 x0 v0_0 (h0_0.ro hB177) v0_1 (h0_1.ro hB177) v0_2 (h0_2.ro hB177) v0_3 (h0_3.ro hB177) _ hu189) rfl ?_
                  rintro _ w198 ⟨v190, F191, v192, F193, v194, F195, v196, F197, rfl, hb199, hM202⟩
                  refine ⟨_, rfl, ?_⟩
                  have hB200 := hB177.trans (hb199.mono hB177.size)
                  have hS201 := hS178.join hb199 hM202 hB177.size
                  refine wl_move rfl rfl ?_
                  obtain ⟨u203, hu203, hF⟩ := bindE hF
                  refine wl_call rfl Try.call46 (C_impl_GoOn w198 u189 v190 (hS201.own_ro (i := 0) rfl) v192 (hS201.own_ro (i := 1) rfl) v194 (hS201.own_ro (i := 2) rfl) v196 (hS201.own_ro (i := 3) rfl) x1 _ hu203) rfl ?_
                  rintro _ w212 ⟨v204, F205, v206, F207, v208, F209, v210, F211, rfl, hb213, hM216⟩
                  refine ⟨_, rfl, ?_⟩
                  have hB214 := hB200.trans (hb213.mono hB200.size)
                  have hS215 := hS201.join hb213 hM216 hB200.size
                  refine wl_move rfl rfl ?_
                  refine wl_extract rfl rfl rfl ?_
                  refine wl_extract rfl rfl rfl ?_
                  refine wl_alloc (cs := [(.slice none 0 0), (.slice none 0 0), (.int .i64 0), (.int .i64 0), (.int .i64 0), (.slice none 0 0), (.slice none 0 0)]) tf_58 rfl rfl hB214 hS215 ?_
                  intro b217 w218 hb219 hB220 hS221
                  refine wl_store_blk (i := 0) (vs := [v204, v206, (.int .i64 u203.1.1.2.2.1), (.int .i64 u203.1.1.2.2.2), (.int .i64 u203.1.2.1), v208, v210]) (cs' := [v204, v206, (.int .i64 u203.1.1.2.2.1), (.int .i64 u203.1.1.2.2.2), (.int .i64 u203.1.2.1), v208, v210]) tf_58 rfl rfl rfl rfl hB220 hS221 rfl rfl ⟨(hS221.own_ro (i := 1) rfl).one, (hS221.own_ro (i := 2) rfl).one, rfl, rfl, rfl, (hS221.own_ro (i := 3) rfl).one, (hS221.own_ro (i := 4) rfl).one, trivial⟩ rfl ?_
                  intro w222 hk225 hB223 hS224
                  refine wl_assign rfl rfl ?_
                  refine WL.nil ?_
                  refine fun a ha => hK188 _ _ ?_ a ha
                  refine W.seq fun K226 hK226 => ?_
                  refine W.seq fun K227 hK227 => ?_
                  obtain ⟨k232, hk232, hF⟩ := jE1 hF
                  have hJ233 : ∀ (y231 : Bool) (w228 : World) (_ : k232 y231 = some r) (_ : Below w0.heap.size w0 w228) (_ : Sep w0.heap.size w228 [R.own ty_70 F84 v83 u166.2.1.1, R.own ty_3 F86 v85 u166.2.1.2.1, R.own ty_3 F88 v87 u166.2.2.2.1, R.own ty_3 F90 v89 u166.2.2.2.2, R.blk b96 58 [v83, v85, (.int .i64 u82.1.1.2.2.1), (.int .i64 u82.1.1.2.2.2), (.int .i64 u82.1.2.1), v87, v89]]), ∀ a, St 101 [(9, (.pointer (some ⟨b96, 0, none⟩))), (12, (.int .i64 u166.1)), (92, (.bool y231))] a → K227 a w228 := by
                    intro y231 w228 hF hB229 hS230
                    subst hk232
                    refine fun a ha => hK227 _ _ ?_ a ha
                    refine W.cond rfl (fun h234 => ?_) (fun h234 => ?_)
                    · replace hF := ifP h234 hF
                      refine W.seq fun K235 hK235 => ?_
                      refine W.region ?_
                      refine wl_assign rfl rfl ?_
                      refine WL.nil ?_
                      refine fun a ha => hK235 _ _ ?_ a ha
                      refine W.ret ?_
                      have hr := Option.some.inj hF
                      subst hr
                      exact rets (vs := [(.bool false)]) hQ rfl ⟨rv_tmp rfl, trivial⟩ ⟨rfl, hB229⟩
                    · replace hF := ifN h234 hF
                      refine W.skip ?_
                      refine fun a ha => hK226 _ _ ?_ a ha
                      refine W.seq fun K236 hK236 => ?_
                      refine W.region ?_
                      refine wl_assign rfl rfl ?_
                      refine WL.nil ?_
                      refine fun a ha => hK236 _ _ ?_ a ha
                      refine W.seq fun K237 hK237 => ?_
                      refine W.region ?_
                      refine wl_load_blk (i := 4) (vs := [v83, v85, (.int .i64 u82.1.1.2.2.1), (.int .i64 u82.1.1.2.2.2), (.int .i64 u82.1.2.1), v87, v89]) (v := (.agg #[v83, v85, (.int .i64 u82.1.1.2.2.1), (.int .i64 u82.1.1.2.2.2), (.int .i64 u82.1.2.1), v87, v89])) tf_58 rfl rfl hS230 rfl rfl rfl ?_
                      refine wl_move rfl rfl ?_
                      obtain ⟨u238, hu238, hF⟩ := bindE hF
                      refine wl_call rfl Try.call44 (C_laws_heldMarch w228 ((u166.2.1.1, u166.2.1.2.1, u82.1.1.2.2.1, u82.1.1.2.2.2), u82.1.2.1, u166.2.2.2.1, u166.2.2.2.2) v83 (hS230.own_ro (i := 0) rfl) v85 (hS230.own_ro (i := 1) rfl) v87 (hS230.own_ro (i := 2) rfl) v89 (hS230.own_ro (i := 3) rfl) 1 _ hu238) rfl ?_
                      rintro _ w239 ⟨rfl, hb240⟩
                      refine ⟨_, rfl, ?_⟩
                      have hB241 := hB229.trans (hb240.mono hB229.size)
                      have hS242 := hS230.below hb240
                      refine wl_assign rfl rfl ?_
                      refine WL.nil ?_
                      refine fun a ha => hK237 _ _ ?_ a ha
                      refine W.seq fun K244 hK244 => ?_
                      refine W.seq fun K245 hK245 => ?_
                      refine W.region ?_
                      refine wl_move rfl rfl ?_
                      refine wl_lss rfl rfl rfl ?_
                      refine WL.nil ?_
                      refine fun a ha => hK245 _ _ ?_ a ha
                      refine W.cond rfl (fun h246 => ?_) (fun h246 => ?_)
                      · replace hF := ifP h246 hF
                        refine W.seq fun K247 hK247 => ?_
                        refine W.region ?_
                        refine wl_assign rfl rfl ?_
                        refine WL.nil ?_
                        refine fun a ha => hK247 _ _ ?_ a ha
                        refine W.ret ?_
                        have hr := Option.some.inj hF
                        subst hr
                        exact rets (vs := [(.bool false)]) hQ rfl ⟨rv_tmp rfl, trivial⟩ ⟨rfl, hB241⟩
                      · replace hF := ifN h246 hF
                        refine W.skip ?_
                        refine fun a ha => hK244 _ _ ?_ a ha
                        refine W.seq fun K248 hK248 => ?_
                        refine W.seq fun K249 hK249 => ?_
                        refine W.region ?_
                        refine wl_move rfl rfl ?_
                        refine wl_move rfl rfl ?_
                        refine wl_neq rfl rfl rfl ?_
                        refine WL.nil ?_
                        refine fun a ha => hK249 _ _ ?_ a ha
                        refine W.cond rfl (fun h250 => ?_) (fun h250 => ?_)
                        · replace hF := ifP h250 hF
                          refine W.seq fun K251 hK251 => ?_
                          refine W.region ?_
                          refine wl_assign rfl rfl ?_
                          refine WL.nil ?_
                          refine fun a ha => hK251 _ _ ?_ a ha
                          refine W.ret ?_
                          have hr := Option.some.inj hF
                          subst hr
                          exact rets (vs := [(.bool false)]) hQ rfl ⟨rv_tmp rfl, trivial⟩ ⟨rfl, hB241⟩
                        · replace hF := ifN h250 hF
                          refine W.skip ?_
                          refine fun a ha => hK248 _ _ ?_ a ha
                          refine W.seq fun K252 hK252 => ?_
                          refine W.region ?_
                          refine wl_assign rfl rfl ?_
                          refine WL.nil ?_
                          refine fun a ha => hK252 _ _ ?_ a ha
                          refine W.ret ?_
                          have hr := Option.some.inj hF
                          subst hr
                          exact rets (vs := [(.bool true)]) hQ rfl ⟨rv_tmp rfl, trivial⟩ ⟨rfl, hB241⟩
                  refine W.region ?_
                  refine wl_load_blk (i := 0) (vs := [v204, v206, (.int .i64 u203.1.1.2.2.1), (.int .i64 u203.1.1.2.2.2), (.int .i64 u203.1.2.1), v208, v210]) (v := (.agg #[v204, v206, (.int .i64 u203.1.1.2.2.1), (.int .i64 u203.1.1.2.2.2), (.int .i64 u203.1.2.1), v208, v210])) tf_58 rfl rfl hS224 rfl rfl rfl ?_
                  refine wl_load_blk (i := 18) (vs := [v35, v37, (.int .i64 u34.1.1.2.2.1), (.int .i64 u34.1.1.2.2.2), (.int .i64 u34.1.2.1), v39, v41]) (v := (.agg #[v35, v37, (.int .i64 u34.1.1.2.2.1), (.int .i64 u34.1.1.2.2.2), (.int .i64 u34.1.2.1), v39, v41])) tf_58 rfl rfl hS224 rfl rfl rfl ?_
                  obtain ⟨u253, hu253, hF⟩ := bindE hF
                  refine wl_call rfl Try.call40 (C_laws_eqMarch w222 u203.1 v204 (hS224.own_ro (i := 1) rfl) v206 (hS224.own_ro (i := 2) rfl) v208 (hS224.own_ro (i := 3) rfl) v210 (hS224.own_ro (i := 4) rfl) u34.1 v35 (hS224.own_ro (i := 14) rfl) v37 (hS224.own_ro (i := 15) rfl) v39 (hS224.own_ro (i := 16) rfl) v41 (hS224.own_ro (i := 17) rfl) _ hu253) rfl ?_
                  rintro _ w254 ⟨rfl, hb255⟩
                  refine ⟨_, rfl, ?_⟩
                  have hB256 := hB223.trans (hb255.mono hB223.size)
                  have hS257 := hS224.below hb255
                  refine wl_not rfl rfl ?_
                  refine wl_move rfl rfl ?_
                  rcases bE (!u253) with h259 | h259
                  · replace hF := ifP h259 hF
                    refine wl_off rfl rfl rfl h259 ?_
                    refine wl_off rfl rfl rfl h259 ?_
                    refine wl_off rfl rfl rfl h259 ?_
                    refine wl_pick_t rfl rfl h259 rfl ?_
                    refine WL.nil ?_
                    exact fun a ha => hJ233 (true) _ hF hB256 (hS257.sel [9, 10, 11, 12, 19] rfl) a (ha.sub ⟨rfl, rfl, rfl, trivial⟩)
                  · replace hF := ifN h259 hF
                    refine wl_on rfl rfl h259 ?_
                    refine wl_move rfl rfl ?_
                    refine wl_on rfl rfl h259 ?_
                    refine wl_move rfl rfl ?_
                    refine wl_on rfl rfl h259 ?_
                    refine wl_neqb Try.underlying4 rfl rfl rfl ?_
                    refine wl_pick_f rfl rfl h259 rfl ?_
                    refine WL.nil ?_
                    exact fun a ha => hJ233 ((u203.2 != u34.2)) _ hF hB256 (hS257.sel [9, 10, 11, 12, 19] rfl) a (ha.sub ⟨rfl, rfl, rfl, trivial⟩)
          refine W.region ?_
          refine wl_move rfl rfl ?_
          refine wl_lss rfl rfl rfl ?_
          refine wl_move rfl rfl ?_
          rcases bE (decide (u148.1 < 0)) with h260 | h260
          · replace hF := ifP h260 hF
            refine wl_off rfl rfl rfl h260 ?_
            refine wl_off rfl rfl rfl h260 ?_
            refine wl_off rfl rfl rfl h260 ?_
            refine wl_off rfl rfl rfl h260 ?_
            refine wl_pick_t rfl rfl h260 rfl ?_
            refine wl_move rfl rfl ?_
            refine wl_off rfl rfl rfl rfl ?_
            refine wl_off rfl rfl rfl rfl ?_
            refine wl_off rfl rfl rfl rfl ?_
            refine wl_pick_t rfl rfl rfl rfl ?_
            refine WL.nil ?_
            exact fun a ha => hJ161 (true) _ hF hB152 (hS153.sel [8, 9, 10, 11, 12, 13, 15, 16, 17, 18, 19] rfl) a (ha.sub ⟨rfl, rfl, rfl, rfl, rfl, rfl, trivial⟩)
          · replace hF := ifN h260 hF
            refine wl_on rfl rfl h260 ?_
            refine wl_load_blk (i := 19) (vs := [v83, v85, (.int .i64 u82.1.1.2.2.1), (.int .i64 u82.1.1.2.2.2), (.int .i64 u82.1.2.1), v87, v89]) (v := (.agg #[v83, v85, (.int .i64 u82.1.1.2.2.1), (.int .i64 u82.1.1.2.2.2), (.int .i64 u82.1.2.1), v87, v89])) tf_58 rfl rfl hS153 rfl rfl rfl ?_
            refine wl_on rfl rfl h260 ?_
            refine wl_load_blk (i := 13) (vs := [v35, v37, (.int .i64 u34.1.1.2.2.1), (.int .i64 u34.1.1.2.2.2), (.int .i64 u34.1.2.1), v39, v41]) (v := (.agg #[v35, v37, (.int .i64 u34.1.1.2.2.1), (.int .i64 u34.1.1.2.2.2), (.int .i64 u34.1.2.1), v39, v41])) tf_58 rfl rfl hS153 rfl rfl rfl ?_
            refine wl_on rfl rfl h260 ?_
            obtain ⟨u261, hu261, hF⟩ := bindE hF
            refine wl_call rfl Try.call40 (C_laws_eqMarch w149 u82.1 v83 (hS153.own_ro (i := 15) rfl) v85 (hS153.own_ro (i := 16) rfl) v87 (hS153.own_ro (i := 17) rfl) v89 (hS153.own_ro (i := 18) rfl) u34.1 v35 (hS153.own_ro (i := 9) rfl) v37 (hS153.own_ro (i := 10) rfl) v39 (hS153.own_ro (i := 11) rfl) v41 (hS153.own_ro (i := 12) rfl) _ hu261) rfl ?_
            rintro _ w262 ⟨rfl, hb263⟩
            refine ⟨_, rfl, ?_⟩
            have hB264 := hB152.trans (hb263.mono hB152.size)
            have hS265 := hS153.below hb263
            refine wl_on rfl rfl h260 ?_
            refine wl_not rfl rfl ?_
            refine wl_pick_f rfl rfl h260 rfl ?_
            refine wl_move rfl rfl ?_
            rcases bE (!u261) with h267 | h267
            · replace hF := ifP h267 hF
              refine wl_off rfl rfl rfl h267 ?_
              refine wl_off rfl rfl rfl h267 ?_
              refine wl_off rfl rfl rfl h267 ?_
              refine wl_pick_t rfl rfl h267 rfl ?_
              refine WL.nil ?_
              exact fun a ha => hJ161 (true) _ hF hB264 (hS265.sel [8, 9, 10, 11, 12, 13, 15, 16, 17, 18, 19] rfl) a (ha.sub ⟨rfl, rfl, rfl, rfl, rfl, rfl, trivial⟩)
            · replace hF := ifN h267 hF
              refine wl_on rfl rfl h267 ?_
              refine wl_move rfl rfl ?_
              refine wl_on rfl rfl h267 ?_
              refine wl_move rfl rfl ?_
              refine wl_on rfl rfl h267 ?_
              refine wl_neqb Try.underlying4 rfl rfl rfl ?_
              refine wl_pick_f rfl rfl h267 rfl ?_
              refine WL.nil ?_
              exact fun a ha => hJ161 ((u82.2 != u34.2)) _ hF hB264 (hS265.sel [8, 9, 10, 11, 12, 13, 15, 16, 17, 18, 19] rfl) a (ha.sub ⟨rfl, rfl, rfl, rfl, rfl, rfl, trivial⟩)
    refine W.region ?_
    refine wl_load_blk (i := 0) (vs := [v83, v85, (.int .i64 u82.1.1.2.2.1), (.int .i64 u82.1.1.2.2.2), (.int .i64 u82.1.2.1), v87, v89]) (v := (.agg #[v83, v85, (.int .i64 u82.1.1.2.2.1), (.int .i64 u82.1.1.2.2.2), (.int .i64 u82.1.2.1), v87, v89])) tf_58 rfl rfl hS103 rfl rfl rfl ?_
    refine wl_load_blk (i := 10) (vs := [v35, v37, (.int .i64 u34.1.1.2.2.1), (.int .i64 u34.1.1.2.2.2), (.int .i64 u34.1.2.1), v39, v41]) (v := (.agg #[v35, v37, (.int .i64 u34.1.1.2.2.1), (.int .i64 u34.1.1.2.2.2), (.int .i64 u34.1.2.1), v39, v41])) tf_58 rfl rfl hS103 rfl rfl rfl ?_
    obtain ⟨u268, hu268, hF⟩ := bindE hF
    refine wl_call rfl Try.call40 (C_laws_eqMarch w101 u82.1 v83 (hS103.own_ro (i := 1) rfl) v85 (hS103.own_ro (i := 2) rfl) v87 (hS103.own_ro (i := 3) rfl) v89 (hS103.own_ro (i := 4) rfl) u34.1 v35 (hS103.own_ro (i := 11) rfl) v37 (hS103.own_ro (i := 12) rfl) v39 (hS103.own_ro (i := 13) rfl) v41 (hS103.own_ro (i := 14) rfl) _ hu268) rfl ?_
    rintro _ w269 ⟨rfl, hb270⟩
    refine ⟨_, rfl, ?_⟩
    have hB271 := hB102.trans (hb270.mono hB102.size)
    have hS272 := hS103.below hb270
    refine wl_not rfl rfl ?_
    refine wl_move rfl rfl ?_
    rcases bE (!u268) with h274 | h274
    · replace hF := ifP h274 hF
      refine wl_off rfl rfl rfl h274 ?_
      refine wl_off rfl rfl rfl h274 ?_
      refine wl_off rfl rfl rfl h274 ?_
      refine wl_pick_t rfl rfl h274 rfl ?_
      refine WL.nil ?_
      exact fun a ha => hJ112 (true) _ hF hB271 (hS272.sel [19, 11, 12, 13, 14, 10, 6, 7, 8, 9, 5, 1, 2, 3, 4, 0] rfl) a (ha.sub ⟨rfl, rfl, rfl, rfl, rfl, rfl, rfl, rfl, trivial⟩)
    · replace hF := ifN h274 hF
      refine wl_on rfl rfl h274 ?_
      refine wl_move rfl rfl ?_
      refine wl_on rfl rfl h274 ?_
      refine wl_move rfl rfl ?_
      refine wl_on rfl rfl h274 ?_
      refine wl_neqb Try.underlying4 rfl rfl rfl ?_
      refine wl_pick_f rfl rfl h274 rfl ?_
      refine WL.nil ?_
      exact fun a ha => hJ112 ((u82.2 != u34.2)) _ hF hB271 (hS272.sel [19, 11, 12, 13, 14, 10, 6, 7, 8, 9, 5, 1, 2, 3, 4, 0] rfl) a (ha.sub ⟨rfl, rfl, rfl, rfl, rfl, rfl, rfl, rfl, trivial⟩)
end Go.Proofs.Ythlfhcefeaehmaa
