/-
  THE WALKS of functions of this seat, by program (gen.py).
-/
import Derived.Test.YthlfhcefeaehmaaH
import Derived.Test.YthlfhcefeaehmaaWFnExactLeastToKeep
import Derived.Test.YthlfhcefeaehmaaWFnExactLeastToKeep2
set_option linter.unusedSimpArgs false
set_option linter.unusedVariables false
set_option maxRecDepth 100000
namespace Go.Proofs.Ythlfhcefeaehmaa
open Go Go.RowKit
theorem C_bits_Mul64 (w0 : World) (x0 : Int) (x1 : Int) (r : (Int × Int)) (hF : F_bits_Mul64 x0 x1 = some r) :
    Calls Try.prog 123 [(.int .u64 x0), (.int .u64 x1)].toArray w0 fun e w' => e = .returned (.tuple #[(.int .u64 r.1), (.int .u64 r.2)]) ∧ Below w0.heap.size w0 w' := by
  refine calls_mk' Try.func123 rfl Try.ntmps123 rfl rfl fun Q hQ hP => ?_
  have hB : Below w0.heap.size w0 w0 := Below.refl _ _
  have hS : Sep w0.heap.size w0 [] := Sep.nil _ _
  unfold F_bits_Mul64 at hF
  refine W.seq fun K1 hK1 => ?_
  refine W.region ?_
  refine wl_assign rfl rfl ?_
  refine wl_assign rfl rfl ?_
  refine WL.nil ?_
  refine fun a ha => hK1 _ _ ?_ a ha
  refine W.seq fun K2 hK2 => ?_
  refine W.region ?_
  refine wl_move rfl rfl ?_
  refine wl_and rfl rfl rfl ?_
  refine wl_assign rfl rfl ?_
  refine WL.nil ?_
  refine fun a ha => hK2 _ _ ?_ a ha
  refine W.seq fun K3 hK3 => ?_
  refine W.region ?_
  refine wl_move rfl rfl ?_
  refine wl_shr rfl rfl rfl rfl ?_
  refine wl_assign rfl rfl ?_
  refine WL.nil ?_
  refine fun a ha => hK3 _ _ ?_ a ha
  refine W.seq fun K4 hK4 => ?_
  refine W.region ?_
  refine wl_move rfl rfl ?_
  refine wl_and rfl rfl rfl ?_
  refine wl_assign rfl rfl ?_
  refine WL.nil ?_
  refine fun a ha => hK4 _ _ ?_ a ha
  refine W.seq fun K5 hK5 => ?_
  refine W.region ?_
  refine wl_move rfl rfl ?_
  refine wl_shr rfl rfl rfl rfl ?_
  refine wl_assign rfl rfl ?_
  refine WL.nil ?_
  refine fun a ha => hK5 _ _ ?_ a ha
  refine W.seq fun K6 hK6 => ?_
  refine W.region ?_
  refine wl_move rfl rfl ?_
  refine wl_move rfl rfl ?_
  refine wl_mul rfl rfl rfl ?_
  refine wl_assign rfl rfl ?_
  refine WL.nil ?_
  refine fun a ha => hK6 _ _ ?_ a ha
  refine W.seq fun K7 hK7 => ?_
  refine W.region ?_
  refine wl_move rfl rfl ?_
  refine wl_move rfl rfl ?_
  refine wl_mul rfl rfl rfl ?_
  refine wl_move rfl rfl ?_
  refine wl_shr rfl rfl rfl rfl ?_
  refine wl_add rfl rfl rfl ?_
  refine wl_assign rfl rfl ?_
  refine WL.nil ?_
  refine fun a ha => hK7 _ _ ?_ a ha
  refine W.seq fun K8 hK8 => ?_
  refine W.region ?_
  refine wl_move rfl rfl ?_
  refine wl_and rfl rfl rfl ?_
  refine wl_assign rfl rfl ?_
  refine WL.nil ?_
  refine fun a ha => hK8 _ _ ?_ a ha
  refine W.seq fun K9 hK9 => ?_
  refine W.region ?_
  refine wl_move rfl rfl ?_
  refine wl_shr rfl rfl rfl rfl ?_
  refine wl_assign rfl rfl ?_
  refine WL.nil ?_
  refine fun a ha => hK9 _ _ ?_ a ha
  refine W.seq fun K10 hK10 => ?_
  refine W.region ?_
  refine wl_move rfl rfl ?_
  refine wl_move rfl rfl ?_
  refine wl_move rfl rfl ?_
  refine wl_mul rfl rfl rfl ?_
  refine wl_add rfl rfl rfl ?_
  refine wl_assign rfl rfl ?_
  refine WL.nil ?_
  refine fun a ha => hK10 _ _ ?_ a ha
  refine W.seq fun K11 hK11 => ?_
  refine W.region ?_
  refine wl_move rfl rfl ?_
  refine wl_move rfl rfl ?_
  refine wl_mul rfl rfl rfl ?_
  refine wl_move rfl rfl ?_
  refine wl_add rfl rfl rfl ?_
  refine wl_move rfl rfl ?_
  refine wl_shr rfl rfl rfl rfl ?_
  refine wl_add rfl rfl rfl ?_
  refine wl_assign rfl rfl ?_
  refine WL.nil ?_
  refine fun a ha => hK11 _ _ ?_ a ha
  refine W.seq fun K12 hK12 => ?_
  refine W.region ?_
  refine wl_move rfl rfl ?_
  refine wl_move rfl rfl ?_
  refine wl_mul rfl rfl rfl ?_
  refine wl_assign rfl rfl ?_
  refine WL.nil ?_
  refine fun a ha => hK12 _ _ ?_ a ha
  refine W.ret ?_
  have hr := Option.some.inj hF
  subst hr
  exact rets (vs := [(.int .u64 (wu64 ((wu64 ((wu64 ((shrK .u64 x0 32) * (shrK .u64 x1 32))) + (shrK .u64 (wu64 ((wu64 ((shrK .u64 x0 32) * (andK .u64 x1 4294967295))) + (shrK .u64 (wu64 ((andK .u64 x0 4294967295) * (andK .u64 x1 4294967295))) 32))) 32))) + (shrK .u64 (wu64 ((andK .u64 (wu64 ((wu64 ((shrK .u64 x0 32) * (andK .u64 x1 4294967295))) + (shrK .u64 (wu64 ((andK .u64 x0 4294967295) * (andK .u64 x1 4294967295))) 32))) 4294967295) + (wu64 ((andK .u64 x0 4294967295) * (shrK .u64 x1 32))))) 32)))), (.int .u64 (wu64 (x0 * x1)))]) hQ rfl ⟨rv_tmp rfl, rv_tmp rfl, trivial⟩ ⟨rfl, hB⟩
theorem C_impl_lessFraction (w0 : World) (x0 : Int) (x1 : Int) (x2 : Int) (x3 : Int) (r : Bool) (hF : F_impl_lessFraction x0 x1 x2 x3 = some r) :
    Calls Try.prog 77 [(.int .i64 x0), (.int .i64 x1), (.int .i64 x2), (.int .i64 x3)].toArray w0 fun e w' => e = .returned (.bool r) ∧ Below w0.heap.size w0 w' := by
  refine calls_mk' Try.func77 rfl Try.ntmps77 rfl rfl fun Q hQ hP => ?_
  have hB : Below w0.heap.size w0 w0 := Below.refl _ _
  have hS : Sep w0.heap.size w0 [] := Sep.nil _ _
  unfold F_impl_lessFraction at hF
  refine W.seq fun K1 hK1 => ?_
  refine W.region ?_
  refine wl_assign rfl rfl ?_
  refine WL.nil ?_
  refine fun a ha => hK1 _ _ ?_ a ha
  refine W.seq fun K2 hK2 => ?_
  refine W.region ?_
  refine wl_move rfl rfl ?_
  refine wl_convi Try.underlying3 Try.underlying132 rfl rfl ?_
  refine wl_move rfl rfl ?_
  refine wl_convi Try.underlying3 Try.underlying132 rfl rfl ?_
  obtain ⟨u3, hu3, hF⟩ := bindE hF
  refine wl_call rfl Try.call123 (C_bits_Mul64 w0 (wu64 x0) (wu64 x3) _ hu3) rfl ?_
  rintro _ w4 ⟨rfl, hb5⟩
  refine ⟨_, rfl, ?_⟩
  have hB6 := hB.trans (hb5.mono hB.size)
  have hS7 := hS.below hb5
  refine wl_move rfl rfl ?_
  refine wl_extract rfl rfl rfl ?_
  refine wl_extract rfl rfl rfl ?_
  refine wl_assign rfl rfl ?_
  refine wl_assign rfl rfl ?_
  refine WL.nil ?_
  refine fun a ha => hK2 _ _ ?_ a ha
  refine W.seq fun K9 hK9 => ?_
  refine W.region ?_
  refine wl_move rfl rfl ?_
  refine wl_convi Try.underlying3 Try.underlying132 rfl rfl ?_
  refine wl_move rfl rfl ?_
  refine wl_convi Try.underlying3 Try.underlying132 rfl rfl ?_
  obtain ⟨u10, hu10, hF⟩ := bindE hF
  refine wl_call rfl Try.call123 (C_bits_Mul64 w4 (wu64 x2) (wu64 x1) _ hu10) rfl ?_
  rintro _ w11 ⟨rfl, hb12⟩
  refine ⟨_, rfl, ?_⟩
  have hB13 := hB6.trans (hb12.mono hB6.size)
  have hS14 := hS7.below hb12
  refine wl_move rfl rfl ?_
  refine wl_extract rfl rfl rfl ?_
  refine wl_extract rfl rfl rfl ?_
  refine wl_assign rfl rfl ?_
  refine wl_assign rfl rfl ?_
  refine WL.nil ?_
  refine fun a ha => hK9 _ _ ?_ a ha
  refine W.seq fun K16 hK16 => ?_
  obtain ⟨k21, hk21, hF⟩ := jE1 hF
  have hJ22 : ∀ (y20 : Bool) (w17 : World) (_ : k21 y20 = some r) (_ : Below w0.heap.size w0 w17) (_ : Sep w0.heap.size w17 []), ∀ a, St 42 [(8, (.bool y20))] a → K16 a w17 := by
    intro y20 w17 hF hB18 hS19
    subst hk21
    refine fun a ha => hK16 _ _ ?_ a ha
    refine W.ret ?_
    have hr := Option.some.inj hF
    subst hr
    exact rets (vs := [(.bool y20)]) hQ rfl ⟨rv_tmp rfl, trivial⟩ ⟨rfl, hB18⟩
  refine W.region ?_
  refine wl_move rfl rfl ?_
  refine wl_move rfl rfl ?_
  refine wl_lss rfl rfl rfl ?_
  refine wl_move rfl rfl ?_
  rcases bE (decide (u3.1 < u10.1)) with h23 | h23
  · replace hF := ifP h23 hF
    refine wl_off rfl rfl rfl h23 ?_
    refine wl_off rfl rfl rfl h23 ?_
    refine wl_off rfl rfl rfl h23 ?_
    refine wl_off rfl rfl rfl h23 ?_
    refine wl_offu rfl rfl rfl ?_
    refine wl_offu rfl rfl rfl ?_
    refine wl_offu rfl rfl rfl ?_
    refine wl_off rfl rfl rfl h23 ?_
    refine wl_pick_t rfl rfl h23 rfl ?_
    refine wl_assign rfl rfl ?_
    refine WL.nil ?_
    exact fun a ha => hJ22 (true) _ hF hB13 (hS14.sel [] rfl) a (ha.sub ⟨rfl, trivial⟩)
  · replace hF := ifN h23 hF
    refine wl_on rfl rfl h23 ?_
    refine wl_move rfl rfl ?_
    refine wl_on rfl rfl h23 ?_
    refine wl_move rfl rfl ?_
    refine wl_on rfl rfl h23 ?_
    refine wl_eql rfl rfl rfl ?_
    refine wl_on rfl rfl h23 ?_
    refine wl_move rfl rfl ?_
    rcases bE (u3.1 == u10.1) with h24 | h24
    · replace hF := ifP h24 hF
      refine wl_on rfl rfl h24 ?_
      refine wl_move rfl rfl ?_
      refine wl_on rfl rfl h24 ?_
      refine wl_move rfl rfl ?_
      refine wl_on rfl rfl h24 ?_
      refine wl_lss rfl rfl rfl ?_
      refine wl_on rfl rfl h23 ?_
      refine wl_pick_t rfl rfl h24 rfl ?_
      refine wl_pick_f rfl rfl h23 rfl ?_
      refine wl_assign rfl rfl ?_
      refine WL.nil ?_
      exact fun a ha => hJ22 ((decide (u3.2 < u10.2))) _ hF hB13 (hS14.sel [] rfl) a (ha.sub ⟨rfl, trivial⟩)
    · replace hF := ifN h24 hF
      refine wl_off rfl rfl rfl h24 ?_
      refine wl_off rfl rfl rfl h24 ?_
      refine wl_off rfl rfl rfl h24 ?_
      refine wl_on rfl rfl h23 ?_
      refine wl_pick_f rfl rfl h24 rfl ?_
      refine wl_pick_f rfl rfl h23 rfl ?_
      refine wl_assign rfl rfl ?_
      refine WL.nil ?_
      exact fun a ha => hJ22 (false) _ hF hB13 (hS14.sel [] rfl) a (ha.sub ⟨rfl, trivial⟩)
theorem C_impl_closestMoves (w0 : World) (x0 : (List ((Int × Int) × (Int × Int) × Int))) (v0_0 : Value) (h0_0 : rdS ty_96 (· < w0.heap.size) w0 v0_0 x0) (r : (Int × Int)) (hF : F_impl_closestMoves x0 = some r) :
    Calls Try.prog 75 [v0_0].toArray w0 fun e w' => e = .returned (.tuple #[(.int .i64 r.1), (.int .i64 r.2)]) ∧ Below w0.heap.size w0 w' := by
  refine calls_mk' Try.func75 rfl Try.ntmps75 rfl rfl fun Q hQ hP => ?_
  have hB : Below w0.heap.size w0 w0 := Below.refl _ _
  have hS : Sep w0.heap.size w0 [] := Sep.nil _ _
  unfold F_impl_closestMoves at hF
  refine W.seq fun K1 hK1 => ?_
  refine W.region ?_
  refine wl_assign rfl rfl ?_
  refine wl_assign rfl rfl ?_
  refine WL.nil ?_
  refine fun a ha => hK1 _ _ ?_ a ha
  refine W.seq fun K2 hK2 => ?_
  refine W.region ?_
  refine wl_assign rfl rfl ?_
  refine wl_assign rfl rfl ?_
  refine WL.nil ?_
  refine fun a ha => hK2 _ _ ?_ a ha
  refine W.seq fun K3 hK3 => ?_
  refine W.regionH mixed_ [] hB hS ?_
  intro w4 hb5 hB6 hS7
  have hSW8 := KeepX.refl w4 []
  refine WH.takex (i := 0) rfl (by kernel_rfl) (by kernel_rfl) (by kernel_rfl) hP hSW8 ?_
  refine pr_move rfl rfl ?_
  obtain ⟨u9, hu9, hF⟩ := bindE hF
  refine WH.takex (i := 1) rfl (by kernel_rfl) (by kernel_rfl) (by kernel_rfl) hP hSW8 ?_
  refine pr_index (e := ty_96) Try.underlying87 rfl rfl rfl h0_0 hu9 ?_
  rintro p10 _ rfl hp11
  refine WH.takex (i := 2) rfl (by kernel_rfl) (by kernel_rfl) (by kernel_rfl) hP hSW8 ?_
  refine pr_load_p (vs := [(.int .i64 u9.1.1), (.int .i64 u9.1.2), (.int .i64 u9.2.1.1), (.int .i64 u9.2.1.2), (.int .i64 u9.2.2)]) (v := (.agg #[(.int .i64 u9.1.1), (.int .i64 u9.1.2), (.int .i64 u9.2.1.1), (.int .i64 u9.2.1.2), (.int .i64 u9.2.2)])) tf_96 rfl rfl (hp11.kx hB6 (by simp)) rfl rfl ?_
  refine WH.takex (i := 3) rfl (by kernel_rfl) (by kernel_rfl) (by kernel_rfl) hP hSW8 ?_
  refine pr_move rfl rfl ?_
  obtain ⟨u12, hu12, hF⟩ := bindE hF
  refine WH.takex (i := 4) rfl (by kernel_rfl) (by kernel_rfl) (by kernel_rfl) hP hSW8 ?_
  refine pr_index (e := ty_96) Try.underlying87 rfl rfl rfl h0_0 hu12 ?_
  rintro p13 _ rfl hp14
  refine WH.takex (i := 5) rfl (by kernel_rfl) (by kernel_rfl) (by kernel_rfl) hP hSW8 ?_
  refine pr_load_p (vs := [(.int .i64 u12.1.1), (.int .i64 u12.1.2), (.int .i64 u12.2.1.1), (.int .i64 u12.2.1.2), (.int .i64 u12.2.2)]) (v := (.agg #[(.int .i64 u12.1.1), (.int .i64 u12.1.2), (.int .i64 u12.2.1.1), (.int .i64 u12.2.1.2), (.int .i64 u12.2.2)])) tf_96 rfl rfl (hp14.kx hB6 (by simp)) rfl rfl ?_
  refine WH.one (i := 6) (by kernel_rfl) rfl ?_
  obtain ⟨u15, hu15, hF⟩ := bindE hF
  refine wl_call rfl Try.call76 (C_impl_leastApart w4 u9 u12 _ hu15) rfl ?_
  rintro _ w16 ⟨rfl, hb17⟩
  refine ⟨_, rfl, ?_⟩
  have hB18 := hB6.trans (hb17.mono hB6.size)
  have hS19 := hS7.below hb17
  have hSW21 := hSW8.ext hb17
  refine WL.nil (WH.ret hSW21 ?_)
  refine WH.takex (i := 7) rfl (by kernel_rfl) (by kernel_rfl) (by kernel_rfl) hP hSW21 ?_
  refine pr_move rfl rfl ?_
  refine WH.takex (i := 8) rfl (by kernel_rfl) (by kernel_rfl) (by kernel_rfl) hP hSW21 ?_
  refine pr_extract rfl rfl rfl ?_
  refine WH.takex (i := 9) rfl (by kernel_rfl) (by kernel_rfl) (by kernel_rfl) hP hSW21 ?_
  refine pr_extract rfl rfl rfl ?_
  refine WH.takex (i := 10) rfl (by kernel_rfl) (by kernel_rfl) (by kernel_rfl) hP hSW21 ?_
  refine pr_assign rfl rfl ?_
  refine WH.takex (i := 11) rfl (by kernel_rfl) (by kernel_rfl) (by kernel_rfl) hP hSW21 ?_
  refine pr_assign rfl rfl ?_
  refine WH.done (by kernel_rfl) ?_
  refine fun a ha => hK3 _ _ ?_ a ha
  refine W.seq fun K22 hK22 => ?_
  refine W.seq fun K23 hK23 => ?_
  refine W.region ?_
  refine wl_move rfl rfl ?_
  refine wl_lenr (e := ty_96) (l := x0) Try.underlying87 rfl rfl h0_0 ?_
  refine wl_move rfl rfl ?_
  refine WL.nil ?_
  refine fun a ha => hK23 _ _ ?_ a ha
  refine W.block ?_
  refine W.loopk (fun m a w24 => ∃ (y27 : Int) (y28 : Int) (y29 : Int) (y30 : Int) (y31 : Int), St 59 [(0, v0_0), (4, (.int .i64 y27)), (5, (.int .i64 y28)), (6, (.int .i64 y29)), (7, (.int .i64 y30)), (23, (.int .i64 (List.length x0 : Int))), (24, (.int .i64 y31))] a ∧ Below w0.heap.size w0 w24 ∧ Sep w0.heap.size w24 [] ∧ F_impl_closestMoves_L1 x0 m y27 y28 y29 y30 y31 = some r) FU ?_ ?_
  ·
    exact fun a ha => ⟨0, 1, u15.1, u15.2, 0, ha.sub ⟨rfl, rfl, rfl, rfl, rfl, rfl, rfl, trivial⟩, hB18, (hS19.sel [] rfl), hF⟩
  ·
    rintro m34 a w24 ⟨y27, y28, y29, y30, y31, ha, hB25, hS26, hF⟩ KL33 hKL33
    refine W.at ?_ ha
    cases m34 with
    | zero => exact noneE hF
    | succ m34 =>
      obtain ⟨nx32, hnx32⟩ : ∃ k, k = F_impl_closestMoves_L1 x0 m34 := ⟨_, rfl⟩
      rw [F_impl_closestMoves_L1, ← hnx32] at hF
      refine W.seq fun K35 hK35 => ?_
      refine W.region ?_
      refine wl_lss rfl rfl rfl ?_
      refine WL.nil ?_
      refine fun a ha => hK35 _ _ ?_ a ha
      refine W.seq fun K36 hK36 => ?_
      refine W.cond rfl (fun h37 => ?_) (fun h37 => ?_)
      · replace hF := ifP h37 hF
        refine W.skip ?_
        refine fun a ha => hK36 _ _ ?_ a ha
        refine W.seq fun K38 hK38 => ?_
        refine W.block ?_
        refine W.seq fun K39 hK39 => ?_
        refine W.region ?_
        refine wl_move rfl rfl ?_
        refine wl_assign rfl rfl ?_
        refine WL.nil ?_
        refine fun a ha => hK39 _ _ ?_ a ha
        refine W.seq fun K40 hK40 => ?_
        refine W.region ?_
        refine wl_move rfl rfl ?_
        refine wl_add rfl rfl rfl ?_
        refine wl_assign rfl rfl ?_
        refine WL.nil ?_
        refine fun a ha => hK40 _ _ ?_ a ha
        refine W.block ?_
        refine W.loopk (fun m a w41 => ∃ (y44 : Int) (y45 : Int) (y46 : Int) (y47 : Int) (y48 : Int), St 59 [(0, v0_0), (4, (.int .i64 y44)), (5, (.int .i64 y45)), (6, (.int .i64 y46)), (7, (.int .i64 y47)), (8, (.int .i64 y31)), (9, (.int .i64 y48)), (23, (.int .i64 (List.length x0 : Int))), (24, (.int .i64 y31))] a ∧ Below w0.heap.size w0 w41 ∧ Sep w0.heap.size w41 [] ∧ F_impl_closestMoves_L2 x0 y31 nx32 m y44 y45 y46 y47 y48 = some r) FU ?_ ?_
        ·
          exact fun a ha => ⟨y27, y28, y29, y30, (w64 (y31 + 1)), ha.sub ⟨rfl, rfl, rfl, rfl, rfl, rfl, rfl, rfl, rfl, trivial⟩, hB25, (hS26.sel [] rfl), hF⟩
        ·
          rintro m51 a w41 ⟨y44, y45, y46, y47, y48, ha, hB42, hS43, hF⟩ KL50 hKL50
          refine W.at ?_ ha
          cases m51 with
          | zero => exact noneE hF
          | succ m51 =>
            obtain ⟨nx49, hnx49⟩ : ∃ k, k = F_impl_closestMoves_L2 x0 y31 nx32 m51 := ⟨_, rfl⟩
            rw [F_impl_closestMoves_L2, ← hnx49] at hF
            refine W.seq fun K52 hK52 => ?_
            refine W.seq fun K53 hK53 => ?_
            refine W.region ?_
            refine wl_move rfl rfl ?_
            refine wl_move rfl rfl ?_
            refine wl_lenr (e := ty_96) (l := x0) Try.underlying87 rfl rfl h0_0 ?_
            refine wl_lss rfl rfl rfl ?_
            refine WL.nil ?_
            refine fun a ha => hK53 _ _ ?_ a ha
            refine W.cond rfl (fun h54 => ?_) (fun h54 => ?_)
            · replace hF := ifP h54 hF
              refine W.skip ?_
              refine fun a ha => hK52 _ _ ?_ a ha
              refine W.seq fun K55 hK55 => ?_
              obtain ⟨k63, hk63, hF⟩ := jE4 hF
              have hJ64 : ∀ (y59 : Int) (y60 : Int) (y61 : Int) (y62 : Int) (w56 : World) (_ : k63 y59 y60 y61 y62 = some r) (_ : Below w0.heap.size w0 w56) (_ : Sep w0.heap.size w56 []), ∀ a, St 59 [(0, v0_0), (4, (.int .i64 y59)), (5, (.int .i64 y60)), (6, (.int .i64 y61)), (7, (.int .i64 y62)), (8, (.int .i64 y31)), (9, (.int .i64 y48)), (23, (.int .i64 (List.length x0 : Int))), (24, (.int .i64 y31))] a → K55 a w56 := by
                intro y59 y60 y61 y62 w56 hF hB57 hS58
                subst hk63
                refine fun a ha => hK55 _ _ ?_ a ha
                refine W.region ?_
                refine wl_move rfl rfl ?_
                refine wl_add rfl rfl rfl ?_
                refine wl_assign rfl rfl ?_
                refine WL.nil ?_
                rw [hnx49] at hF
                exact fun a ha => hKL50 a _ m51 (Nat.lt_succ_self m51) ⟨y59, y60, y61, y62, (w64 (y48 + 1)), ha.sub ⟨rfl, rfl, rfl, rfl, rfl, rfl, rfl, rfl, rfl, trivial⟩, hB57, (hS58.sel [] rfl), hF⟩
              refine W.block ?_
              refine W.seq fun K65 hK65 => ?_
              refine W.regionH mixed_ [] hB42 hS43 ?_
              intro w66 hb67 hB68 hS69
              have hSW70 := KeepX.refl w66 []
              refine WH.takex (i := 0) rfl (by kernel_rfl) (by kernel_rfl) (by kernel_rfl) hP hSW70 ?_
              refine pr_move rfl rfl ?_
              refine WH.takex (i := 1) rfl (by kernel_rfl) (by kernel_rfl) (by kernel_rfl) hP hSW70 ?_
              refine pr_move rfl rfl ?_
              obtain ⟨u71, hu71, hF⟩ := bindE hF
              refine WH.takex (i := 2) rfl (by kernel_rfl) (by kernel_rfl) (by kernel_rfl) hP hSW70 ?_
              refine pr_index (e := ty_96) Try.underlying87 rfl rfl rfl h0_0 hu71 ?_
              rintro p72 _ rfl hp73
              refine WH.takex (i := 3) rfl (by kernel_rfl) (by kernel_rfl) (by kernel_rfl) hP hSW70 ?_
              refine pr_load_p (vs := [(.int .i64 u71.1.1), (.int .i64 u71.1.2), (.int .i64 u71.2.1.1), (.int .i64 u71.2.1.2), (.int .i64 u71.2.2)]) (v := (.agg #[(.int .i64 u71.1.1), (.int .i64 u71.1.2), (.int .i64 u71.2.1.1), (.int .i64 u71.2.1.2), (.int .i64 u71.2.2)])) tf_96 rfl rfl (hp73.kx hB68 (by simp)) rfl rfl ?_
              refine WH.takex (i := 4) rfl (by kernel_rfl) (by kernel_rfl) (by kernel_rfl) hP hSW70 ?_
              refine pr_move rfl rfl ?_
              refine WH.takex (i := 5) rfl (by kernel_rfl) (by kernel_rfl) (by kernel_rfl) hP hSW70 ?_
              refine pr_move rfl rfl ?_
              obtain ⟨u74, hu74, hF⟩ := bindE hF
              refine WH.takex (i := 6) rfl (by kernel_rfl) (by kernel_rfl) (by kernel_rfl) hP hSW70 ?_
              refine pr_index (e := ty_96) Try.underlying87 rfl rfl rfl h0_0 hu74 ?_
              rintro p75 _ rfl hp76
              refine WH.takex (i := 7) rfl (by kernel_rfl) (by kernel_rfl) (by kernel_rfl) hP hSW70 ?_
              refine pr_load_p (vs := [(.int .i64 u74.1.1), (.int .i64 u74.1.2), (.int .i64 u74.2.1.1), (.int .i64 u74.2.1.2), (.int .i64 u74.2.2)]) (v := (.agg #[(.int .i64 u74.1.1), (.int .i64 u74.1.2), (.int .i64 u74.2.1.1), (.int .i64 u74.2.1.2), (.int .i64 u74.2.2)])) tf_96 rfl rfl (hp76.kx hB68 (by simp)) rfl rfl ?_
              refine WH.one (i := 8) (by kernel_rfl) rfl ?_
              obtain ⟨u77, hu77, hF⟩ := bindE hF
              refine wl_call rfl Try.call76 (C_impl_leastApart w66 u71 u74 _ hu77) rfl ?_
              rintro _ w78 ⟨rfl, hb79⟩
              refine ⟨_, rfl, ?_⟩
              have hB80 := hB68.trans (hb79.mono hB68.size)
              have hS81 := hS69.below hb79
              have hSW83 := hSW70.ext hb79
              refine WL.nil (WH.ret hSW83 ?_)
              refine WH.takex (i := 9) rfl (by kernel_rfl) (by kernel_rfl) (by kernel_rfl) hP hSW83 ?_
              refine pr_move rfl rfl ?_
              refine WH.takex (i := 10) rfl (by kernel_rfl) (by kernel_rfl) (by kernel_rfl) hP hSW83 ?_
              refine pr_extract rfl rfl rfl ?_
              refine WH.takex (i := 11) rfl (by kernel_rfl) (by kernel_rfl) (by kernel_rfl) hP hSW83 ?_
              refine pr_extract rfl rfl rfl ?_
              refine WH.takex (i := 12) rfl (by kernel_rfl) (by kernel_rfl) (by kernel_rfl) hP hSW83 ?_
              refine pr_assign rfl rfl ?_
              refine WH.takex (i := 13) rfl (by kernel_rfl) (by kernel_rfl) (by kernel_rfl) hP hSW83 ?_
              refine pr_assign rfl rfl ?_
              refine WH.done (by kernel_rfl) ?_
              refine fun a ha => hK65 _ _ ?_ a ha
              refine W.seq fun K84 hK84 => ?_
              refine W.region ?_
              refine wl_move rfl rfl ?_
              refine wl_move rfl rfl ?_
              refine wl_move rfl rfl ?_
              refine wl_move rfl rfl ?_
              obtain ⟨u85, hu85, hF⟩ := bindE hF
              refine wl_call rfl Try.call77 (C_impl_lessFraction w78 u77.1 u77.2 y46 y47 _ hu85) rfl ?_
              rintro _ w86 ⟨rfl, hb87⟩
              refine ⟨_, rfl, ?_⟩
              have hB88 := hB80.trans (hb87.mono hB80.size)
              have hS89 := hS81.below hb87
              refine WL.nil ?_
              refine fun a ha => hK84 _ _ ?_ a ha
              refine W.cond rfl (fun h91 => ?_) (fun h91 => ?_)
              · replace hF := ifP h91 hF
                refine W.region ?_
                refine wl_move rfl rfl ?_
                refine wl_move rfl rfl ?_
                refine wl_move rfl rfl ?_
                refine wl_move rfl rfl ?_
                refine wl_assign rfl rfl ?_
                refine wl_assign rfl rfl ?_
                refine wl_assign rfl rfl ?_
                refine wl_assign rfl rfl ?_
                refine WL.nil ?_
                exact fun a ha => hJ64 (y31) (y48) (u77.1) (u77.2) _ hF hB88 (hS89.sel [] rfl) a (ha.sub ⟨rfl, rfl, rfl, rfl, rfl, rfl, rfl, rfl, rfl, trivial⟩)
              · replace hF := ifN h91 hF
                refine W.skip ?_
                exact fun a ha => hJ64 (y44) (y45) (y46) (y47) _ hF hB88 (hS89.sel [] rfl) a (ha.sub ⟨rfl, rfl, rfl, rfl, rfl, rfl, rfl, rfl, rfl, trivial⟩)
            · replace hF := ifN h54 hF
              refine W.exit ?_
              refine fun a ha => hK38 _ _ ?_ a ha
              refine W.region ?_
              refine wl_add rfl rfl rfl ?_
              refine wl_move rfl rfl ?_
              refine WL.nil ?_
              rw [hnx32] at hF
              exact fun a ha => hKL33 a _ m34 (Nat.lt_succ_self m34) ⟨y44, y45, y46, y47, (w64 (y31 + 1)), ha.sub ⟨rfl, rfl, rfl, rfl, rfl, rfl, rfl, trivial⟩, hB42, (hS43.sel [] rfl), hF⟩
      · replace hF := ifN h37 hF
        refine W.exit ?_
        refine fun a ha => hK22 _ _ ?_ a ha
        refine W.seq fun K92 hK92 => ?_
        refine W.region ?_
        refine wl_move rfl rfl ?_
        refine wl_move rfl rfl ?_
        refine wl_assign rfl rfl ?_
        refine wl_assign rfl rfl ?_
        refine WL.nil ?_
        refine fun a ha => hK92 _ _ ?_ a ha
        refine W.ret ?_
        have hr := Option.some.inj hF
        subst hr
        exact rets (vs := [(.int .i64 y27), (.int .i64 y28)]) hQ rfl ⟨rv_tmp rfl, rv_tmp rfl, trivial⟩ ⟨rfl, hB25⟩
theorem C_impl_LeastOfShow (w0 : World) (x0 : ((List (List (Int × Int))) × (List Int) × Int × Int)) (v0_0 : Value) (h0_0 : rdS ty_70 (· < w0.heap.size) w0 v0_0 x0.1) (v0_1 : Value) (h0_1 : rdS ty_3 (· < w0.heap.size) w0 v0_1 x0.2.1) (r : (Int × Int × Bool)) (hF : F_impl_LeastOfShow x0 = some r) :
    Calls Try.prog 23 [(.agg #[v0_0, v0_1, (.int .i64 x0.2.2.1), (.int .i64 x0.2.2.2)])].toArray w0 fun e w' => e = .returned (.tuple #[(.int .i64 r.1), (.int .i64 r.2.1), (.bool r.2.2)]) ∧ Below w0.heap.size w0 w' := by
  refine calls_mk' Try.func23 rfl Try.ntmps23 rfl rfl fun Q hQ hP => ?_
  have hB : Below w0.heap.size w0 w0 := Below.refl _ _
  have hS : Sep w0.heap.size w0 [] := Sep.nil _ _
  unfold F_impl_LeastOfShow at hF
  refine W.seq fun K1 hK1 => ?_
  refine W.region ?_
  refine wl_box (cs := [v0_0, v0_1, (.int .i64 x0.2.2.1), (.int .i64 x0.2.2.2)]) rfl rfl rfl hB hS ?_
  intro b2 w3 hb4 hB5 hS6
  refine wl_assign rfl rfl ?_
  refine wl_assign rfl rfl ?_
  refine wl_assign rfl rfl ?_
  refine WL.nil ?_
  refine fun a ha => hK1 _ _ ?_ a ha
  refine W.seq fun K7 hK7 => ?_
  refine W.seq fun K8 hK8 => ?_
  obtain ⟨k13, hk13, hF⟩ := jE1 hF
  have hJ14 : ∀ (y12 : Bool) (w9 : World) (_ : k13 y12 = some r) (_ : Below w0.heap.size w0 w9) (_ : Sep w0.heap.size w9 [R.blk b2 31 [v0_0, v0_1, (.int .i64 x0.2.2.1), (.int .i64 x0.2.2.2)]]), ∀ a, St 64 [(1, (.pointer (some ⟨b2, 0, none⟩))), (23, (.bool y12))] a → K8 a w9 := by
    intro y12 w9 hF hB10 hS11
    subst hk13
    refine fun a ha => hK8 _ _ ?_ a ha
    refine W.cond rfl (fun h15 => ?_) (fun h15 => ?_)
    · replace hF := ifP h15 hF
      refine W.seq fun K16 hK16 => ?_
      refine W.region ?_
      refine wl_assign rfl rfl ?_
      refine wl_assign rfl rfl ?_
      refine wl_assign rfl rfl ?_
      refine WL.nil ?_
      refine fun a ha => hK16 _ _ ?_ a ha
      refine W.ret ?_
      have hr := Option.some.inj hF
      subst hr
      exact rets (vs := [(.int .i64 0), (.int .i64 0), (.bool false)]) hQ rfl ⟨rv_tmp rfl, rv_tmp rfl, rv_tmp rfl, trivial⟩ ⟨rfl, hB10⟩
    · replace hF := ifN h15 hF
      refine W.skip ?_
      refine fun a ha => hK7 _ _ ?_ a ha
      refine W.seq fun K17 hK17 => ?_
      refine W.region ?_
      refine wl_assign rfl rfl ?_
      refine wl_assign rfl rfl ?_
      refine WL.nil ?_
      refine fun a ha => hK17 _ _ ?_ a ha
      refine W.seq fun K18 hK18 => ?_
      refine W.seq fun K19 hK19 => ?_
      refine W.region ?_
      refine wl_field (o := 1) (off' := 1) ff_31_1 rfl rfl rfl ?_
      refine wl_load_blk (i := 0) (vs := [v0_1]) (v := v0_1) tf_23 rfl rfl hS11 rfl rfl rfl ?_
      refine wl_lenr (e := ty_3) (l := x0.2.1) Try.underlying23 rfl rfl h0_1 ?_
      refine wl_move rfl rfl ?_
      refine WL.nil ?_
      refine fun a ha => hK19 _ _ ?_ a ha
      refine W.block ?_
      refine W.loopk (fun m a w20 => ∃ (y23 : Int) (y24 : Int) (y25 : Int), St 64 [(1, (.pointer (some ⟨b2, 0, none⟩))), (5, (.int .i64 y23)), (6, (.int .i64 y24)), (26, (.int .i64 (List.length x0.2.1 : Int))), (27, (.int .i64 y25))] a ∧ Below w0.heap.size w0 w20 ∧ Sep w0.heap.size w20 [R.blk b2 31 [v0_0, v0_1, (.int .i64 x0.2.2.1), (.int .i64 x0.2.2.2)]] ∧ F_impl_LeastOfShow_L1 x0 m y23 y24 y25 = some r) FU ?_ ?_
      ·
        exact fun a ha => ⟨0, 0, 0, ha.sub ⟨rfl, rfl, rfl, rfl, rfl, trivial⟩, hB10, (hS11.sel [0] rfl), hF⟩
      ·
        rintro m28 a w20 ⟨y23, y24, y25, ha, hB21, hS22, hF⟩ KL27 hKL27
        refine W.at ?_ ha
        cases m28 with
        | zero => exact noneE hF
        | succ m28 =>
          obtain ⟨nx26, hnx26⟩ : ∃ k, k = F_impl_LeastOfShow_L1 x0 m28 := ⟨_, rfl⟩
          rw [F_impl_LeastOfShow_L1, ← hnx26] at hF
          refine W.seq fun K29 hK29 => ?_
          refine W.region ?_
          refine wl_lss rfl rfl rfl ?_
          refine WL.nil ?_
          refine fun a ha => hK29 _ _ ?_ a ha
          refine W.seq fun K30 hK30 => ?_
          refine W.cond rfl (fun h31 => ?_) (fun h31 => ?_)
          · replace hF := ifP h31 hF
            refine W.skip ?_
            refine fun a ha => hK30 _ _ ?_ a ha
            refine W.seq fun K32 hK32 => ?_
            obtain ⟨k38, hk38, hF⟩ := jE2 hF
            have hJ39 : ∀ (y36 : Int) (y37 : Int) (w33 : World) (_ : k38 y36 y37 = some r) (_ : Below w0.heap.size w0 w33) (_ : Sep w0.heap.size w33 [R.blk b2 31 [v0_0, v0_1, (.int .i64 x0.2.2.1), (.int .i64 x0.2.2.2)]]), ∀ a, St 64 [(1, (.pointer (some ⟨b2, 0, none⟩))), (5, (.int .i64 y36)), (6, (.int .i64 y37)), (26, (.int .i64 (List.length x0.2.1 : Int))), (27, (.int .i64 y25))] a → K32 a w33 := by
              intro y36 y37 w33 hF hB34 hS35
              subst hk38
              refine fun a ha => hK32 _ _ ?_ a ha
              refine W.region ?_
              refine wl_add rfl rfl rfl ?_
              refine wl_move rfl rfl ?_
              refine WL.nil ?_
              rw [hnx26] at hF
              exact fun a ha => hKL27 a _ m28 (Nat.lt_succ_self m28) ⟨y36, y37, (w64 (y25 + 1)), ha.sub ⟨rfl, rfl, rfl, rfl, rfl, trivial⟩, hB34, (hS35.sel [0] rfl), hF⟩
            refine W.block ?_
            refine W.seq fun K40 hK40 => ?_
            refine W.region ?_
            refine wl_move rfl rfl ?_
            refine wl_assign rfl rfl ?_
            refine WL.nil ?_
            refine fun a ha => hK40 _ _ ?_ a ha
            refine W.seq fun K41 hK41 => ?_
            refine W.region ?_
            refine wl_load_blk (i := 0) (vs := [v0_0, v0_1, (.int .i64 x0.2.2.1), (.int .i64 x0.2.2.2)]) (v := (.agg #[v0_0, v0_1, (.int .i64 x0.2.2.1), (.int .i64 x0.2.2.2)])) tf_31 rfl rfl hS22 rfl rfl rfl ?_
            refine wl_move rfl rfl ?_
            obtain ⟨u42, hu42, hF⟩ := bindE hF
            refine wl_call rfl Try.call70 (C_impl_showMoves w20 x0 v0_0 (h0_0.ro hB21) v0_1 (h0_1.ro hB21) y25 _ hu42) rfl ?_
            rintro _ w45 ⟨v43, F44, rfl, hb46, hM49⟩
            refine ⟨_, rfl, ?_⟩
            have hB47 := hB21.trans (hb46.mono hB21.size)
            have hS48 := hS22.join hb46 hM49 hB21.size
            refine wl_assign rfl rfl ?_
            refine WL.nil ?_
            refine fun a ha => hK41 _ _ ?_ a ha
            refine W.seq fun K50 hK50 => ?_
            refine W.region ?_
            refine wl_move rfl rfl ?_
            obtain ⟨u51, hu51, hF⟩ := bindE hF
            refine wl_call rfl Try.call75 (C_impl_closestMoves w45 u42 v43 (hS48.own_ro (i := 0) rfl) _ hu51) rfl ?_
            rintro _ w52 ⟨rfl, hb53⟩
            refine ⟨_, rfl, ?_⟩
            have hB54 := hB47.trans (hb53.mono hB47.size)
            have hS55 := hS48.below hb53
            refine wl_move rfl rfl ?_
            refine wl_extract rfl rfl rfl ?_
            refine wl_extract rfl rfl rfl ?_
            refine wl_assign rfl rfl ?_
            refine wl_assign rfl rfl ?_
            refine WL.nil ?_
            refine fun a ha => hK50 _ _ ?_ a ha
            refine W.seq fun K57 hK57 => ?_
            refine W.regionH mixed_ [] hB54 hS55 ?_
            intro w58 hb59 hB60 hS61
            have hSW62 := KeepX.refl w58 []
            refine WH.takex (i := 0) rfl (by kernel_rfl) (by kernel_rfl) (by kernel_rfl) hP hSW62 ?_
            refine pr_move rfl rfl ?_
            refine WH.takex (i := 1) rfl (by kernel_rfl) (by kernel_rfl) (by kernel_rfl) hP hSW62 ?_
            refine pr_move rfl rfl ?_
            obtain ⟨u63, hu63, hF⟩ := bindE hF
            refine WH.takex (i := 2) rfl (by kernel_rfl) (by kernel_rfl) (by kernel_rfl) hP hSW62 ?_
            refine pr_indexo (e := ty_96) (i := 0) Try.underlying87 rfl rfl rfl hS61 rfl hu63 ?_
            rintro p64 _ rfl hp65 ho66
            refine WH.takex (i := 3) rfl (by kernel_rfl) (by kernel_rfl) (by kernel_rfl) hP hSW62 ?_
            refine pr_load_p (vs := [(.int .i64 u63.1.1), (.int .i64 u63.1.2), (.int .i64 u63.2.1.1), (.int .i64 u63.2.1.2), (.int .i64 u63.2.2)]) (v := (.agg #[(.int .i64 u63.1.1), (.int .i64 u63.1.2), (.int .i64 u63.2.1.1), (.int .i64 u63.2.1.2), (.int .i64 u63.2.2)])) tf_96 rfl rfl (hp65.kx0) rfl rfl ?_
            refine WH.takex (i := 4) rfl (by kernel_rfl) (by kernel_rfl) (by kernel_rfl) hP hSW62 ?_
            refine pr_move rfl rfl ?_
            refine WH.takex (i := 5) rfl (by kernel_rfl) (by kernel_rfl) (by kernel_rfl) hP hSW62 ?_
            refine pr_move rfl rfl ?_
            obtain ⟨u67, hu67, hF⟩ := bindE hF
            refine WH.takex (i := 6) rfl (by kernel_rfl) (by kernel_rfl) (by kernel_rfl) hP hSW62 ?_
            refine pr_indexo (e := ty_96) (i := 0) Try.underlying87 rfl rfl rfl hS61 rfl hu67 ?_
            rintro p68 _ rfl hp69 ho70
            refine WH.takex (i := 7) rfl (by kernel_rfl) (by kernel_rfl) (by kernel_rfl) hP hSW62 ?_
            refine pr_load_p (vs := [(.int .i64 u67.1.1), (.int .i64 u67.1.2), (.int .i64 u67.2.1.1), (.int .i64 u67.2.1.2), (.int .i64 u67.2.2)]) (v := (.agg #[(.int .i64 u67.1.1), (.int .i64 u67.1.2), (.int .i64 u67.2.1.1), (.int .i64 u67.2.1.2), (.int .i64 u67.2.2)])) tf_96 rfl rfl (hp69.kx0) rfl rfl ?_
            refine WH.one (i := 8) (by kernel_rfl) rfl ?_
            obtain ⟨u71, hu71, hF⟩ := bindE hF
            refine wl_call rfl Try.call76 (C_impl_leastApart w58 u63 u67 _ hu71) rfl ?_
            rintro _ w72 ⟨rfl, hb73⟩
            refine ⟨_, rfl, ?_⟩
            have hB74 := hB60.trans (hb73.mono hB60.size)
            have hS75 := hS61.below hb73
            have hSW77 := hSW62.ext hb73
            refine WL.nil (WH.ret hSW77 ?_)
            refine WH.takex (i := 9) rfl (by kernel_rfl) (by kernel_rfl) (by kernel_rfl) hP hSW77 ?_
            refine pr_move rfl rfl ?_
            refine WH.takex (i := 10) rfl (by kernel_rfl) (by kernel_rfl) (by kernel_rfl) hP hSW77 ?_
            refine pr_extract rfl rfl rfl ?_
            refine WH.takex (i := 11) rfl (by kernel_rfl) (by kernel_rfl) (by kernel_rfl) hP hSW77 ?_
            refine pr_extract rfl rfl rfl ?_
            refine WH.takex (i := 12) rfl (by kernel_rfl) (by kernel_rfl) (by kernel_rfl) hP hSW77 ?_
            refine pr_assign rfl rfl ?_
            refine WH.takex (i := 13) rfl (by kernel_rfl) (by kernel_rfl) (by kernel_rfl) hP hSW77 ?_
            refine pr_assign rfl rfl ?_
            refine WH.done (by kernel_rfl) ?_
            refine fun a ha => hK57 _ _ ?_ a ha
            refine W.seq fun K78 hK78 => ?_
            obtain ⟨k83, hk83, hF⟩ := jE1 hF
            have hJ84 : ∀ (y82 : Bool) (w79 : World) (_ : k83 y82 = some r) (_ : Below w0.heap.size w0 w79) (_ : Sep w0.heap.size w79 [R.blk b2 31 [v0_0, v0_1, (.int .i64 x0.2.2.1), (.int .i64 x0.2.2.2)]]), ∀ a, St 64 [(1, (.pointer (some ⟨b2, 0, none⟩))), (5, (.int .i64 y23)), (6, (.int .i64 y24)), (11, (.int .i64 u71.1)), (12, (.int .i64 u71.2)), (26, (.int .i64 (List.length x0.2.1 : Int))), (27, (.int .i64 y25)), (58, (.bool y82))] a → K78 a w79 := by
              intro y82 w79 hF hB80 hS81
              subst hk83
              refine fun a ha => hK78 _ _ ?_ a ha
              refine W.cond rfl (fun h85 => ?_) (fun h85 => ?_)
              · replace hF := ifP h85 hF
                refine W.region ?_
                refine wl_move rfl rfl ?_
                refine wl_move rfl rfl ?_
                refine wl_assign rfl rfl ?_
                refine wl_assign rfl rfl ?_
                refine WL.nil ?_
                exact fun a ha => hJ39 (u71.1) (u71.2) _ hF hB80 (hS81.sel [0] rfl) a (ha.sub ⟨rfl, rfl, rfl, rfl, rfl, trivial⟩)
              · replace hF := ifN h85 hF
                refine W.skip ?_
                exact fun a ha => hJ39 (y23) (y24) _ hF hB80 (hS81.sel [0] rfl) a (ha.sub ⟨rfl, rfl, rfl, rfl, rfl, trivial⟩)
            refine W.region ?_
            refine wl_move rfl rfl ?_
            refine wl_eql rfl rfl rfl ?_
            refine wl_move rfl rfl ?_
            rcases bE (y25 == 0) with h86 | h86
            · replace hF := ifP h86 hF
              refine wl_off rfl rfl rfl h86 ?_
              refine wl_off rfl rfl rfl h86 ?_
              refine wl_off rfl rfl rfl h86 ?_
              refine wl_off rfl rfl rfl h86 ?_
              refine wl_off rfl rfl rfl h86 ?_
              refine wl_pick_t rfl rfl h86 rfl ?_
              refine WL.nil ?_
              exact fun a ha => hJ84 (true) _ hF hB74 (hS75.sel [1] rfl) a (ha.sub ⟨rfl, rfl, rfl, rfl, rfl, rfl, rfl, rfl, trivial⟩)
            · replace hF := ifN h86 hF
              refine wl_on rfl rfl h86 ?_
              refine wl_move rfl rfl ?_
              refine wl_on rfl rfl h86 ?_
              refine wl_move rfl rfl ?_
              refine wl_on rfl rfl h86 ?_
              refine wl_move rfl rfl ?_
              refine wl_on rfl rfl h86 ?_
              refine wl_move rfl rfl ?_
              refine wl_on rfl rfl h86 ?_
              obtain ⟨u87, hu87, hF⟩ := bindE hF
              refine wl_call rfl Try.call77 (C_impl_lessFraction w72 u71.1 u71.2 y23 y24 _ hu87) rfl ?_
              rintro _ w88 ⟨rfl, hb89⟩
              refine ⟨_, rfl, ?_⟩
              have hB90 := hB74.trans (hb89.mono hB74.size)
              have hS91 := hS75.below hb89
              refine wl_pick_f rfl rfl h86 rfl ?_
              refine WL.nil ?_
              exact fun a ha => hJ84 (u87) _ hF hB90 (hS91.sel [1] rfl) a (ha.sub ⟨rfl, rfl, rfl, rfl, rfl, rfl, rfl, rfl, trivial⟩)
          · replace hF := ifN h31 hF
            refine W.exit ?_
            refine fun a ha => hK18 _ _ ?_ a ha
            refine W.seq fun K93 hK93 => ?_
            refine W.region ?_
            refine wl_move rfl rfl ?_
            refine wl_move rfl rfl ?_
            refine wl_assign rfl rfl ?_
            refine wl_assign rfl rfl ?_
            refine wl_assign rfl rfl ?_
            refine WL.nil ?_
            refine fun a ha => hK93 _ _ ?_ a ha
            refine W.ret ?_
            have hr := Option.some.inj hF
            subst hr
            exact rets (vs := [(.int .i64 y23), (.int .i64 y24), (.bool true)]) hQ rfl ⟨rv_tmp rfl, rv_tmp rfl, rv_tmp rfl, trivial⟩ ⟨rfl, hB21⟩
  refine W.region ?_
  refine wl_load_blk (i := 0) (vs := [v0_0, v0_1, (.int .i64 x0.2.2.1), (.int .i64 x0.2.2.2)]) (v := (.agg #[v0_0, v0_1, (.int .i64 x0.2.2.1), (.int .i64 x0.2.2.2)])) tf_31 rfl rfl hS6 rfl rfl rfl ?_
  obtain ⟨u94, hu94, hF⟩ := bindE hF
  refine wl_call rfl Try.call67 (C_impl_IsShow w3 x0 v0_0 (h0_0.ro hB5) v0_1 (h0_1.ro hB5) _ hu94) rfl ?_
  rintro _ w95 ⟨rfl, hb96⟩
  refine ⟨_, rfl, ?_⟩
  have hB97 := hB5.trans (hb96.mono hB5.size)
  have hS98 := hS6.below hb96
  refine wl_not rfl rfl ?_
  refine wl_move rfl rfl ?_
  rcases bE (!u94) with h100 | h100
  · replace hF := ifP h100 hF
    refine wl_off rfl rfl rfl h100 ?_
    refine wl_off rfl rfl rfl h100 ?_
    refine wl_off rfl rfl rfl h100 ?_
    refine wl_off rfl rfl rfl h100 ?_
    refine wl_off rfl rfl rfl h100 ?_
    refine wl_off rfl rfl rfl h100 ?_
    refine wl_pick_t rfl rfl h100 rfl ?_
    refine WL.nil ?_
    exact fun a ha => hJ14 (true) _ hF hB97 (hS98.sel [0] rfl) a (ha.sub ⟨rfl, rfl, trivial⟩)
  · replace hF := ifN h100 hF
    refine wl_on rfl rfl h100 ?_
    refine wl_field (o := 0) (off' := 0) ff_31_0 rfl rfl rfl ?_
    refine wl_on rfl rfl h100 ?_
    refine wl_load_blk (i := 0) (vs := [v0_0]) (v := v0_0) tf_29 rfl rfl hS98 rfl rfl rfl ?_
    refine wl_on rfl rfl h100 ?_
    obtain ⟨u101, hu101, hF⟩ := bindE hF
    refine wl_index (e := ty_70) Try.underlying29 rfl rfl rfl h0_0 hu101 ?_
    rintro p102 _ ⟨v104, rfl, hv105⟩ hp103
    refine wl_on rfl rfl h100 ?_
    refine wl_load_p (vs := [v104]) (v := v104) tf_70 rfl rfl (hp103.ro hB97) rfl rfl ?_
    refine wl_on rfl rfl h100 ?_
    refine wl_lenr (e := ty_54) (l := u101) Try.underlying70 rfl rfl hv105 ?_
    refine wl_on rfl rfl h100 ?_
    refine wl_lss rfl rfl rfl ?_
    refine wl_pick_f rfl rfl h100 rfl ?_
    refine WL.nil ?_
    exact fun a ha => hJ14 ((decide ((List.length u101 : Int) < 2))) _ hF hB97 (hS98.sel [0] rfl) a (ha.sub ⟨rfl, rfl, trivial⟩)
theorem C_laws_FnExactLeastOfShow (w0 : World) (x0 : ((List (List (Int × Int))) × (List Int) × Int × Int)) (v0_0 : Value) (h0_0 : rdS ty_119 (· < w0.heap.size) w0 v0_0 x0.1) (v0_1 : Value) (h0_1 : rdS ty_3 (· < w0.heap.size) w0 v0_1 x0.2.1) (r : Bool) (hF : F_laws_FnExactLeastOfShow x0 = some r) :
    Calls Try.prog 5 [(.agg #[v0_0, v0_1, (.int .i64 x0.2.2.1), (.int .i64 x0.2.2.2)])].toArray w0 fun e w' => e = .returned (.bool r) ∧ Below w0.heap.size w0 w' := by
  refine calls_mk' Try.func5 rfl Try.ntmps5 rfl rfl fun Q hQ hP => ?_
  have hB : Below w0.heap.size w0 w0 := Below.refl _ _
  have hS : Sep w0.heap.size w0 [] := Sep.nil _ _
  unfold F_laws_FnExactLeastOfShow at hF
  refine W.seq fun K1 hK1 => ?_
  refine W.region ?_
  refine wl_box (cs := [v0_0, v0_1, (.int .i64 x0.2.2.1), (.int .i64 x0.2.2.2)]) rfl rfl rfl hB hS ?_
  intro b2 w3 hb4 hB5 hS6
  refine wl_assign rfl rfl ?_
  refine WL.nil ?_
  refine fun a ha => hK1 _ _ ?_ a ha
  refine W.seq fun K7 hK7 => ?_
  refine W.region ?_
  refine wl_assign rfl rfl ?_
  refine WL.nil ?_
  refine fun a ha => hK7 _ _ ?_ a ha
  refine W.seq fun K8 hK8 => ?_
  refine W.region ?_
  refine wl_load_blk (i := 0) (vs := [v0_0, v0_1, (.int .i64 x0.2.2.1), (.int .i64 x0.2.2.2)]) (v := (.agg #[v0_0, v0_1, (.int .i64 x0.2.2.1), (.int .i64 x0.2.2.2)])) tf_25 rfl rfl hS6 rfl rfl rfl ?_
  refine wl_move rfl rfl ?_
  obtain ⟨u9, hu9, hF⟩ := bindE hF
  refine wl_call rfl Try.call15 (C_laws_szShow w3 x0 v0_0 (h0_0.ro hB5) v0_1 (h0_1.ro hB5) 1048576 _ hu9) rfl ?_
  rintro _ w10 ⟨rfl, hb11⟩
  refine ⟨_, rfl, ?_⟩
  have hB12 := hB5.trans (hb11.mono hB5.size)
  have hS13 := hS6.below hb11
  refine wl_assign rfl rfl ?_
  refine WL.nil ?_
  refine fun a ha => hK8 _ _ ?_ a ha
  refine W.seq fun K15 hK15 => ?_
  refine W.seq fun K16 hK16 => ?_
  refine W.region ?_
  refine wl_move rfl rfl ?_
  refine wl_lss rfl rfl rfl ?_
  refine WL.nil ?_
  refine fun a ha => hK16 _ _ ?_ a ha
  refine W.cond rfl (fun h17 => ?_) (fun h17 => ?_)
  · replace hF := ifP h17 hF
    refine W.seq fun K18 hK18 => ?_
    refine W.region ?_
    refine wl_assign rfl rfl ?_
    refine WL.nil ?_
    refine fun a ha => hK18 _ _ ?_ a ha
    refine W.ret ?_
    have hr := Option.some.inj hF
    subst hr
    exact rets (vs := [(.bool true)]) hQ rfl ⟨rv_tmp rfl, trivial⟩ ⟨rfl, hB12⟩
  · replace hF := ifN h17 hF
    refine W.skip ?_
    refine fun a ha => hK15 _ _ ?_ a ha
    refine W.seq fun K19 hK19 => ?_
    refine W.region ?_
    refine wl_load_blk (i := 0) (vs := [v0_0, v0_1, (.int .i64 x0.2.2.1), (.int .i64 x0.2.2.2)]) (v := (.agg #[v0_0, v0_1, (.int .i64 x0.2.2.1), (.int .i64 x0.2.2.2)])) tf_25 rfl rfl hS13 rfl rfl rfl ?_
    obtain ⟨u20, hu20, hF⟩ := bindE hF
    refine wl_call rfl Try.call17 (C_laws_toShow w10 x0 v0_0 (h0_0.ro hB12) v0_1 (h0_1.ro hB12) _ hu20) rfl ?_
    rintro _ w25 ⟨v21, F22, v23, F24, rfl, hb26, hM29⟩
    refine ⟨_, rfl, ?_⟩
    have hB27 := hB12.trans (hb26.mono hB12.size)
    have hS28 := hS13.join hb26 hM29 hB12.size
    obtain ⟨u30, hu30, hF⟩ := bindE hF
    refine wl_call rfl Try.call22 (C_spec_LeastOfShow w25 u20 v21 (hS28.own_ro (i := 0) rfl) v23 (hS28.own_ro (i := 1) rfl) _ hu30) rfl ?_
    rintro _ w31 ⟨rfl, hb32⟩
    refine ⟨_, rfl, ?_⟩
    have hB33 := hB27.trans (hb32.mono hB27.size)
    have hS34 := hS28.below hb32
    refine wl_move rfl rfl ?_
    refine wl_extract rfl rfl rfl ?_
    refine wl_extract rfl rfl rfl ?_
    refine wl_extract rfl rfl rfl ?_
    refine wl_assign rfl rfl ?_
    refine wl_assign rfl rfl ?_
    refine wl_assign rfl rfl ?_
    refine WL.nil ?_
    refine fun a ha => hK19 _ _ ?_ a ha
    refine W.seq fun K36 hK36 => ?_
    refine W.region ?_
    refine wl_load_blk (i := 2) (vs := [v0_0, v0_1, (.int .i64 x0.2.2.1), (.int .i64 x0.2.2.2)]) (v := (.agg #[v0_0, v0_1, (.int .i64 x0.2.2.1), (.int .i64 x0.2.2.2)])) tf_25 rfl rfl hS34 rfl rfl rfl ?_
    obtain ⟨u37, hu37, hF⟩ := bindE hF
    refine wl_call rfl Try.call17 (C_laws_toShow w31 x0 v0_0 (h0_0.ro hB33) v0_1 (h0_1.ro hB33) _ hu37) rfl ?_
    rintro _ w42 ⟨v38, F39, v40, F41, rfl, hb43, hM46⟩
    refine ⟨_, rfl, ?_⟩
    have hB44 := hB33.trans (hb43.mono hB33.size)
    have hS45 := hS34.join hb43 hM46 hB33.size
    refine wl_alloc (cs := [(.slice none 0 0), (.slice none 0 0), (.int .i64 0), (.int .i64 0)]) tf_31 rfl rfl hB44 hS45 ?_
    intro b47 w48 hb49 hB50 hS51
    refine wl_store_blk (i := 0) (vs := [v38, v40, (.int .i64 u37.2.2.1), (.int .i64 u37.2.2.2)]) (cs' := [v38, v40, (.int .i64 u37.2.2.1), (.int .i64 u37.2.2.2)]) tf_31 rfl rfl rfl rfl hB50 hS51 rfl rfl ⟨(hS51.own_ro (i := 1) rfl).one, (hS51.own_ro (i := 2) rfl).one, rfl, rfl, trivial⟩ rfl ?_
    intro w52 hk55 hB53 hS54
    refine WL.nil ?_
    refine fun a ha => hK36 _ _ ?_ a ha
    refine W.seq fun K56 hK56 => ?_
    refine W.region ?_
    refine wl_load_blk (i := 0) (vs := [v38, v40, (.int .i64 u37.2.2.1), (.int .i64 u37.2.2.2)]) (v := (.agg #[v38, v40, (.int .i64 u37.2.2.1), (.int .i64 u37.2.2.2)])) tf_31 rfl rfl hS54 rfl rfl rfl ?_
    obtain ⟨u57, hu57, hF⟩ := bindE hF
    refine wl_call rfl Try.call23 (C_impl_LeastOfShow w52 u37 v38 (hS54.own_ro (i := 1) rfl) v40 (hS54.own_ro (i := 2) rfl) _ hu57) rfl ?_
    rintro _ w58 ⟨rfl, hb59⟩
    refine ⟨_, rfl, ?_⟩
    have hB60 := hB53.trans (hb59.mono hB53.size)
    have hS61 := hS54.below hb59
    refine wl_move rfl rfl ?_
    refine wl_extract rfl rfl rfl ?_
    refine wl_extract rfl rfl rfl ?_
    refine wl_extract rfl rfl rfl ?_
    refine wl_assign rfl rfl ?_
    refine wl_assign rfl rfl ?_
    refine wl_assign rfl rfl ?_
    refine WL.nil ?_
    refine fun a ha => hK56 _ _ ?_ a ha
    refine W.seq fun K63 hK63 => ?_
    refine W.seq fun K64 hK64 => ?_
    obtain ⟨k69, hk69, hF⟩ := jE1 hF
    have hJ70 : ∀ (y68 : Bool) (w65 : World) (_ : k69 y68 = some r) (_ : Below w0.heap.size w0 w65) (_ : Sep w0.heap.size w65 [R.blk b2 25 [v0_0, v0_1, (.int .i64 x0.2.2.1), (.int .i64 x0.2.2.2)], R.own ty_70 F39 v38 u37.1, R.own ty_3 F41 v40 u37.2.1, R.blk b47 31 [v38, v40, (.int .i64 u37.2.2.1), (.int .i64 u37.2.2.2)]]), ∀ a, St 49 [(1, (.pointer (some ⟨b2, 0, none⟩))), (7, (.pointer (some ⟨b47, 0, none⟩))), (43, (.bool y68))] a → K64 a w65 := by
      intro y68 w65 hF hB66 hS67
      subst hk69
      refine fun a ha => hK64 _ _ ?_ a ha
      refine W.cond rfl (fun h71 => ?_) (fun h71 => ?_)
      · replace hF := ifP h71 hF
        refine W.seq fun K72 hK72 => ?_
        refine W.region ?_
        refine wl_assign rfl rfl ?_
        refine WL.nil ?_
        refine fun a ha => hK72 _ _ ?_ a ha
        refine W.ret ?_
        have hr := Option.some.inj hF
        subst hr
        exact rets (vs := [(.bool false)]) hQ rfl ⟨rv_tmp rfl, trivial⟩ ⟨rfl, hB66⟩
      · replace hF := ifN h71 hF
        refine W.skip ?_
        refine fun a ha => hK63 _ _ ?_ a ha
        refine W.seq fun K73 hK73 => ?_
        refine W.seq fun K74 hK74 => ?_
        refine W.regionH mixed_ [] hB66 hS67 ?_
        intro w75 hb76 hB77 hS78
        have hSW79 := KeepX.refl w75 []
        refine WH.takex (i := 0) rfl (by kernel_rfl) (by kernel_rfl) (by kernel_rfl) hP hSW79 ?_
        refine pr_load_blk (i := 3) (vs := [v38, v40, (.int .i64 u37.2.2.1), (.int .i64 u37.2.2.2)]) (v := (.agg #[v38, v40, (.int .i64 u37.2.2.1), (.int .i64 u37.2.2.2)])) tf_31 rfl rfl hS78 rfl rfl rfl (by simp) ?_
        refine WH.takex (i := 1) rfl (by kernel_rfl) (by kernel_rfl) (by kernel_rfl) hP hSW79 ?_
        refine pr_load_blk (i := 0) (vs := [v0_0, v0_1, (.int .i64 x0.2.2.1), (.int .i64 x0.2.2.2)]) (v := (.agg #[v0_0, v0_1, (.int .i64 x0.2.2.1), (.int .i64 x0.2.2.2)])) tf_25 rfl rfl hS78 rfl rfl rfl (by simp) ?_
        refine WH.one (i := 2) (by kernel_rfl) rfl ?_
        obtain ⟨u80, hu80, hF⟩ := bindE hF
        refine wl_call rfl Try.call17 (C_laws_toShow w75 x0 v0_0 (h0_0.ro hB77) v0_1 (h0_1.ro hB77) _ hu80) rfl ?_
        rintro _ w85 ⟨v81, F82, v83, F84, rfl, hb86, hM89⟩
        refine ⟨_, rfl, ?_⟩
        have hB87 := hB77.trans (hb86.mono hB77.size)
        have hS88 := hS78.join hb86 hM89 hB77.size
        have hSW90 := hSW79.ext hb86
        refine WL.nil (WH.ret hSW90 ?_)
        refine WH.one (i := 3) (by kernel_rfl) rfl ?_
        obtain ⟨u91, hu91, hF⟩ := bindE hF
        refine wl_call rfl Try.call19 (C_laws_eqShow w85 u37 v38 (hS88.own_ro (i := 3) rfl) v40 (hS88.own_ro (i := 4) rfl) u80 v81 (hS88.own_ro (i := 0) rfl) v83 (hS88.own_ro (i := 1) rfl) _ hu91) rfl ?_
        rintro _ w92 ⟨rfl, hb93⟩
        refine ⟨_, rfl, ?_⟩
        have hB94 := hB87.trans (hb93.mono hB87.size)
        have hS95 := hS88.below hb93
        have hSW97 := hSW90.ext hb93
        refine WL.nil (WH.ret hSW97 ?_)
        refine WH.takex (i := 4) rfl (by kernel_rfl) (by kernel_rfl) (by kernel_rfl) hP hSW97 ?_
        refine pr_not rfl rfl ?_
        refine WH.done (by kernel_rfl) ?_
        refine fun a ha => hK74 _ _ ?_ a ha
        refine W.cond rfl (fun h98 => ?_) (fun h98 => ?_)
        · replace hF := ifP h98 hF
          refine W.seq fun K99 hK99 => ?_
          refine W.region ?_
          refine wl_assign rfl rfl ?_
          refine WL.nil ?_
          refine fun a ha => hK99 _ _ ?_ a ha
          refine W.ret ?_
          have hr := Option.some.inj hF
          subst hr
          exact rets (vs := [(.bool false)]) hQ rfl ⟨rv_tmp rfl, trivial⟩ ⟨rfl, hB94⟩
        · replace hF := ifN h98 hF
          refine W.skip ?_
          refine fun a ha => hK73 _ _ ?_ a ha
          refine W.seq fun K100 hK100 => ?_
          refine W.region ?_
          refine wl_assign rfl rfl ?_
          refine WL.nil ?_
          refine fun a ha => hK100 _ _ ?_ a ha
          refine W.ret ?_
          have hr := Option.some.inj hF
          subst hr
          exact rets (vs := [(.bool true)]) hQ rfl ⟨rv_tmp rfl, trivial⟩ ⟨rfl, hB94⟩
    refine W.region ?_
    refine wl_move rfl rfl ?_
    refine wl_move rfl rfl ?_
    refine wl_neq rfl rfl rfl ?_
    refine wl_move rfl rfl ?_
    rcases bE (u57.1 != u30.1) with h101 | h101
    · replace hF := ifP h101 hF
      refine wl_off rfl rfl rfl h101 ?_
      refine wl_off rfl rfl rfl h101 ?_
      refine wl_off rfl rfl rfl h101 ?_
      refine wl_pick_t rfl rfl h101 rfl ?_
      refine wl_move rfl rfl ?_
      refine wl_off rfl rfl rfl rfl ?_
      refine wl_off rfl rfl rfl rfl ?_
      refine wl_off rfl rfl rfl rfl ?_
      refine wl_pick_t rfl rfl rfl rfl ?_
      refine WL.nil ?_
      exact fun a ha => hJ70 (true) _ hF hB60 (hS61.sel [5, 1, 2, 0] rfl) a (ha.sub ⟨rfl, rfl, rfl, trivial⟩)
    · replace hF := ifN h101 hF
      refine wl_on rfl rfl h101 ?_
      refine wl_move rfl rfl ?_
      refine wl_on rfl rfl h101 ?_
      refine wl_move rfl rfl ?_
      refine wl_on rfl rfl h101 ?_
      refine wl_neq rfl rfl rfl ?_
      refine wl_pick_f rfl rfl h101 rfl ?_
      refine wl_move rfl rfl ?_
      rcases bE (u57.2.1 != u30.2.1) with h102 | h102
      · replace hF := ifP h102 hF
        refine wl_off rfl rfl rfl h102 ?_
        refine wl_off rfl rfl rfl h102 ?_
        refine wl_off rfl rfl rfl h102 ?_
        refine wl_pick_t rfl rfl h102 rfl ?_
        refine WL.nil ?_
        exact fun a ha => hJ70 (true) _ hF hB60 (hS61.sel [5, 1, 2, 0] rfl) a (ha.sub ⟨rfl, rfl, rfl, trivial⟩)
      · replace hF := ifN h102 hF
        refine wl_on rfl rfl h102 ?_
        refine wl_move rfl rfl ?_
        refine wl_on rfl rfl h102 ?_
        refine wl_move rfl rfl ?_
        refine wl_on rfl rfl h102 ?_
        refine wl_neqb Try.underlying4 rfl rfl rfl ?_
        refine wl_pick_f rfl rfl h102 rfl ?_
        refine WL.nil ?_
        exact fun a ha => hJ70 ((u57.2.2 != u30.2.2)) _ hF hB60 (hS61.sel [5, 1, 2, 0] rfl) a (ha.sub ⟨rfl, rfl, rfl, trivial⟩)
end Go.Proofs.Ythlfhcefeaehmaa
