/-
  THE WALKS of functions of this seat, by program (gen.py, prune.py).
-/
import Derived.Test.YtmkignciedkidaaWXFnCuesb
set_option linter.unusedSimpArgs false
set_option linter.unusedVariables false
set_option maxRecDepth 100000
set_option maxHeartbeats 1600000
namespace Go.Proofs.Ytmkignciedkidaa
open Go Go.RowKit
theorem C_laws_qCues (w0 : World) (x0 : (List (Int × (List UInt8)))) (v0_0 : Value) (h0_0 : rdS ty_44 (· < w0.heap.size) w0 v0_0 x0) (x1 : (List (Int × (List UInt8)))) (v1_0 : Value) (h1_0 : rdS ty_44 (· < w0.heap.size) w0 v1_0 x1) (r : Bool) (hF : F_laws_qCues x0 x1 = some r) :
    Calls Try.prog 27 [v0_0, v1_0].toArray w0 fun e w' => e = .returned (.bool r) ∧ Below w0.heap.size w0 w' := by
  refine calls_mk' Try.func27 rfl Try.ntmps27 rfl rfl fun Q hQ hP => ?_
  have hB : Below w0.heap.size w0 w0 := Below.refl _ _
  have hS : Sep w0.heap.size w0 [] := Sep.nil _ _
  unfold F_laws_qCues at hF
  refine W.seq fun K1 hK1 => ?_
  refine W.region ?_
  refine wl_assign rfl rfl ?_
  refine WL.nil ?_
  refine fun a ha => hK1 _ _ ?_ a ha
  refine W.seq fun K2 hK2 => ?_
  refine W.seq fun K3 hK3 => ?_
  refine W.region ?_
  refine wl_move rfl rfl ?_
  refine wl_lenr (e := ty_44) (l := x0) Try.underlying24 rfl rfl h0_0 ?_
  refine wl_move rfl rfl ?_
  refine wl_lenr (e := ty_44) (l := x1) Try.underlying24 rfl rfl h1_0 ?_
  refine wl_neq rfl rfl rfl ?_
  refine WL.nil ?_
  refine fun a ha => hK3 _ _ ?_ a ha
  refine W.cond rfl (fun h4 => ?_) (fun h4 => ?_)
  · replace hF := ifP h4 hF
    refine W.seq fun K5 hK5 => ?_
    refine W.region ?_
    refine wl_assign rfl rfl ?_
    refine WL.nil ?_
    refine fun a ha => hK5 _ _ ?_ a ha
    refine W.ret ?_
    have hr := Option.some.inj hF
    subst hr
    exact rets (vs := [(.bool false)]) hQ rfl ⟨rv_tmp rfl, trivial⟩ ⟨rfl, hB⟩
  · replace hF := ifN h4 hF
    refine W.skip ?_
    refine fun a ha => hK2 _ _ ?_ a ha
    refine W.seq fun K6 hK6 => ?_
    refine W.seq fun K7 hK7 => ?_
    refine W.region ?_
    refine wl_move rfl rfl ?_
    refine wl_lenr (e := ty_44) (l := x0) Try.underlying24 rfl rfl h0_0 ?_
    refine wl_move rfl rfl ?_
    refine WL.nil ?_
    refine fun a ha => hK7 _ _ ?_ a ha
    refine W.block ?_
    refine W.loopk (fun m a w8 => ∃ (y11 : Int), St 26 [(0, v0_0), (1, v1_0), (12, (.int .i64 (List.length x0 : Int))), (13, (.int .i64 y11))] a ∧ Below w0.heap.size w0 w8 ∧ Sep w0.heap.size w8 [] ∧ F_laws_qCues_L1 x0 x1 m y11 = some r) FU ?_ ?_
    ·
      exact fun a ha => ⟨0, ha.sub ⟨rfl, rfl, rfl, rfl, trivial⟩, hB, (hS.sel [] rfl), hF⟩
    ·
      rintro m14 a w8 ⟨y11, ha, hB9, hS10, hF⟩ KL13 hKL13
      refine W.at ?_ ha
      cases m14 with
      | zero => exact noneE hF
      | succ m14 =>
        obtain ⟨nx12, hnx12⟩ : ∃ k, k = F_laws_qCues_L1 x0 x1 m14 := ⟨_, rfl⟩
        rw [F_laws_qCues_L1, ← hnx12] at hF
        refine W.seq fun K15 hK15 => ?_
        refine W.region ?_
        refine wl_lss rfl rfl rfl ?_
        refine WL.nil ?_
        refine fun a ha => hK15 _ _ ?_ a ha
        refine W.seq fun K16 hK16 => ?_
        refine W.cond rfl (fun h17 => ?_) (fun h17 => ?_)
        · replace hF := ifP h17 hF
          refine W.skip ?_
          refine fun a ha => hK16 _ _ ?_ a ha
          refine W.seq fun K18 hK18 => ?_
          refine W.block ?_
          refine W.seq fun K19 hK19 => ?_
          refine W.region ?_
          refine wl_move rfl rfl ?_
          refine wl_assign rfl rfl ?_
          refine WL.nil ?_
          refine fun a ha => hK19 _ _ ?_ a ha
          refine W.seq fun K20 hK20 => ?_
          refine W.regionH mixed_ [] hB9 hS10 ?_
          intro w21 hb22 hB23 hS24
          have hSW25 := KeepX.refl w21 []
          refine WH.takex (i := 0) rfl (by kernel_rfl) (by kernel_rfl) (by kernel_rfl) hP hSW25 ?_
          refine pr_move rfl rfl ?_
          refine WH.takex (i := 1) rfl (by kernel_rfl) (by kernel_rfl) (by kernel_rfl) hP hSW25 ?_
          refine pr_move rfl rfl ?_
          obtain ⟨u26, hu26, hF⟩ := bindE hF
          refine WH.takex (i := 2) rfl (by kernel_rfl) (by kernel_rfl) (by kernel_rfl) hP hSW25 ?_
          refine pr_index (e := ty_44) Try.underlying24 rfl rfl rfl h0_0 hu26 ?_
          rintro p27 _ rfl hp28
          refine WH.takex (i := 3) rfl (by kernel_rfl) (by kernel_rfl) (by kernel_rfl) hP hSW25 ?_
          refine pr_load_p (vs := [(.int .i64 u26.1), (.string (mkS u26.2))]) (v := (.agg #[(.int .i64 u26.1), (.string (mkS u26.2))])) tf_44 rfl rfl (hp28.kx hB23 (by simp)) rfl rfl ?_
          refine WH.takex (i := 4) rfl (by kernel_rfl) (by kernel_rfl) (by kernel_rfl) hP hSW25 ?_
          refine pr_move rfl rfl ?_
          refine WH.takex (i := 5) rfl (by kernel_rfl) (by kernel_rfl) (by kernel_rfl) hP hSW25 ?_
          refine pr_move rfl rfl ?_
          obtain ⟨u29, hu29, hF⟩ := bindE hF
          refine WH.takex (i := 6) rfl (by kernel_rfl) (by kernel_rfl) (by kernel_rfl) hP hSW25 ?_
          refine pr_index (e := ty_44) Try.underlying24 rfl rfl rfl h1_0 hu29 ?_
          rintro p30 _ rfl hp31
          refine WH.takex (i := 7) rfl (by kernel_rfl) (by kernel_rfl) (by kernel_rfl) hP hSW25 ?_
          refine pr_load_p (vs := [(.int .i64 u29.1), (.string (mkS u29.2))]) (v := (.agg #[(.int .i64 u29.1), (.string (mkS u29.2))])) tf_44 rfl rfl (hp31.kx hB23 (by simp)) rfl rfl ?_
          refine WH.takex (i := 8) rfl (by kernel_rfl) (by kernel_rfl) (by kernel_rfl) hP hSW25 ?_
          refine pr_nes Try.eqGuardType44 (eq_44 u26 u29) rfl rfl rfl ?_
          refine WH.done (by kernel_rfl) ?_
          refine fun a ha => hK20 _ _ ?_ a ha
          refine W.cond rfl (fun h32 => ?_) (fun h32 => ?_)
          · replace hF := ifP h32 hF
            refine W.seq fun K33 hK33 => ?_
            refine W.region ?_
            refine wl_assign rfl rfl ?_
            refine WL.nil ?_
            refine fun a ha => hK33 _ _ ?_ a ha
            refine W.ret ?_
            have hr := Option.some.inj hF
            subst hr
            exact rets (vs := [(.bool false)]) hQ rfl ⟨rv_tmp rfl, trivial⟩ ⟨rfl, hB23⟩
          · replace hF := ifN h32 hF
            refine W.skip ?_
            refine fun a ha => hK18 _ _ ?_ a ha
            refine W.region ?_
            refine wl_add rfl rfl rfl ?_
            refine wl_move rfl rfl ?_
            refine WL.nil ?_
            rw [hnx12] at hF
            exact fun a ha => hKL13 a _ m14 (Nat.lt_succ_self m14) ⟨(w64 (y11 + 1)), ha.sub ⟨rfl, rfl, rfl, rfl, trivial⟩, hB23, (hS24.sel [] rfl), hF⟩
        · replace hF := ifN h17 hF
          refine W.exit ?_
          refine fun a ha => hK6 _ _ ?_ a ha
          refine W.seq fun K34 hK34 => ?_
          refine W.region ?_
          refine wl_assign rfl rfl ?_
          refine WL.nil ?_
          refine fun a ha => hK34 _ _ ?_ a ha
          refine W.ret ?_
          have hr := Option.some.inj hF
          subst hr
          exact rets (vs := [(.bool true)]) hQ rfl ⟨rv_tmp rfl, trivial⟩ ⟨rfl, hB9⟩
theorem C_laws_qHas (w0 : World) (x0 : (List Int)) (v0_0 : Value) (h0_0 : rdS ty_3 (· < w0.heap.size) w0 v0_0 x0) (x1 : Int) (r : Bool) (hF : F_laws_qHas x0 x1 = some r) :
    Calls Try.prog 28 [v0_0, (.int .i64 x1)].toArray w0 fun e w' => e = .returned (.bool r) ∧ Below w0.heap.size w0 w' := by
  refine calls_mk' Try.func28 rfl Try.ntmps28 rfl rfl fun Q hQ hP => ?_
  have hB : Below w0.heap.size w0 w0 := Below.refl _ _
  have hS : Sep w0.heap.size w0 [] := Sep.nil _ _
  unfold F_laws_qHas at hF
  refine W.seq fun K1 hK1 => ?_
  refine W.region ?_
  refine wl_assign rfl rfl ?_
  refine WL.nil ?_
  refine fun a ha => hK1 _ _ ?_ a ha
  refine W.seq fun K2 hK2 => ?_
  refine W.seq fun K3 hK3 => ?_
  refine W.region ?_
  refine wl_move rfl rfl ?_
  refine wl_lenr (e := ty_3) (l := x0) Try.underlying29 rfl rfl h0_0 ?_
  refine wl_move rfl rfl ?_
  refine WL.nil ?_
  refine fun a ha => hK3 _ _ ?_ a ha
  refine W.block ?_
  refine W.loopk (fun m a w4 => ∃ (y7 : Int), St 17 [(1, (.int .i64 x1)), (7, v0_0), (8, (.int .i64 (List.length x0 : Int))), (9, (.int .i64 y7))] a ∧ Below w0.heap.size w0 w4 ∧ Sep w0.heap.size w4 [] ∧ F_laws_qHas_L1 x0 x1 m y7 = some r) FU ?_ ?_
  ·
    exact fun a ha => ⟨0, ha.sub ⟨rfl, rfl, rfl, rfl, trivial⟩, hB, (hS.sel [] rfl), hF⟩
  ·
    rintro m10 a w4 ⟨y7, ha, hB5, hS6, hF⟩ KL9 hKL9
    refine W.at ?_ ha
    cases m10 with
    | zero => exact noneE hF
    | succ m10 =>
      obtain ⟨nx8, hnx8⟩ : ∃ k, k = F_laws_qHas_L1 x0 x1 m10 := ⟨_, rfl⟩
      rw [F_laws_qHas_L1, ← hnx8] at hF
      refine W.seq fun K11 hK11 => ?_
      refine W.region ?_
      refine wl_lss rfl rfl rfl ?_
      refine WL.nil ?_
      refine fun a ha => hK11 _ _ ?_ a ha
      refine W.seq fun K12 hK12 => ?_
      refine W.cond rfl (fun h13 => ?_) (fun h13 => ?_)
      · replace hF := ifP h13 hF
        refine W.skip ?_
        refine fun a ha => hK12 _ _ ?_ a ha
        refine W.seq fun K14 hK14 => ?_
        refine W.block ?_
        refine W.seq fun K15 hK15 => ?_
        refine W.region ?_
        obtain ⟨u16, hu16, hF⟩ := bindE hF
        refine wl_index (e := ty_3) Try.underlying29 rfl rfl rfl h0_0 hu16 ?_
        rintro p17 _ rfl hp18
        refine wl_load_p (vs := [(.int .i64 u16)]) (v := (.int .i64 u16)) tf_3 rfl rfl (hp18.ro hB5) rfl rfl ?_
        refine wl_assign rfl rfl ?_
        refine WL.nil ?_
        refine fun a ha => hK15 _ _ ?_ a ha
        refine W.seq fun K19 hK19 => ?_
        refine W.region ?_
        refine wl_move rfl rfl ?_
        refine wl_move rfl rfl ?_
        refine wl_eql rfl rfl rfl ?_
        refine WL.nil ?_
        refine fun a ha => hK19 _ _ ?_ a ha
        refine W.cond rfl (fun h20 => ?_) (fun h20 => ?_)
        · replace hF := ifP h20 hF
          refine W.seq fun K21 hK21 => ?_
          refine W.region ?_
          refine wl_assign rfl rfl ?_
          refine WL.nil ?_
          refine fun a ha => hK21 _ _ ?_ a ha
          refine W.ret ?_
          have hr := Option.some.inj hF
          subst hr
          exact rets (vs := [(.bool true)]) hQ rfl ⟨rv_tmp rfl, trivial⟩ ⟨rfl, hB5⟩
        · replace hF := ifN h20 hF
          refine W.skip ?_
          refine fun a ha => hK14 _ _ ?_ a ha
          refine W.region ?_
          refine wl_add rfl rfl rfl ?_
          refine wl_move rfl rfl ?_
          refine WL.nil ?_
          rw [hnx8] at hF
          exact fun a ha => hKL9 a _ m10 (Nat.lt_succ_self m10) ⟨(w64 (y7 + 1)), ha.sub ⟨rfl, rfl, rfl, rfl, trivial⟩, hB5, (hS6.sel [] rfl), hF⟩
      · replace hF := ifN h13 hF
        refine W.exit ?_
        refine fun a ha => hK2 _ _ ?_ a ha
        refine W.seq fun K22 hK22 => ?_
        refine W.region ?_
        refine wl_assign rfl rfl ?_
        refine WL.nil ?_
        refine fun a ha => hK22 _ _ ?_ a ha
        refine W.ret ?_
        have hr := Option.some.inj hF
        subst hr
        exact rets (vs := [(.bool false)]) hQ rfl ⟨rv_tmp rfl, trivial⟩ ⟨rfl, hB5⟩
theorem C_impl_AreCues (w0 : World) (x0 : (List (Int × Int))) (v0_0 : Value) (h0_0 : rdS ty_183 (· < w0.heap.size) w0 v0_0 x0) (x1 : (List (Int × (List UInt8)))) (v1_0 : Value) (h1_0 : rdS ty_44 (· < w0.heap.size) w0 v1_0 x1) (r : (Bool × Bool)) (hF : F_impl_AreCues x0 x1 = some r) :
    Calls Try.prog 29 [v0_0, v1_0].toArray w0 fun e w' => e = .returned (.tuple #[(.bool r.1), (.bool r.2)]) ∧ Below w0.heap.size w0 w' := by
  refine calls_mk' Try.func29 rfl Try.ntmps29 rfl rfl fun Q hQ hP => ?_
  have hB : Below w0.heap.size w0 w0 := Below.refl _ _
  have hS : Sep w0.heap.size w0 [] := Sep.nil _ _
  unfold F_impl_AreCues at hF
  refine W.seq fun K1 hK1 => ?_
  refine W.region ?_
  refine wl_assign rfl rfl ?_
  refine wl_assign rfl rfl ?_
  refine WL.nil ?_
  refine fun a ha => hK1 _ _ ?_ a ha
  refine W.seq fun K2 hK2 => ?_
  refine W.seq fun K3 hK3 => ?_
  refine W.region ?_
  refine wl_move rfl rfl ?_
  obtain ⟨u4, hu4, hF⟩ := bindE hF
  refine wl_call rfl Try.call140 (C_impl_IsMusic w0 x0 v0_0 (h0_0.ro hB) _ hu4) rfl ?_
  rintro _ w5 ⟨rfl, hb6⟩
  refine ⟨_, rfl, ?_⟩
  have hB7 := hB.trans (hb6.mono hB.size)
  have hS8 := hS.below hb6
  refine wl_not rfl rfl ?_
  refine WL.nil ?_
  refine fun a ha => hK3 _ _ ?_ a ha
  refine W.cond rfl (fun h10 => ?_) (fun h10 => ?_)
  · replace hF := ifP h10 hF
    refine W.seq fun K11 hK11 => ?_
    refine W.region ?_
    refine wl_assign rfl rfl ?_
    refine wl_assign rfl rfl ?_
    refine WL.nil ?_
    refine fun a ha => hK11 _ _ ?_ a ha
    refine W.ret ?_
    have hr := Option.some.inj hF
    subst hr
    exact rets (vs := [(.bool false), (.bool false)]) hQ rfl ⟨rv_tmp rfl, rv_tmp rfl, trivial⟩ ⟨rfl, hB7⟩
  · replace hF := ifN h10 hF
    refine W.skip ?_
    refine fun a ha => hK2 _ _ ?_ a ha
    refine W.seq fun K12 hK12 => ?_
    refine W.region ?_
    refine wl_move rfl rfl ?_
    refine wl_move rfl rfl ?_
    obtain ⟨u13, hu13, hF⟩ := bindE hF
    refine wl_call rfl Try.call137 (C_impl_areCues w5 x0 v0_0 (h0_0.ro hB7) x1 v1_0 (h1_0.ro hB7) _ hu13) rfl ?_
    rintro _ w14 ⟨rfl, hb15⟩
    refine ⟨_, rfl, ?_⟩
    have hB16 := hB7.trans (hb15.mono hB7.size)
    have hS17 := hS8.below hb15
    refine wl_assign rfl rfl ?_
    refine wl_assign rfl rfl ?_
    refine WL.nil ?_
    refine fun a ha => hK12 _ _ ?_ a ha
    refine W.ret ?_
    have hr := Option.some.inj hF
    subst hr
    exact rets (vs := [(.bool u13), (.bool true)]) hQ rfl ⟨rv_tmp rfl, rv_tmp rfl, trivial⟩ ⟨rfl, hB16⟩
theorem C_impl_CountsOf (w0 : World) (x0 : (List (Int × Int))) (v0_0 : Value) (h0_0 : rdS ty_183 (· < w0.heap.size) w0 v0_0 x0) (r : (Int × Bool)) (hF : F_impl_CountsOf x0 = some r) :
    Calls Try.prog 30 [v0_0].toArray w0 fun e w' => e = .returned (.tuple #[(.int .i64 r.1), (.bool r.2)]) ∧ Below w0.heap.size w0 w' := by
  refine calls_mk' Try.func30 rfl Try.ntmps30 rfl rfl fun Q hQ hP => ?_
  have hB : Below w0.heap.size w0 w0 := Below.refl _ _
  have hS : Sep w0.heap.size w0 [] := Sep.nil _ _
  unfold F_impl_CountsOf at hF
  refine W.seq fun K1 hK1 => ?_
  refine W.region ?_
  refine wl_assign rfl rfl ?_
  refine wl_assign rfl rfl ?_
  refine WL.nil ?_
  refine fun a ha => hK1 _ _ ?_ a ha
  refine W.seq fun K2 hK2 => ?_
  refine W.seq fun K3 hK3 => ?_
  refine W.region ?_
  refine wl_move rfl rfl ?_
  obtain ⟨u4, hu4, hF⟩ := bindE hF
  refine wl_call rfl Try.call140 (C_impl_IsMusic w0 x0 v0_0 (h0_0.ro hB) _ hu4) rfl ?_
  rintro _ w5 ⟨rfl, hb6⟩
  refine ⟨_, rfl, ?_⟩
  have hB7 := hB.trans (hb6.mono hB.size)
  have hS8 := hS.below hb6
  refine wl_not rfl rfl ?_
  refine WL.nil ?_
  refine fun a ha => hK3 _ _ ?_ a ha
  refine W.cond rfl (fun h10 => ?_) (fun h10 => ?_)
  · replace hF := ifP h10 hF
    refine W.seq fun K11 hK11 => ?_
    refine W.region ?_
    refine wl_assign rfl rfl ?_
    refine wl_assign rfl rfl ?_
    refine WL.nil ?_
    refine fun a ha => hK11 _ _ ?_ a ha
    refine W.ret ?_
    have hr := Option.some.inj hF
    subst hr
    exact rets (vs := [(.int .i64 0), (.bool false)]) hQ rfl ⟨rv_tmp rfl, rv_tmp rfl, trivial⟩ ⟨rfl, hB7⟩
  · replace hF := ifN h10 hF
    refine W.skip ?_
    refine fun a ha => hK2 _ _ ?_ a ha
    refine W.seq fun K12 hK12 => ?_
    refine W.region ?_
    refine wl_move rfl rfl ?_
    obtain ⟨u13, hu13, hF⟩ := bindE hF
    refine wl_call rfl Try.call121 (C_impl_countsOf w5 x0 v0_0 (h0_0.ro hB7) _ hu13) rfl ?_
    rintro _ w14 ⟨rfl, hb15⟩
    refine ⟨_, rfl, ?_⟩
    have hB16 := hB7.trans (hb15.mono hB7.size)
    have hS17 := hS8.below hb15
    refine wl_assign rfl rfl ?_
    refine wl_assign rfl rfl ?_
    refine WL.nil ?_
    refine fun a ha => hK12 _ _ ?_ a ha
    refine W.ret ?_
    have hr := Option.some.inj hF
    subst hr
    exact rets (vs := [(.int .i64 u13), (.bool true)]) hQ rfl ⟨rv_tmp rfl, rv_tmp rfl, trivial⟩ ⟨rfl, hB16⟩
theorem C_spec_CountsOf (w0 : World) (x0 : (List (Int × Int))) (v0_0 : Value) (h0_0 : rdS ty_183 (· < w0.heap.size) w0 v0_0 x0) (r : (Int × Bool)) (hF : F_spec_CountsOf x0 = some r) :
    Calls Try.prog 31 [v0_0].toArray w0 fun e w' => e = .returned (.tuple #[(.int .i64 r.1), (.bool r.2)]) ∧ Below w0.heap.size w0 w' := by
  refine calls_mk' Try.func31 rfl Try.ntmps31 rfl rfl fun Q hQ hP => ?_
  have hB : Below w0.heap.size w0 w0 := Below.refl _ _
  have hS : Sep w0.heap.size w0 [] := Sep.nil _ _
  unfold F_spec_CountsOf at hF
  refine W.seq fun K1 hK1 => ?_
  refine W.region ?_
  refine wl_assign rfl rfl ?_
  refine wl_assign rfl rfl ?_
  refine WL.nil ?_
  refine fun a ha => hK1 _ _ ?_ a ha
  refine W.seq fun K2 hK2 => ?_
  refine W.seq fun K3 hK3 => ?_
  refine W.region ?_
  refine wl_move rfl rfl ?_
  obtain ⟨u4, hu4, hF⟩ := bindE hF
  refine wl_call rfl Try.call141 (C_spec_muGood w0 x0 v0_0 (h0_0.ro hB) _ hu4) rfl ?_
  rintro _ w5 ⟨rfl, hb6⟩
  refine ⟨_, rfl, ?_⟩
  have hB7 := hB.trans (hb6.mono hB.size)
  have hS8 := hS.below hb6
  refine wl_not rfl rfl ?_
  refine WL.nil ?_
  refine fun a ha => hK3 _ _ ?_ a ha
  refine W.cond rfl (fun h10 => ?_) (fun h10 => ?_)
  · replace hF := ifP h10 hF
    refine W.seq fun K11 hK11 => ?_
    refine W.region ?_
    refine wl_assign rfl rfl ?_
    refine wl_assign rfl rfl ?_
    refine WL.nil ?_
    refine fun a ha => hK11 _ _ ?_ a ha
    refine W.ret ?_
    have hr := Option.some.inj hF
    subst hr
    exact rets (vs := [(.int .i64 0), (.bool false)]) hQ rfl ⟨rv_tmp rfl, rv_tmp rfl, trivial⟩ ⟨rfl, hB7⟩
  · replace hF := ifN h10 hF
    refine W.skip ?_
    refine fun a ha => hK2 _ _ ?_ a ha
    refine W.seq fun K12 hK12 => ?_
    refine W.region ?_
    refine wl_move rfl rfl ?_
    obtain ⟨u13, hu13, hF⟩ := bindE hF
    refine wl_call rfl Try.call125 (C_spec_muCounts w5 x0 v0_0 (h0_0.ro hB7) _ hu13) rfl ?_
    rintro _ w14 ⟨rfl, hb15⟩
    refine ⟨_, rfl, ?_⟩
    have hB16 := hB7.trans (hb15.mono hB7.size)
    have hS17 := hS8.below hb15
    refine wl_assign rfl rfl ?_
    refine wl_assign rfl rfl ?_
    refine WL.nil ?_
    refine fun a ha => hK12 _ _ ?_ a ha
    refine W.ret ?_
    have hr := Option.some.inj hF
    subst hr
    exact rets (vs := [(.int .i64 u13), (.bool true)]) hQ rfl ⟨rv_tmp rfl, rv_tmp rfl, trivial⟩ ⟨rfl, hB16⟩
theorem C_impl_TimeOf (w0 : World) (x0 : (List (Int × Int))) (v0_0 : Value) (h0_0 : rdS ty_183 (· < w0.heap.size) w0 v0_0 x0) (x1 : Int) (r : (Int × Bool)) (hF : F_impl_TimeOf x0 x1 = some r) :
    Calls Try.prog 32 [v0_0, (.int .i64 x1)].toArray w0 fun e w' => e = .returned (.tuple #[(.int .i64 r.1), (.bool r.2)]) ∧ Below w0.heap.size w0 w' := by
  refine calls_mk' Try.func32 rfl Try.ntmps32 rfl rfl fun Q hQ hP => ?_
  have hB : Below w0.heap.size w0 w0 := Below.refl _ _
  have hS : Sep w0.heap.size w0 [] := Sep.nil _ _
  unfold F_impl_TimeOf at hF
  refine W.seq fun K1 hK1 => ?_
  refine W.region ?_
  refine wl_assign rfl rfl ?_
  refine wl_assign rfl rfl ?_
  refine WL.nil ?_
  refine fun a ha => hK1 _ _ ?_ a ha
  refine W.seq fun K2 hK2 => ?_
  refine W.seq fun K3 hK3 => ?_
  obtain ⟨k8, hk8, hF⟩ := jE1 hF
  have hJ9 : ∀ (y7 : Bool) (w4 : World) (_ : k8 y7 = some r) (_ : Below w0.heap.size w0 w4) (_ : Sep w0.heap.size w4 []), ∀ a, St 19 [(0, v0_0), (1, (.int .i64 x1)), (15, (.bool y7))] a → K3 a w4 := by
    intro y7 w4 hF hB5 hS6
    subst hk8
    refine fun a ha => hK3 _ _ ?_ a ha
    refine W.cond rfl (fun h10 => ?_) (fun h10 => ?_)
    · replace hF := ifP h10 hF
      refine W.seq fun K11 hK11 => ?_
      refine W.region ?_
      refine wl_assign rfl rfl ?_
      refine wl_assign rfl rfl ?_
      refine WL.nil ?_
      refine fun a ha => hK11 _ _ ?_ a ha
      refine W.ret ?_
      have hr := Option.some.inj hF
      subst hr
      exact rets (vs := [(.int .i64 0), (.bool false)]) hQ rfl ⟨rv_tmp rfl, rv_tmp rfl, trivial⟩ ⟨rfl, hB5⟩
    · replace hF := ifN h10 hF
      refine W.skip ?_
      refine fun a ha => hK2 _ _ ?_ a ha
      refine W.seq fun K12 hK12 => ?_
      refine W.region ?_
      refine wl_move rfl rfl ?_
      refine wl_move rfl rfl ?_
      obtain ⟨u13, hu13, hF⟩ := bindE hF
      refine wl_call rfl Try.call120 (C_impl_timeOf w4 x0 v0_0 (h0_0.ro hB5) x1 _ hu13) rfl ?_
      rintro _ w14 ⟨rfl, hb15⟩
      refine ⟨_, rfl, ?_⟩
      have hB16 := hB5.trans (hb15.mono hB5.size)
      have hS17 := hS6.below hb15
      refine wl_assign rfl rfl ?_
      refine wl_assign rfl rfl ?_
      refine WL.nil ?_
      refine fun a ha => hK12 _ _ ?_ a ha
      refine W.ret ?_
      have hr := Option.some.inj hF
      subst hr
      exact rets (vs := [(.int .i64 u13), (.bool true)]) hQ rfl ⟨rv_tmp rfl, rv_tmp rfl, trivial⟩ ⟨rfl, hB16⟩
  refine W.region ?_
  refine wl_move rfl rfl ?_
  obtain ⟨u19, hu19, hF⟩ := bindE hF
  refine wl_call rfl Try.call140 (C_impl_IsMusic w0 x0 v0_0 (h0_0.ro hB) _ hu19) rfl ?_
  rintro _ w20 ⟨rfl, hb21⟩
  refine ⟨_, rfl, ?_⟩
  have hB22 := hB.trans (hb21.mono hB.size)
  have hS23 := hS.below hb21
  refine wl_not rfl rfl ?_
  refine wl_move rfl rfl ?_
  rcases bE (!u19) with h25 | h25
  · replace hF := ifP h25 hF
    refine wl_off rfl rfl rfl h25 ?_
    refine wl_off rfl rfl rfl h25 ?_
    refine wl_off rfl rfl rfl h25 ?_
    refine wl_off rfl rfl rfl h25 ?_
    refine wl_off rfl rfl rfl h25 ?_
    refine wl_pick_t rfl rfl h25 rfl ?_
    refine WL.nil ?_
    exact fun a ha => hJ9 (true) _ hF hB22 (hS23.sel [] rfl) a (ha.sub ⟨rfl, rfl, rfl, trivial⟩)
  · replace hF := ifN h25 hF
    refine wl_on rfl rfl h25 ?_
    refine wl_move rfl rfl ?_
    refine wl_on rfl rfl h25 ?_
    refine wl_move rfl rfl ?_
    refine wl_on rfl rfl h25 ?_
    obtain ⟨u26, hu26, hF⟩ := bindE hF
    refine wl_call rfl Try.call121 (C_impl_countsOf w20 x0 v0_0 (h0_0.ro hB22) _ hu26) rfl ?_
    rintro _ w27 ⟨rfl, hb28⟩
    refine ⟨_, rfl, ?_⟩
    have hB29 := hB22.trans (hb28.mono hB22.size)
    have hS30 := hS23.below hb28
    refine wl_on rfl rfl h25 ?_
    obtain ⟨u32, hu32, hF⟩ := bindE hF
    refine wl_call rfl Try.call128 (C_impl_within w27 x1 0 u26 _ hu32) rfl ?_
    rintro _ w33 ⟨rfl, hb34⟩
    refine ⟨_, rfl, ?_⟩
    have hB35 := hB29.trans (hb34.mono hB29.size)
    have hS36 := hS30.below hb34
    refine wl_on rfl rfl h25 ?_
    refine wl_not rfl rfl ?_
    refine wl_pick_f rfl rfl h25 rfl ?_
    refine WL.nil ?_
    exact fun a ha => hJ9 ((!u32)) _ hF hB35 (hS36.sel [] rfl) a (ha.sub ⟨rfl, rfl, rfl, trivial⟩)
theorem C_spec_muUpTo (w0 : World) (x0 : (List (Int × Int))) (v0_0 : Value) (h0_0 : rdS ty_183 (· < w0.heap.size) w0 v0_0 x0) (x1 : Int) (r : Bool) (hF : F_spec_muUpTo x0 x1 = some r) :
    Calls Try.prog 142 [v0_0, (.int .i64 x1)].toArray w0 fun e w' => e = .returned (.bool r) ∧ Below w0.heap.size w0 w' := by
  refine calls_mk' Try.func142 rfl Try.ntmps142 rfl rfl fun Q hQ hP => ?_
  have hB : Below w0.heap.size w0 w0 := Below.refl _ _
  have hS : Sep w0.heap.size w0 [] := Sep.nil _ _
  unfold F_spec_muUpTo at hF
  refine W.seq fun K1 hK1 => ?_
  refine W.region ?_
  refine wl_assign rfl rfl ?_
  refine WL.nil ?_
  refine fun a ha => hK1 _ _ ?_ a ha
  refine W.seq fun K2 hK2 => ?_
  obtain ⟨k7, hk7, hF⟩ := jE1 hF
  have hJ8 : ∀ (y6 : Bool) (w3 : World) (_ : k7 y6 = some r) (_ : Below w0.heap.size w0 w3) (_ : Sep w0.heap.size w3 []), ∀ a, St 13 [(4, (.bool y6))] a → K2 a w3 := by
    intro y6 w3 hF hB4 hS5
    subst hk7
    refine fun a ha => hK2 _ _ ?_ a ha
    refine W.ret ?_
    have hr := Option.some.inj hF
    subst hr
    exact rets (vs := [(.bool y6)]) hQ rfl ⟨rv_tmp rfl, trivial⟩ ⟨rfl, hB4⟩
  refine W.region ?_
  refine wl_move rfl rfl ?_
  obtain ⟨u9, hu9, hF⟩ := bindE hF
  refine wl_call rfl Try.call141 (C_spec_muGood w0 x0 v0_0 (h0_0.ro hB) _ hu9) rfl ?_
  rintro _ w10 ⟨rfl, hb11⟩
  refine ⟨_, rfl, ?_⟩
  have hB12 := hB.trans (hb11.mono hB.size)
  have hS13 := hS.below hb11
  refine wl_move rfl rfl ?_
  rcases bE u9 with h15 | h15
  · replace hF := ifP h15 hF
    refine wl_on rfl rfl h15 ?_
    refine wl_move rfl rfl ?_
    refine wl_on rfl rfl h15 ?_
    refine wl_move rfl rfl ?_
    refine wl_on rfl rfl h15 ?_
    obtain ⟨u16, hu16, hF⟩ := bindE hF
    refine wl_call rfl Try.call125 (C_spec_muCounts w10 x0 v0_0 (h0_0.ro hB12) _ hu16) rfl ?_
    rintro _ w17 ⟨rfl, hb18⟩
    refine ⟨_, rfl, ?_⟩
    have hB19 := hB12.trans (hb18.mono hB12.size)
    have hS20 := hS13.below hb18
    refine wl_on rfl rfl h15 ?_
    obtain ⟨u22, hu22, hF⟩ := bindE hF
    refine wl_call rfl Try.call138 (C_spec_l1In w17 x1 0 u16 _ hu22) rfl ?_
    rintro _ w23 ⟨rfl, hb24⟩
    refine ⟨_, rfl, ?_⟩
    have hB25 := hB19.trans (hb24.mono hB19.size)
    have hS26 := hS20.below hb24
    refine wl_pick_t rfl rfl h15 rfl ?_
    refine wl_assign rfl rfl ?_
    refine WL.nil ?_
    exact fun a ha => hJ8 (u22) _ hF hB25 (hS26.sel [] rfl) a (ha.sub ⟨rfl, trivial⟩)
  · replace hF := ifN h15 hF
    refine wl_off rfl rfl rfl h15 ?_
    refine wl_off rfl rfl rfl h15 ?_
    refine wl_off rfl rfl rfl h15 ?_
    refine wl_off rfl rfl rfl h15 ?_
    refine wl_pick_f rfl rfl h15 rfl ?_
    refine wl_assign rfl rfl ?_
    refine WL.nil ?_
    exact fun a ha => hJ8 (false) _ hF hB12 (hS13.sel [] rfl) a (ha.sub ⟨rfl, trivial⟩)
theorem C_spec_TimeOf (w0 : World) (x0 : (List (Int × Int))) (v0_0 : Value) (h0_0 : rdS ty_183 (· < w0.heap.size) w0 v0_0 x0) (x1 : Int) (r : (Int × Bool)) (hF : F_spec_TimeOf x0 x1 = some r) :
    Calls Try.prog 33 [v0_0, (.int .i64 x1)].toArray w0 fun e w' => e = .returned (.tuple #[(.int .i64 r.1), (.bool r.2)]) ∧ Below w0.heap.size w0 w' := by
  refine calls_mk' Try.func33 rfl Try.ntmps33 rfl rfl fun Q hQ hP => ?_
  have hB : Below w0.heap.size w0 w0 := Below.refl _ _
  have hS : Sep w0.heap.size w0 [] := Sep.nil _ _
  unfold F_spec_TimeOf at hF
  refine W.seq fun K1 hK1 => ?_
  refine W.region ?_
  refine wl_assign rfl rfl ?_
  refine wl_assign rfl rfl ?_
  refine WL.nil ?_
  refine fun a ha => hK1 _ _ ?_ a ha
  refine W.seq fun K2 hK2 => ?_
  refine W.seq fun K3 hK3 => ?_
  refine W.region ?_
  refine wl_move rfl rfl ?_
  refine wl_move rfl rfl ?_
  obtain ⟨u4, hu4, hF⟩ := bindE hF
  refine wl_call rfl Try.call142 (C_spec_muUpTo w0 x0 v0_0 (h0_0.ro hB) x1 _ hu4) rfl ?_
  rintro _ w5 ⟨rfl, hb6⟩
  refine ⟨_, rfl, ?_⟩
  have hB7 := hB.trans (hb6.mono hB.size)
  have hS8 := hS.below hb6
  refine wl_not rfl rfl ?_
  refine WL.nil ?_
  refine fun a ha => hK3 _ _ ?_ a ha
  refine W.cond rfl (fun h10 => ?_) (fun h10 => ?_)
  · replace hF := ifP h10 hF
    refine W.seq fun K11 hK11 => ?_
    refine W.region ?_
    refine wl_assign rfl rfl ?_
    refine wl_assign rfl rfl ?_
    refine WL.nil ?_
    refine fun a ha => hK11 _ _ ?_ a ha
    refine W.ret ?_
    have hr := Option.some.inj hF
    subst hr
    exact rets (vs := [(.int .i64 0), (.bool false)]) hQ rfl ⟨rv_tmp rfl, rv_tmp rfl, trivial⟩ ⟨rfl, hB7⟩
  · replace hF := ifN h10 hF
    refine W.skip ?_
    refine fun a ha => hK2 _ _ ?_ a ha
    refine W.seq fun K12 hK12 => ?_
    refine W.region ?_
    refine wl_move rfl rfl ?_
    refine wl_move rfl rfl ?_
    obtain ⟨u13, hu13, hF⟩ := bindE hF
    refine wl_call rfl Try.call124 (C_spec_muTime w5 x0 v0_0 (h0_0.ro hB7) x1 _ hu13) rfl ?_
    rintro _ w14 ⟨rfl, hb15⟩
    refine ⟨_, rfl, ?_⟩
    have hB16 := hB7.trans (hb15.mono hB7.size)
    have hS17 := hS8.below hb15
    refine wl_assign rfl rfl ?_
    refine wl_assign rfl rfl ?_
    refine WL.nil ?_
    refine fun a ha => hK12 _ _ ?_ a ha
    refine W.ret ?_
    have hr := Option.some.inj hF
    subst hr
    exact rets (vs := [(.int .i64 u13), (.bool true)]) hQ rfl ⟨rv_tmp rfl, rv_tmp rfl, trivial⟩ ⟨rfl, hB16⟩
theorem C_laws_FnCues (w0 : World) (x0 : (List Int)) (v0_0 : Value) (h0_0 : rdS ty_5 (· < w0.heap.size) w0 v0_0 x0) (x1 : (List Int)) (v1_0 : Value) (h1_0 : rdS ty_5 (· < w0.heap.size) w0 v1_0 x1) (r : Bool) (hF : F_laws_FnCues x0 x1 = some r) :
    Calls Try.prog 3 [v0_0, v1_0].toArray w0 fun e w' => e = .returned (.bool r) ∧ Below w0.heap.size w0 w' := by
  refine calls_mk' Try.func3 rfl Try.ntmps3 rfl rfl fun Q hQ hP => ?_
  have hB : Below w0.heap.size w0 w0 := Below.refl _ _
  have hS : Sep w0.heap.size w0 [] := Sep.nil _ _
  unfold F_laws_FnCues at hF
  refine W.seq fun K1 hK1 => ?_
  refine W.region ?_
  refine wl_assign rfl rfl ?_
  refine WL.nil ?_
  refine fun a ha => hK1 _ _ ?_ a ha
  refine W.seq fun K2 hK2 => ?_
  refine W.seq fun K3 hK3 => ?_
  refine W.region ?_
  refine wl_move rfl rfl ?_
  refine wl_lenr (e := ty_5) (l := x0) Try.underlying22 rfl rfl h0_0 ?_
  refine wl_move rfl rfl ?_
  refine wl_lenr (e := ty_5) (l := x1) Try.underlying22 rfl rfl h1_0 ?_
  refine wl_add rfl rfl rfl ?_
  refine wl_gtr rfl rfl rfl ?_
  refine WL.nil ?_
  refine fun a ha => hK3 _ _ ?_ a ha
  refine W.cond rfl (fun h4 => ?_) (fun h4 => ?_)
  · replace hF := ifP h4 hF
    refine W.seq fun K5 hK5 => ?_
    refine W.region ?_
    refine wl_assign rfl rfl ?_
    refine WL.nil ?_
    refine fun a ha => hK5 _ _ ?_ a ha
    refine W.ret ?_
    have hr := Option.some.inj hF
    subst hr
    exact rets (vs := [(.bool true)]) hQ rfl ⟨rv_tmp rfl, trivial⟩ ⟨rfl, hB⟩
  · replace hF := ifN h4 hF
    refine W.skip ?_
    refine fun a ha => hK2 _ _ ?_ a ha
    refine W.seq fun K6 hK6 => ?_
    refine W.region ?_
    refine wl_move rfl rfl ?_
    obtain ⟨u7, hu7, hF⟩ := bindE hF
    refine wl_call rfl Try.call9 (C_spec_DrawLongestGap w0 x0 v0_0 (h0_0.ro hB) _ hu7) rfl ?_
    rintro _ w12 ⟨v8, F9, v10, F11, rfl, hb13, hM16⟩
    refine ⟨_, rfl, ?_⟩
    have hB14 := hB.trans (hb13.mono hB.size)
    have hS15 := hS.join hb13 hM16 hB.size
    refine wl_move rfl rfl ?_
    refine wl_extract rfl rfl rfl ?_
    refine wl_extract rfl rfl rfl ?_
    refine wl_assign rfl rfl ?_
    refine wl_assign rfl rfl ?_
    refine WL.nil ?_
    refine fun a ha => hK6 _ _ ?_ a ha
    refine W.seq fun K17 hK17 => ?_
    refine W.region ?_
    refine wl_move rfl rfl ?_
    refine wl_move rfl rfl ?_
    obtain ⟨u18, hu18, hF⟩ := bindE hF
    refine wl_call rfl Try.call10 (C_impl_LongestGap w12 u7.1 v8 (hS15.own_ro (i := 0) rfl) u7.2 v10 (hS15.own_ro (i := 1) rfl) _ hu18) rfl ?_
    rintro _ w19 ⟨rfl, hb20⟩
    refine ⟨_, rfl, ?_⟩
    have hB21 := hB14.trans (hb20.mono hB14.size)
    have hS22 := hS15.below hb20
    refine wl_move rfl rfl ?_
    refine wl_extract rfl rfl rfl ?_
    refine wl_extract rfl rfl rfl ?_
    refine wl_extract rfl rfl rfl ?_
    refine wl_assign rfl rfl ?_
    refine wl_assign rfl rfl ?_
    refine wl_assign rfl rfl ?_
    refine WL.nil ?_
    refine fun a ha => hK17 _ _ ?_ a ha
    refine W.seq fun K24 hK24 => ?_
    refine W.region ?_
    refine wl_move rfl rfl ?_
    refine wl_move rfl rfl ?_
    obtain ⟨u25, hu25, hF⟩ := bindE hF
    refine wl_call rfl Try.call11 (C_spec_LongestGap w19 u7.1 v8 (hS22.own_ro (i := 0) rfl) u7.2 v10 (hS22.own_ro (i := 1) rfl) _ hu25) rfl ?_
    rintro _ w26 ⟨rfl, hb27⟩
    refine ⟨_, rfl, ?_⟩
    have hB28 := hB21.trans (hb27.mono hB21.size)
    have hS29 := hS22.below hb27
    refine wl_move rfl rfl ?_
    refine wl_extract rfl rfl rfl ?_
    refine wl_extract rfl rfl rfl ?_
    refine wl_extract rfl rfl rfl ?_
    refine wl_assign rfl rfl ?_
    refine wl_assign rfl rfl ?_
    refine wl_assign rfl rfl ?_
    refine WL.nil ?_
    refine fun a ha => hK24 _ _ ?_ a ha
    refine W.seq fun K31 hK31 => ?_
    refine W.region ?_
    refine wl_move rfl rfl ?_
    refine wl_move rfl rfl ?_
    obtain ⟨u32, hu32, hF⟩ := bindE hF
    refine wl_call rfl Try.call12 (C_impl_CueTimes w26 u7.1 v8 (hS29.own_ro (i := 0) rfl) u7.2 v10 (hS29.own_ro (i := 1) rfl) _ hu32) rfl ?_
    rintro _ w35 ⟨v33, F34, rfl, hb36, hM39⟩
    refine ⟨_, rfl, ?_⟩
    have hB37 := hB28.trans (hb36.mono hB28.size)
    have hS38 := hS29.join hb36 hM39 hB28.size
    refine wl_move rfl rfl ?_
    refine wl_extract rfl rfl rfl ?_
    refine wl_extract rfl rfl rfl ?_
    refine wl_assign rfl rfl ?_
    refine wl_assign rfl rfl ?_
    refine WL.nil ?_
    refine fun a ha => hK31 _ _ ?_ a ha
    refine W.seq fun K40 hK40 => ?_
    refine W.region ?_
    refine wl_move rfl rfl ?_
    refine wl_move rfl rfl ?_
    obtain ⟨u41, hu41, hF⟩ := bindE hF
    refine wl_call rfl Try.call13 (C_spec_CueTimes w35 u7.1 v8 (hS38.own_ro (i := 1) rfl) u7.2 v10 (hS38.own_ro (i := 2) rfl) _ hu41) rfl ?_
    rintro _ w44 ⟨v42, F43, rfl, hb45, hM48⟩
    refine ⟨_, rfl, ?_⟩
    have hB46 := hB37.trans (hb45.mono hB37.size)
    have hS47 := hS38.join hb45 hM48 hB37.size
    refine wl_move rfl rfl ?_
    refine wl_extract rfl rfl rfl ?_
    refine wl_extract rfl rfl rfl ?_
    refine wl_assign rfl rfl ?_
    refine wl_assign rfl rfl ?_
    refine WL.nil ?_
    refine fun a ha => hK40 _ _ ?_ a ha
    refine W.seq fun K49 hK49 => ?_
    refine W.region ?_
    refine wl_move rfl rfl ?_
    obtain ⟨u50, hu50, hF⟩ := bindE hF
    refine wl_call rfl Try.call14 (C_spec_DrawNextCue w44 x1 v1_0 (h1_0.ro hB46) _ hu50) rfl ?_
    rintro _ w55 ⟨v51, F52, v53, F54, rfl, hb56, hM59⟩
    refine ⟨_, rfl, ?_⟩
    have hB57 := hB46.trans (hb56.mono hB46.size)
    have hS58 := hS47.join hb56 hM59 hB46.size
    refine wl_move rfl rfl ?_
    refine wl_extract rfl rfl rfl ?_
    refine wl_extract rfl rfl rfl ?_
    refine wl_extract rfl rfl rfl ?_
    refine wl_assign rfl rfl ?_
    refine wl_assign rfl rfl ?_
    refine wl_assign rfl rfl ?_
    refine WL.nil ?_
    refine fun a ha => hK49 _ _ ?_ a ha
    refine W.seq fun K60 hK60 => ?_
    refine W.region ?_
    refine wl_move rfl rfl ?_
    refine wl_move rfl rfl ?_
    refine wl_move rfl rfl ?_
    obtain ⟨u61, hu61, hF⟩ := bindE hF
    refine wl_call rfl Try.call15 (C_impl_NextCue w55 u50.1 v51 (hS58.own_ro (i := 0) rfl) u50.2.1 v53 (hS58.own_ro (i := 1) rfl) u50.2.2 _ hu61) rfl ?_
    rintro _ w62 ⟨rfl, hb63⟩
    refine ⟨_, rfl, ?_⟩
    have hB64 := hB57.trans (hb63.mono hB57.size)
    have hS65 := hS58.below hb63
    refine wl_move rfl rfl ?_
    refine wl_extract rfl rfl rfl ?_
    refine wl_extract rfl rfl rfl ?_
    refine wl_assign rfl rfl ?_
    refine wl_assign rfl rfl ?_
    refine WL.nil ?_
    refine fun a ha => hK60 _ _ ?_ a ha
    refine W.seq fun K67 hK67 => ?_
    refine W.region ?_
    refine wl_move rfl rfl ?_
    refine wl_move rfl rfl ?_
    refine wl_move rfl rfl ?_
    obtain ⟨u68, hu68, hF⟩ := bindE hF
    refine wl_call rfl Try.call16 (C_spec_NextCue w62 u50.1 v51 (hS65.own_ro (i := 0) rfl) u50.2.1 v53 (hS65.own_ro (i := 1) rfl) u50.2.2 _ hu68) rfl ?_
    rintro _ w69 ⟨rfl, hb70⟩
    refine ⟨_, rfl, ?_⟩
    have hB71 := hB64.trans (hb70.mono hB64.size)
    have hS72 := hS65.below hb70
    refine wl_move rfl rfl ?_
    refine wl_extract rfl rfl rfl ?_
    refine wl_extract rfl rfl rfl ?_
    refine wl_assign rfl rfl ?_
    refine wl_assign rfl rfl ?_
    refine WL.nil ?_
    refine fun a ha => hK67 _ _ ?_ a ha
    refine W.seq fun K74 hK74 => ?_
    refine W.region ?_
    refine wl_move rfl rfl ?_
    obtain ⟨u75, hu75, hF⟩ := bindE hF
    refine wl_call rfl Try.call17 (C_spec_DrawLastCueAt w69 x1 v1_0 (h1_0.ro hB71) _ hu75) rfl ?_
    rintro _ w80 ⟨v76, F77, v78, F79, rfl, hb81, hM84⟩
    refine ⟨_, rfl, ?_⟩
    have hB82 := hB71.trans (hb81.mono hB71.size)
    have hS83 := hS72.join hb81 hM84 hB71.size
    refine wl_move rfl rfl ?_
    refine wl_extract rfl rfl rfl ?_
    refine wl_extract rfl rfl rfl ?_
    refine wl_extract rfl rfl rfl ?_
    refine wl_assign rfl rfl ?_
    refine wl_assign rfl rfl ?_
    refine wl_assign rfl rfl ?_
    refine WL.nil ?_
    refine fun a ha => hK74 _ _ ?_ a ha
    refine W.seq fun K85 hK85 => ?_
    refine W.region ?_
    refine wl_move rfl rfl ?_
    refine wl_move rfl rfl ?_
    refine wl_move rfl rfl ?_
    obtain ⟨u86, hu86, hF⟩ := bindE hF
    refine wl_call rfl Try.call18 (C_impl_LastCueAt w80 u75.1 v76 (hS83.own_ro (i := 0) rfl) u75.2.1 v78 (hS83.own_ro (i := 1) rfl) u75.2.2 _ hu86) rfl ?_
    rintro _ w87 ⟨rfl, hb88⟩
    refine ⟨_, rfl, ?_⟩
    have hB89 := hB82.trans (hb88.mono hB82.size)
    have hS90 := hS83.below hb88
    refine wl_move rfl rfl ?_
    refine wl_extract rfl rfl rfl ?_
    refine wl_extract rfl rfl rfl ?_
    refine wl_assign rfl rfl ?_
    refine wl_assign rfl rfl ?_
    refine WL.nil ?_
    refine fun a ha => hK85 _ _ ?_ a ha
    refine W.seq fun K92 hK92 => ?_
    refine W.region ?_
    refine wl_move rfl rfl ?_
    refine wl_move rfl rfl ?_
    refine wl_move rfl rfl ?_
    obtain ⟨u93, hu93, hF⟩ := bindE hF
    refine wl_call rfl Try.call19 (C_spec_LastCueAt w87 u75.1 v76 (hS90.own_ro (i := 0) rfl) u75.2.1 v78 (hS90.own_ro (i := 1) rfl) u75.2.2 _ hu93) rfl ?_
    rintro _ w94 ⟨rfl, hb95⟩
    refine ⟨_, rfl, ?_⟩
    have hB96 := hB89.trans (hb95.mono hB89.size)
    have hS97 := hS90.below hb95
    refine wl_move rfl rfl ?_
    refine wl_extract rfl rfl rfl ?_
    refine wl_extract rfl rfl rfl ?_
    refine wl_assign rfl rfl ?_
    refine wl_assign rfl rfl ?_
    refine WL.nil ?_
    refine fun a ha => hK92 _ _ ?_ a ha
    refine W.seq fun K99 hK99 => ?_
    refine W.region ?_
    refine wl_move rfl rfl ?_
    obtain ⟨u100, hu100, hF⟩ := bindE hF
    refine wl_call rfl Try.call20 (C_spec_DrawCuesBetween w94 x1 v1_0 (h1_0.ro hB96) _ hu100) rfl ?_
    rintro _ w105 ⟨v101, F102, v103, F104, rfl, hb106, hM109⟩
    refine ⟨_, rfl, ?_⟩
    have hB107 := hB96.trans (hb106.mono hB96.size)
    have hS108 := hS97.join hb106 hM109 hB96.size
    refine wl_move rfl rfl ?_
    refine wl_extract rfl rfl rfl ?_
    refine wl_extract rfl rfl rfl ?_
    refine wl_extract rfl rfl rfl ?_
    refine wl_extract rfl rfl rfl ?_
    refine wl_assign rfl rfl ?_
    refine wl_assign rfl rfl ?_
    refine wl_assign rfl rfl ?_
    refine wl_assign rfl rfl ?_
    refine WL.nil ?_
    refine fun a ha => hK99 _ _ ?_ a ha
    refine W.seq fun K110 hK110 => ?_
    refine W.region ?_
    refine wl_move rfl rfl ?_
    refine wl_move rfl rfl ?_
    refine wl_move rfl rfl ?_
    refine wl_move rfl rfl ?_
    obtain ⟨u111, hu111, hF⟩ := bindE hF
    refine wl_call rfl Try.call21 (C_impl_CuesBetween w105 u100.1 v101 (hS108.own_ro (i := 0) rfl) u100.2.1 v103 (hS108.own_ro (i := 1) rfl) u100.2.2.1 u100.2.2.2 _ hu111) rfl ?_
    rintro _ w114 ⟨v112, F113, rfl, hb115, hM118⟩
    refine ⟨_, rfl, ?_⟩
    have hB116 := hB107.trans (hb115.mono hB107.size)
    have hS117 := hS108.join hb115 hM118 hB107.size
    refine wl_move rfl rfl ?_
    refine wl_extract rfl rfl rfl ?_
    refine wl_extract rfl rfl rfl ?_
    refine wl_assign rfl rfl ?_
    refine wl_assign rfl rfl ?_
    refine WL.nil ?_
    refine fun a ha => hK110 _ _ ?_ a ha
    refine W.seq fun K119 hK119 => ?_
    refine W.region ?_
    refine wl_move rfl rfl ?_
    refine wl_move rfl rfl ?_
    refine wl_move rfl rfl ?_
    refine wl_move rfl rfl ?_
    obtain ⟨u120, hu120, hF⟩ := bindE hF
    refine wl_call rfl Try.call22 (C_spec_CuesBetween w114 u100.1 v101 (hS117.own_ro (i := 1) rfl) u100.2.1 v103 (hS117.own_ro (i := 2) rfl) u100.2.2.1 u100.2.2.2 _ hu120) rfl ?_
    rintro _ w123 ⟨v121, F122, rfl, hb124, hM127⟩
    refine ⟨_, rfl, ?_⟩
    have hB125 := hB116.trans (hb124.mono hB116.size)
    have hS126 := hS117.join hb124 hM127 hB116.size
    refine wl_move rfl rfl ?_
    refine wl_extract rfl rfl rfl ?_
    refine wl_extract rfl rfl rfl ?_
    refine wl_assign rfl rfl ?_
    refine wl_assign rfl rfl ?_
    refine WL.nil ?_
    refine fun a ha => hK119 _ _ ?_ a ha
    refine W.seq fun K128 hK128 => ?_
    refine W.region ?_
    refine wl_move rfl rfl ?_
    obtain ⟨u129, hu129, hF⟩ := bindE hF
    refine wl_call rfl Try.call23 (C_spec_DrawShiftCues w123 x1 v1_0 (h1_0.ro hB125) _ hu129) rfl ?_
    rintro _ w134 ⟨v130, F131, v132, F133, rfl, hb135, hM138⟩
    refine ⟨_, rfl, ?_⟩
    have hB136 := hB125.trans (hb135.mono hB125.size)
    have hS137 := hS126.join hb135 hM138 hB125.size
    refine wl_move rfl rfl ?_
    refine wl_extract rfl rfl rfl ?_
    refine wl_extract rfl rfl rfl ?_
    refine wl_extract rfl rfl rfl ?_
    refine wl_assign rfl rfl ?_
    refine wl_assign rfl rfl ?_
    refine wl_assign rfl rfl ?_
    refine WL.nil ?_
    refine fun a ha => hK128 _ _ ?_ a ha
    refine W.seq fun K139 hK139 => ?_
    refine W.region ?_
    refine wl_move rfl rfl ?_
    refine wl_move rfl rfl ?_
    refine wl_move rfl rfl ?_
    obtain ⟨u140, hu140, hF⟩ := bindE hF
    refine wl_call rfl Try.call24 (C_impl_ShiftCues w134 u129.1 v130 (hS137.own_ro (i := 0) rfl) u129.2.1 v132 (hS137.own_ro (i := 1) rfl) u129.2.2 _ hu140) rfl ?_
    rintro _ w143 ⟨v141, F142, rfl, hb144, hM147⟩
    refine ⟨_, rfl, ?_⟩
    have hB145 := hB136.trans (hb144.mono hB136.size)
    have hS146 := hS137.join hb144 hM147 hB136.size
    refine wl_move rfl rfl ?_
    refine wl_extract rfl rfl rfl ?_
    refine wl_extract rfl rfl rfl ?_
    refine wl_assign rfl rfl ?_
    refine wl_assign rfl rfl ?_
    refine WL.nil ?_
    refine fun a ha => hK139 _ _ ?_ a ha
    refine W.seq fun K148 hK148 => ?_
    refine W.region ?_
    refine wl_move rfl rfl ?_
    refine wl_move rfl rfl ?_
    refine wl_move rfl rfl ?_
    obtain ⟨u149, hu149, hF⟩ := bindE hF
    refine wl_call rfl Try.call25 (C_spec_ShiftCues w143 u129.1 v130 (hS146.own_ro (i := 1) rfl) u129.2.1 v132 (hS146.own_ro (i := 2) rfl) u129.2.2 _ hu149) rfl ?_
    rintro _ w152 ⟨v150, F151, rfl, hb153, hM156⟩
    refine ⟨_, rfl, ?_⟩
    have hB154 := hB145.trans (hb153.mono hB145.size)
    have hS155 := hS146.join hb153 hM156 hB145.size
    refine wl_move rfl rfl ?_
    refine wl_extract rfl rfl rfl ?_
    refine wl_extract rfl rfl rfl ?_
    refine wl_assign rfl rfl ?_
    refine wl_assign rfl rfl ?_
    refine WL.nil ?_
    refine fun a ha => hK148 _ _ ?_ a ha
    refine W.seq fun K157 hK157 => ?_
    refine W.seq fun K158 hK158 => ?_
    obtain ⟨k163, hk163, hF⟩ := jE1 hF
    have hJ164 : ∀ (y162 : Bool) (w159 : World) (_ : k163 y162 = some r) (_ : Below w0.heap.size w0 w159) (_ : Sep w0.heap.size w159 [R.own ty_183 F9 v8 u7.1, R.own ty_44 F11 v10 u7.2, R.own ty_3 F43 v42 u41.1, R.own ty_44 F54 v53 u50.2.1, R.own ty_183 F77 v76 u75.1, R.own ty_44 F79 v78 u75.2.1, R.own ty_183 F102 v101 u100.1, R.own ty_44 F104 v103 u100.2.1, R.own ty_3 F122 v121 u120.1, R.own ty_183 F131 v130 u129.1, R.own ty_44 F133 v132 u129.2.1, R.own ty_44 F142 v141 u140.1]), ∀ a, St 491 [(5, v8), (6, v10), (9, (.bool u18.2.2)), (10, (.int .i64 u25.1)), (11, (.int .i64 u25.2.1)), (15, v42), (18, v53), (19, (.int .i64 u50.2.2)), (21, (.bool u61.2)), (22, (.int .i64 u68.1)), (24, v76), (25, v78), (26, (.int .i64 u75.2.2)), (28, (.bool u86.2)), (29, (.int .i64 u93.1)), (31, v101), (32, v103), (33, (.int .i64 u100.2.2.1)), (34, (.int .i64 u100.2.2.2)), (36, (.bool u111.2)), (37, v121), (39, v130), (40, v132), (41, (.int .i64 u129.2.2)), (42, v141), (43, (.bool u140.2)), (264, (.bool y162))] a → K158 a w159 := by
      intro y162 w159 hF hB160 hS161
      subst hk163
      refine fun a ha => hK158 _ _ ?_ a ha
      refine W.cond rfl (fun h165 => ?_) (fun h165 => ?_)
      · replace hF := ifP h165 hF
        refine W.seq fun K166 hK166 => ?_
        refine W.region ?_
        refine wl_assign rfl rfl ?_
        refine WL.nil ?_
        refine fun a ha => hK166 _ _ ?_ a ha
        refine W.ret ?_
        have hr := Option.some.inj hF
        subst hr
        exact rets (vs := [(.bool false)]) hQ rfl ⟨rv_tmp rfl, trivial⟩ ⟨rfl, hB160⟩
      · replace hF := ifN h165 hF
        refine W.skip ?_
        refine fun a ha => hK157 _ _ ?_ a ha
        refine W.seq fun K167 hK167 => ?_
        refine W.seq fun K168 hK168 => ?_
        obtain ⟨k173, hk173, hF⟩ := jE1 hF
        have hJ174 : ∀ (y172 : Bool) (w169 : World) (_ : k173 y172 = some r) (_ : Below w0.heap.size w0 w169) (_ : Sep w0.heap.size w169 [R.own ty_183 F9 v8 u7.1, R.own ty_44 F11 v10 u7.2, R.own ty_3 F43 v42 u41.1, R.own ty_183 F77 v76 u75.1, R.own ty_44 F79 v78 u75.2.1, R.own ty_183 F102 v101 u100.1, R.own ty_44 F104 v103 u100.2.1, R.own ty_3 F122 v121 u120.1, R.own ty_183 F131 v130 u129.1, R.own ty_44 F133 v132 u129.2.1, R.own ty_44 F142 v141 u140.1]), ∀ a, St 491 [(5, v8), (6, v10), (9, (.bool u18.2.2)), (10, (.int .i64 u25.1)), (11, (.int .i64 u25.2.1)), (15, v42), (24, v76), (25, v78), (26, (.int .i64 u75.2.2)), (28, (.bool u86.2)), (29, (.int .i64 u93.1)), (31, v101), (32, v103), (33, (.int .i64 u100.2.2.1)), (34, (.int .i64 u100.2.2.2)), (36, (.bool u111.2)), (37, v121), (39, v130), (40, v132), (41, (.int .i64 u129.2.2)), (42, v141), (43, (.bool u140.2)), (288, (.bool y172))] a → K168 a w169 := by
          intro y172 w169 hF hB170 hS171
          subst hk173
          refine fun a ha => hK168 _ _ ?_ a ha
          refine W.cond rfl (fun h175 => ?_) (fun h175 => ?_)
          · replace hF := ifP h175 hF
            refine W.seq fun K176 hK176 => ?_
            refine W.region ?_
            refine wl_assign rfl rfl ?_
            refine WL.nil ?_
            refine fun a ha => hK176 _ _ ?_ a ha
            refine W.ret ?_
            have hr := Option.some.inj hF
            subst hr
            exact rets (vs := [(.bool false)]) hQ rfl ⟨rv_tmp rfl, trivial⟩ ⟨rfl, hB170⟩
          · replace hF := ifN h175 hF
            refine W.skip ?_
            refine fun a ha => hK167 _ _ ?_ a ha
            refine W.seq fun K177 hK177 => ?_
            obtain ⟨k181, hk181, hF⟩ := jE0 hF
            have hJ182 : ∀ (w178 : World) (_ : k181 = some r) (_ : Below w0.heap.size w0 w178) (_ : Sep w0.heap.size w178 [R.own ty_183 F9 v8 u7.1, R.own ty_44 F11 v10 u7.2, R.own ty_3 F43 v42 u41.1, R.own ty_183 F102 v101 u100.1, R.own ty_44 F104 v103 u100.2.1, R.own ty_3 F122 v121 u120.1, R.own ty_183 F131 v130 u129.1, R.own ty_44 F133 v132 u129.2.1, R.own ty_44 F142 v141 u140.1]), ∀ a, St 491 [(5, v8), (6, v10), (9, (.bool u18.2.2)), (10, (.int .i64 u25.1)), (11, (.int .i64 u25.2.1)), (15, v42), (31, v101), (32, v103), (33, (.int .i64 u100.2.2.1)), (34, (.int .i64 u100.2.2.2)), (36, (.bool u111.2)), (37, v121), (39, v130), (40, v132), (41, (.int .i64 u129.2.2)), (42, v141), (43, (.bool u140.2))] a → K177 a w178 := by
              intro w178 hF hB179 hS180
              subst hk181
              refine fun a ha => hK177 _ _ ?_ a ha
              refine W.seq fun K183 hK183 => ?_
              obtain ⟨k187, hk187, hF⟩ := jE0 hF
              have hJ188 : ∀ (w184 : World) (_ : k187 = some r) (_ : Below w0.heap.size w0 w184) (_ : Sep w0.heap.size w184 [R.own ty_183 F9 v8 u7.1, R.own ty_44 F11 v10 u7.2, R.own ty_3 F43 v42 u41.1, R.own ty_183 F131 v130 u129.1, R.own ty_44 F133 v132 u129.2.1, R.own ty_44 F142 v141 u140.1]), ∀ a, St 491 [(5, v8), (6, v10), (9, (.bool u18.2.2)), (10, (.int .i64 u25.1)), (11, (.int .i64 u25.2.1)), (15, v42), (39, v130), (40, v132), (41, (.int .i64 u129.2.2)), (42, v141), (43, (.bool u140.2))] a → K183 a w184 := by
                intro w184 hF hB185 hS186
                subst hk187
                refine fun a ha => hK183 _ _ ?_ a ha
                refine W.seq fun K189 hK189 => ?_
                obtain ⟨k193, hk193, hF⟩ := jE0 hF
                have hJ194 : ∀ (w190 : World) (_ : k193 = some r) (_ : Below w0.heap.size w0 w190) (_ : Sep w0.heap.size w190 [R.own ty_183 F9 v8 u7.1, R.own ty_44 F11 v10 u7.2, R.own ty_3 F43 v42 u41.1]), ∀ a, St 491 [(5, v8), (6, v10), (9, (.bool u18.2.2)), (10, (.int .i64 u25.1)), (11, (.int .i64 u25.2.1)), (15, v42)] a → K189 a w190 := by
                  intro w190 hF hB191 hS192
                  subst hk193
                  refine fun a ha => hK189 _ _ ?_ a ha
                  refine W.seq fun K195 hK195 => ?_
                  refine W.seq fun K196 hK196 => ?_
                  refine W.region ?_
                  refine wl_move rfl rfl ?_
                  refine wl_not rfl rfl ?_
                  refine WL.nil ?_
                  refine fun a ha => hK196 _ _ ?_ a ha
                  refine W.cond rfl (fun h197 => ?_) (fun h197 => ?_)
                  · replace hF := ifP h197 hF
                    refine W.seq fun K198 hK198 => ?_
                    refine W.region ?_
                    refine wl_assign rfl rfl ?_
                    refine WL.nil ?_
                    refine fun a ha => hK198 _ _ ?_ a ha
                    refine W.ret ?_
                    have hr := Option.some.inj hF
                    subst hr
                    exact rets (vs := [(.bool true)]) hQ rfl ⟨rv_tmp rfl, trivial⟩ ⟨rfl, hB191⟩
                  · replace hF := ifN h197 hF
                    refine W.skip ?_
                    refine fun a ha => hK195 _ _ ?_ a ha
                    refine W.seq fun K199 hK199 => ?_
                    refine W.region ?_
                    refine wl_move rfl rfl ?_
                    obtain ⟨u200, hu200, hF⟩ := bindE hF
                    refine wl_call rfl Try.call30 (C_impl_CountsOf w190 u7.1 v8 (hS192.own_ro (i := 0) rfl) _ hu200) rfl ?_
                    rintro _ w201 ⟨rfl, hb202⟩
                    refine ⟨_, rfl, ?_⟩
                    have hB203 := hB191.trans (hb202.mono hB191.size)
                    have hS204 := hS192.below hb202
                    refine wl_move rfl rfl ?_
                    refine wl_extract rfl rfl rfl ?_
                    refine wl_extract rfl rfl rfl ?_
                    refine wl_assign rfl rfl ?_
                    refine wl_assign rfl rfl ?_
                    refine WL.nil ?_
                    refine fun a ha => hK199 _ _ ?_ a ha
                    refine W.seq fun K206 hK206 => ?_
                    refine W.region ?_
                    refine wl_move rfl rfl ?_
                    obtain ⟨u207, hu207, hF⟩ := bindE hF
                    refine wl_call rfl Try.call31 (C_spec_CountsOf w201 u7.1 v8 (hS204.own_ro (i := 0) rfl) _ hu207) rfl ?_
                    rintro _ w208 ⟨rfl, hb209⟩
                    refine ⟨_, rfl, ?_⟩
                    have hB210 := hB203.trans (hb209.mono hB203.size)
                    have hS211 := hS204.below hb209
                    refine wl_move rfl rfl ?_
                    refine wl_extract rfl rfl rfl ?_
                    refine wl_extract rfl rfl rfl ?_
                    refine wl_assign rfl rfl ?_
                    refine wl_assign rfl rfl ?_
                    refine WL.nil ?_
                    refine fun a ha => hK206 _ _ ?_ a ha
                    refine W.seq fun K213 hK213 => ?_
                    refine W.region ?_
                    refine wl_move rfl rfl ?_
                    refine wl_move rfl rfl ?_
                    obtain ⟨u214, hu214, hF⟩ := bindE hF
                    refine wl_call rfl Try.call32 (C_impl_TimeOf w208 u7.1 v8 (hS211.own_ro (i := 0) rfl) u207.1 _ hu214) rfl ?_
                    rintro _ w215 ⟨rfl, hb216⟩
                    refine ⟨_, rfl, ?_⟩
                    have hB217 := hB210.trans (hb216.mono hB210.size)
                    have hS218 := hS211.below hb216
                    refine wl_move rfl rfl ?_
                    refine wl_extract rfl rfl rfl ?_
                    refine wl_extract rfl rfl rfl ?_
                    refine wl_assign rfl rfl ?_
                    refine wl_assign rfl rfl ?_
                    refine WL.nil ?_
                    refine fun a ha => hK213 _ _ ?_ a ha
                    refine W.seq fun K220 hK220 => ?_
                    refine W.region ?_
                    refine wl_move rfl rfl ?_
                    refine wl_move rfl rfl ?_
                    obtain ⟨u221, hu221, hF⟩ := bindE hF
                    refine wl_call rfl Try.call33 (C_spec_TimeOf w215 u7.1 v8 (hS218.own_ro (i := 0) rfl) u207.1 _ hu221) rfl ?_
                    rintro _ w222 ⟨rfl, hb223⟩
                    refine ⟨_, rfl, ?_⟩
                    have hB224 := hB217.trans (hb223.mono hB217.size)
                    have hS225 := hS218.below hb223
                    refine wl_move rfl rfl ?_
                    refine wl_extract rfl rfl rfl ?_
                    refine wl_extract rfl rfl rfl ?_
                    refine wl_assign rfl rfl ?_
                    refine wl_assign rfl rfl ?_
                    refine WL.nil ?_
                    refine fun a ha => hK220 _ _ ?_ a ha
                    refine W.seq fun K227 hK227 => ?_
                    refine W.seq fun K228 hK228 => ?_
                    obtain ⟨k233, hk233, hF⟩ := jE1 hF
                    have hJ234 : ∀ (y232 : Bool) (w229 : World) (_ : k233 y232 = some r) (_ : Below w0.heap.size w0 w229) (_ : Sep w0.heap.size w229 [R.own ty_44 F11 v10 u7.2, R.own ty_3 F43 v42 u41.1]), ∀ a, St 491 [(6, v10), (10, (.int .i64 u25.1)), (11, (.int .i64 u25.2.1)), (15, v42), (64, (.int .i64 u221.1)), (445, (.bool y232))] a → K228 a w229 := by
                      intro y232 w229 hF hB230 hS231
                      subst hk233
                      refine fun a ha => hK228 _ _ ?_ a ha
                      refine W.cond rfl (fun h235 => ?_) (fun h235 => ?_)
                      · replace hF := ifP h235 hF
                        refine W.seq fun K236 hK236 => ?_
                        refine W.region ?_
                        refine wl_assign rfl rfl ?_
                        refine WL.nil ?_
                        refine fun a ha => hK236 _ _ ?_ a ha
                        refine W.ret ?_
                        have hr := Option.some.inj hF
                        subst hr
                        exact rets (vs := [(.bool false)]) hQ rfl ⟨rv_tmp rfl, trivial⟩ ⟨rfl, hB230⟩
                      · replace hF := ifN h235 hF
                        refine W.skip ?_
                        refine fun a ha => hK227 _ _ ?_ a ha
                        refine W.seq fun K237 hK237 => ?_
                        refine W.region ?_
                        refine wl_lit (vs := []) (l := []) fl_3 Try.underlying29 rfl rfl rfl rfl rfl rfl hB230 hS231 ?_
                        intro v238 F239 w240 hb241 hB242 hS243
                        refine wl_move rfl rfl ?_
                        obtain ⟨u244, hu244, hF⟩ := bindE hF
                        refine wl_append (i := 0) (S := (· < w240.heap.size)) fl_3 Try.underlying29 rfl rfl rfl hB242 hS243 rfl (hS243.own_ro (i := 2) rfl) hu244 ?_
                        intro v245 F246 w247 hk248 hB249 hS250
                        refine wl_move rfl rfl ?_
                        refine wl_lit (vs := [(.int .i64 u221.1)]) (l := [u221.1]) fl_3 Try.underlying29 rfl rfl rfl rfl rfl rfl hB249 hS250 ?_
                        intro v251 F252 w253 hb254 hB255 hS256
                        obtain ⟨u257, hu257, hF⟩ := bindE hF
                        refine wl_append (i := 1) (S := (· < w253.heap.size)) fl_3 Try.underlying29 rfl rfl rfl hB255 hS256 rfl (hS256.own_ro (i := 0) rfl) hu257 ?_
                        intro v258 F259 w260 hk261 hB262 hS263
                        refine wl_assign rfl rfl ?_
                        refine WL.nil ?_
                        refine fun a ha => hK237 _ _ ?_ a ha
                        refine W.seq fun K264 hK264 => ?_
                        refine W.seq fun K265 hK265 => ?_
                        refine W.region ?_
                        refine wl_move rfl rfl ?_
                        refine wl_lenr (e := ty_44) (l := u7.2) Try.underlying24 rfl rfl (hS263.own_ro (i := 2) rfl) ?_
                        refine wl_move rfl rfl ?_
                        refine WL.nil ?_
                        refine fun a ha => hK265 _ _ ?_ a ha
                        refine W.block ?_
                        refine W.loopk (fun m a w266 => ∃ (y269 : Int), St 491 [(10, (.int .i64 u25.1)), (11, (.int .i64 u25.2.1)), (66, v258), (453, (.int .i64 (List.length u7.2 : Int))), (454, (.int .i64 y269))] a ∧ Below w0.heap.size w0 w266 ∧ Sep w0.heap.size w266 [R.own ty_3 F259 v258 u257] ∧ F_laws_FnCues_L2 u7 u257 u25 m y269 = some r) FU ?_ ?_
                        ·
                          exact fun a ha => ⟨0, ha.sub ⟨rfl, rfl, rfl, rfl, rfl, trivial⟩, hB262, (hS263.sel [1] rfl), hF⟩
                        ·
                          rintro m272 a w266 ⟨y269, ha, hB267, hS268, hF⟩ KL271 hKL271
                          refine W.at ?_ ha
                          cases m272 with
                          | zero => exact noneE hF
                          | succ m272 =>
                            obtain ⟨nx270, hnx270⟩ : ∃ k, k = F_laws_FnCues_L2 u7 u257 u25 m272 := ⟨_, rfl⟩
                            rw [F_laws_FnCues_L2, ← hnx270] at hF
                            refine W.seq fun K273 hK273 => ?_
                            refine W.region ?_
                            refine wl_lss rfl rfl rfl ?_
                            refine WL.nil ?_
                            refine fun a ha => hK273 _ _ ?_ a ha
                            refine W.seq fun K274 hK274 => ?_
                            refine W.cond rfl (fun h275 => ?_) (fun h275 => ?_)
                            · replace hF := ifP h275 hF
                              refine W.skip ?_
                              refine fun a ha => hK274 _ _ ?_ a ha
                              refine W.seq fun K276 hK276 => ?_
                              refine W.block ?_
                              refine W.seq fun K277 hK277 => ?_
                              refine W.region ?_
                              refine wl_move rfl rfl ?_
                              refine wl_assign rfl rfl ?_
                              refine WL.nil ?_
                              refine fun a ha => hK277 _ _ ?_ a ha
                              refine W.seq fun K278 hK278 => ?_
                              refine W.regionH mixed_ [] hB267 hS268 ?_
                              intro w279 hb280 hB281 hS282
                              have hSW283 := KeepX.refl w279 []
                              refine WH.takex (i := 0) rfl (by kernel_rfl) (by kernel_rfl) (by kernel_rfl) hP hSW283 ?_
                              refine pr_move rfl rfl ?_
                              refine WH.takex (i := 1) rfl (by kernel_rfl) (by kernel_rfl) (by kernel_rfl) hP hSW283 ?_
                              refine pr_move rfl rfl ?_
                              refine WH.takex (i := 2) rfl (by kernel_rfl) (by kernel_rfl) (by kernel_rfl) hP hSW283 ?_
                              refine pr_add rfl rfl rfl ?_
                              obtain ⟨u284, hu284, hF⟩ := bindE hF
                              refine WH.takex (i := 3) rfl (by kernel_rfl) (by kernel_rfl) (by kernel_rfl) hP hSW283 ?_
                              refine pr_indexo (e := ty_3) (i := 0) Try.underlying29 rfl rfl rfl hS282 rfl hu284 ?_
                              rintro p285 _ rfl hp286 ho287
                              refine WH.takex (i := 4) rfl (by kernel_rfl) (by kernel_rfl) (by kernel_rfl) hP hSW283 ?_
                              refine pr_load_p (vs := [(.int .i64 u284)]) (v := (.int .i64 u284)) tf_3 rfl rfl (hp286.kx0) rfl rfl ?_
                              refine WH.takex (i := 5) rfl (by kernel_rfl) (by kernel_rfl) (by kernel_rfl) hP hSW283 ?_
                              refine pr_move rfl rfl ?_
                              refine WH.takex (i := 6) rfl (by kernel_rfl) (by kernel_rfl) (by kernel_rfl) hP hSW283 ?_
                              refine pr_move rfl rfl ?_
                              obtain ⟨u288, hu288, hF⟩ := bindE hF
                              refine WH.takex (i := 7) rfl (by kernel_rfl) (by kernel_rfl) (by kernel_rfl) hP hSW283 ?_
                              refine pr_indexo (e := ty_3) (i := 0) Try.underlying29 rfl rfl rfl hS282 rfl hu288 ?_
                              rintro p289 _ rfl hp290 ho291
                              refine WH.takex (i := 8) rfl (by kernel_rfl) (by kernel_rfl) (by kernel_rfl) hP hSW283 ?_
                              refine pr_load_p (vs := [(.int .i64 u288)]) (v := (.int .i64 u288)) tf_3 rfl rfl (hp290.kx0) rfl rfl ?_
                              refine WH.takex (i := 9) rfl (by kernel_rfl) (by kernel_rfl) (by kernel_rfl) hP hSW283 ?_
                              refine pr_sub rfl rfl rfl ?_
                              refine WH.takex (i := 10) rfl (by kernel_rfl) (by kernel_rfl) (by kernel_rfl) hP hSW283 ?_
                              refine pr_assign rfl rfl ?_
                              refine WH.done (by kernel_rfl) ?_
                              refine fun a ha => hK278 _ _ ?_ a ha
                              refine W.seq fun K292 hK292 => ?_
                              obtain ⟨k297, hk297, hF⟩ := jE1 hF
                              have hJ298 : ∀ (y296 : Bool) (w293 : World) (_ : k297 y296 = some r) (_ : Below w0.heap.size w0 w293) (_ : Sep w0.heap.size w293 [R.own ty_3 F259 v258 u257]), ∀ a, St 491 [(10, (.int .i64 u25.1)), (11, (.int .i64 u25.2.1)), (66, v258), (453, (.int .i64 (List.length u7.2 : Int))), (454, (.int .i64 y269)), (489, (.bool y296))] a → K292 a w293 := by
                                intro y296 w293 hF hB294 hS295
                                subst hk297
                                refine fun a ha => hK292 _ _ ?_ a ha
                                refine W.cond rfl (fun h299 => ?_) (fun h299 => ?_)
                                · replace hF := ifP h299 hF
                                  refine W.seq fun K300 hK300 => ?_
                                  refine W.region ?_
                                  refine wl_assign rfl rfl ?_
                                  refine WL.nil ?_
                                  refine fun a ha => hK300 _ _ ?_ a ha
                                  refine W.ret ?_
                                  have hr := Option.some.inj hF
                                  subst hr
                                  exact rets (vs := [(.bool false)]) hQ rfl ⟨rv_tmp rfl, trivial⟩ ⟨rfl, hB294⟩
                                · replace hF := ifN h299 hF
                                  refine W.skip ?_
                                  refine fun a ha => hK276 _ _ ?_ a ha
                                  refine W.region ?_
                                  refine wl_add rfl rfl rfl ?_
                                  refine wl_move rfl rfl ?_
                                  refine WL.nil ?_
                                  rw [hnx270] at hF
                                  exact fun a ha => hKL271 a _ m272 (Nat.lt_succ_self m272) ⟨(w64 (y269 + 1)), ha.sub ⟨rfl, rfl, rfl, rfl, rfl, trivial⟩, hB294, (hS295.sel [0] rfl), hF⟩
                              refine W.region ?_
                              refine wl_move rfl rfl ?_
                              refine wl_move rfl rfl ?_
                              refine wl_gtr rfl rfl rfl ?_
                              refine wl_move rfl rfl ?_
                              rcases bE (decide (u25.2.1 < (w64 (u284 - u288)))) with h301 | h301
                              · replace hF := ifP h301 hF
                                refine wl_off rfl rfl rfl h301 ?_
                                refine wl_off rfl rfl rfl h301 ?_
                                refine wl_off rfl rfl rfl h301 ?_
                                refine wl_off rfl rfl rfl h301 ?_
                                refine wl_offu rfl rfl rfl ?_
                                refine wl_offu rfl rfl rfl ?_
                                refine wl_offu rfl rfl rfl ?_
                                refine wl_off rfl rfl rfl h301 ?_
                                refine wl_pick_t rfl rfl h301 rfl ?_
                                refine wl_move rfl rfl ?_
                                refine wl_off rfl rfl rfl rfl ?_
                                refine wl_off rfl rfl rfl rfl ?_
                                refine wl_off rfl rfl rfl rfl ?_
                                refine wl_off rfl rfl rfl rfl ?_
                                refine wl_offu rfl rfl rfl ?_
                                refine wl_offu rfl rfl rfl ?_
                                refine wl_offu rfl rfl rfl ?_
                                refine wl_off rfl rfl rfl rfl ?_
                                refine wl_pick_t rfl rfl rfl rfl ?_
                                refine WL.nil ?_
                                exact fun a ha => hJ298 (true) _ hF hB281 (hS282.sel [0] rfl) a (ha.sub ⟨rfl, rfl, rfl, rfl, rfl, rfl, trivial⟩)
                              · replace hF := ifN h301 hF
                                refine wl_on rfl rfl h301 ?_
                                refine wl_move rfl rfl ?_
                                refine wl_on rfl rfl h301 ?_
                                refine wl_move rfl rfl ?_
                                refine wl_on rfl rfl h301 ?_
                                refine wl_eql rfl rfl rfl ?_
                                refine wl_on rfl rfl h301 ?_
                                refine wl_move rfl rfl ?_
                                rcases bE ((w64 (u284 - u288)) == u25.2.1) with h302 | h302
                                · replace hF := ifP h302 hF
                                  refine wl_on rfl rfl h302 ?_
                                  refine wl_move rfl rfl ?_
                                  refine wl_on rfl rfl h302 ?_
                                  refine wl_move rfl rfl ?_
                                  refine wl_on rfl rfl h302 ?_
                                  refine wl_lss rfl rfl rfl ?_
                                  refine wl_on rfl rfl h301 ?_
                                  refine wl_pick_t rfl rfl h302 rfl ?_
                                  refine wl_pick_f rfl rfl h301 rfl ?_
                                  refine wl_move rfl rfl ?_
                                  rcases bE (decide (y269 < u25.1)) with h303 | h303
                                  · replace hF := ifP h303 hF
                                    refine wl_off rfl rfl rfl h303 ?_
                                    refine wl_off rfl rfl rfl h303 ?_
                                    refine wl_off rfl rfl rfl h303 ?_
                                    refine wl_off rfl rfl rfl h303 ?_
                                    refine wl_offu rfl rfl rfl ?_
                                    refine wl_offu rfl rfl rfl ?_
                                    refine wl_offu rfl rfl rfl ?_
                                    refine wl_off rfl rfl rfl h303 ?_
                                    refine wl_pick_t rfl rfl h303 rfl ?_
                                    refine WL.nil ?_
                                    exact fun a ha => hJ298 (true) _ hF hB281 (hS282.sel [0] rfl) a (ha.sub ⟨rfl, rfl, rfl, rfl, rfl, rfl, trivial⟩)
                                  · replace hF := ifN h303 hF
                                    refine wl_on rfl rfl h303 ?_
                                    refine wl_move rfl rfl ?_
                                    refine wl_on rfl rfl h303 ?_
                                    refine wl_move rfl rfl ?_
                                    refine wl_on rfl rfl h303 ?_
                                    refine wl_eql rfl rfl rfl ?_
                                    refine wl_on rfl rfl h303 ?_
                                    refine wl_move rfl rfl ?_
                                    rcases bE (y269 == u25.1) with h304 | h304
                                    · replace hF := ifP h304 hF
                                      refine wl_on rfl rfl h304 ?_
                                      refine wl_move rfl rfl ?_
                                      refine wl_on rfl rfl h304 ?_
                                      refine wl_move rfl rfl ?_
                                      refine wl_on rfl rfl h304 ?_
                                      refine wl_neq rfl rfl rfl ?_
                                      refine wl_on rfl rfl h303 ?_
                                      refine wl_pick_t rfl rfl h304 rfl ?_
                                      refine wl_pick_f rfl rfl h303 rfl ?_
                                      refine WL.nil ?_
                                      exact fun a ha => hJ298 (((w64 (u284 - u288)) != u25.2.1)) _ hF hB281 (hS282.sel [0] rfl) a (ha.sub ⟨rfl, rfl, rfl, rfl, rfl, rfl, trivial⟩)
                                    · replace hF := ifN h304 hF
                                      refine wl_off rfl rfl rfl h304 ?_
                                      refine wl_off rfl rfl rfl h304 ?_
                                      refine wl_off rfl rfl rfl h304 ?_
                                      refine wl_on rfl rfl h303 ?_
                                      refine wl_pick_f rfl rfl h304 rfl ?_
                                      refine wl_pick_f rfl rfl h303 rfl ?_
                                      refine WL.nil ?_
                                      exact fun a ha => hJ298 (false) _ hF hB281 (hS282.sel [0] rfl) a (ha.sub ⟨rfl, rfl, rfl, rfl, rfl, rfl, trivial⟩)
                                · replace hF := ifN h302 hF
                                  refine wl_off rfl rfl rfl h302 ?_
                                  refine wl_off rfl rfl rfl h302 ?_
                                  refine wl_off rfl rfl rfl h302 ?_
                                  refine wl_on rfl rfl h301 ?_
                                  refine wl_pick_f rfl rfl h302 rfl ?_
                                  refine wl_pick_f rfl rfl h301 rfl ?_
                                  refine wl_move rfl rfl ?_
                                  refine wl_on rfl rfl rfl ?_
                                  refine wl_move rfl rfl ?_
                                  refine wl_on rfl rfl rfl ?_
                                  refine wl_move rfl rfl ?_
                                  refine wl_on rfl rfl rfl ?_
                                  refine wl_eql rfl rfl rfl ?_
                                  refine wl_on rfl rfl rfl ?_
                                  refine wl_move rfl rfl ?_
                                  rcases bE (y269 == u25.1) with h305 | h305
                                  · replace hF := ifP h305 hF
                                    refine wl_on rfl rfl h305 ?_
                                    refine wl_move rfl rfl ?_
                                    refine wl_on rfl rfl h305 ?_
                                    refine wl_move rfl rfl ?_
                                    refine wl_on rfl rfl h305 ?_
                                    refine wl_neq rfl rfl rfl ?_
                                    refine wl_on rfl rfl rfl ?_
                                    refine wl_pick_t rfl rfl h305 rfl ?_
                                    refine wl_pick_f rfl rfl rfl rfl ?_
                                    refine WL.nil ?_
                                    exact fun a ha => hJ298 (((w64 (u284 - u288)) != u25.2.1)) _ hF hB281 (hS282.sel [0] rfl) a (ha.sub ⟨rfl, rfl, rfl, rfl, rfl, rfl, trivial⟩)
                                  · replace hF := ifN h305 hF
                                    refine wl_off rfl rfl rfl h305 ?_
                                    refine wl_off rfl rfl rfl h305 ?_
                                    refine wl_off rfl rfl rfl h305 ?_
                                    refine wl_on rfl rfl rfl ?_
                                    refine wl_pick_f rfl rfl h305 rfl ?_
                                    refine wl_pick_f rfl rfl rfl rfl ?_
                                    refine WL.nil ?_
                                    exact fun a ha => hJ298 (false) _ hF hB281 (hS282.sel [0] rfl) a (ha.sub ⟨rfl, rfl, rfl, rfl, rfl, rfl, trivial⟩)
                            · replace hF := ifN h275 hF
                              refine W.exit ?_
                              refine fun a ha => hK264 _ _ ?_ a ha
                              refine W.seq fun K306 hK306 => ?_
                              refine W.region ?_
                              refine wl_assign rfl rfl ?_
                              refine WL.nil ?_
                              refine fun a ha => hK306 _ _ ?_ a ha
                              refine W.ret ?_
                              have hr := Option.some.inj hF
                              subst hr
                              exact rets (vs := [(.bool true)]) hQ rfl ⟨rv_tmp rfl, trivial⟩ ⟨rfl, hB267⟩
                    refine W.region ?_
                    refine wl_move rfl rfl ?_
                    refine wl_not rfl rfl ?_
                    refine wl_move rfl rfl ?_
                    rcases bE (!u200.2) with h307 | h307
                    · replace hF := ifP h307 hF
                      refine wl_off rfl rfl rfl h307 ?_
                      refine wl_off rfl rfl rfl h307 ?_
                      refine wl_pick_t rfl rfl h307 rfl ?_
                      refine wl_move rfl rfl ?_
                      refine wl_off rfl rfl rfl rfl ?_
                      refine wl_off rfl rfl rfl rfl ?_
                      refine wl_off rfl rfl rfl rfl ?_
                      refine wl_pick_t rfl rfl rfl rfl ?_
                      refine wl_move rfl rfl ?_
                      refine wl_off rfl rfl rfl rfl ?_
                      refine wl_off rfl rfl rfl rfl ?_
                      refine wl_pick_t rfl rfl rfl rfl ?_
                      refine wl_move rfl rfl ?_
                      refine wl_off rfl rfl rfl rfl ?_
                      refine wl_off rfl rfl rfl rfl ?_
                      refine wl_pick_t rfl rfl rfl rfl ?_
                      refine wl_move rfl rfl ?_
                      refine wl_off rfl rfl rfl rfl ?_
                      refine wl_off rfl rfl rfl rfl ?_
                      refine wl_off rfl rfl rfl rfl ?_
                      refine wl_pick_t rfl rfl rfl rfl ?_
                      refine WL.nil ?_
                      exact fun a ha => hJ234 (true) _ hF hB224 (hS225.sel [1, 2] rfl) a (ha.sub ⟨rfl, rfl, rfl, rfl, rfl, rfl, trivial⟩)
                    · replace hF := ifN h307 hF
                      refine wl_on rfl rfl h307 ?_
                      refine wl_move rfl rfl ?_
                      refine wl_on rfl rfl h307 ?_
                      refine wl_not rfl rfl ?_
                      refine wl_pick_f rfl rfl h307 rfl ?_
                      refine wl_move rfl rfl ?_
                      rcases bE (!u207.2) with h308 | h308
                      · replace hF := ifP h308 hF
                        refine wl_off rfl rfl rfl h308 ?_
                        refine wl_off rfl rfl rfl h308 ?_
                        refine wl_off rfl rfl rfl h308 ?_
                        refine wl_pick_t rfl rfl h308 rfl ?_
                        refine wl_move rfl rfl ?_
                        refine wl_off rfl rfl rfl rfl ?_
                        refine wl_off rfl rfl rfl rfl ?_
                        refine wl_pick_t rfl rfl rfl rfl ?_
                        refine wl_move rfl rfl ?_
                        refine wl_off rfl rfl rfl rfl ?_
                        refine wl_off rfl rfl rfl rfl ?_
                        refine wl_pick_t rfl rfl rfl rfl ?_
                        refine wl_move rfl rfl ?_
                        refine wl_off rfl rfl rfl rfl ?_
                        refine wl_off rfl rfl rfl rfl ?_
                        refine wl_off rfl rfl rfl rfl ?_
                        refine wl_pick_t rfl rfl rfl rfl ?_
                        refine WL.nil ?_
                        exact fun a ha => hJ234 (true) _ hF hB224 (hS225.sel [1, 2] rfl) a (ha.sub ⟨rfl, rfl, rfl, rfl, rfl, rfl, trivial⟩)
                      · replace hF := ifN h308 hF
                        refine wl_on rfl rfl h308 ?_
                        refine wl_move rfl rfl ?_
                        refine wl_on rfl rfl h308 ?_
                        refine wl_move rfl rfl ?_
                        refine wl_on rfl rfl h308 ?_
                        refine wl_neq rfl rfl rfl ?_
                        refine wl_pick_f rfl rfl h308 rfl ?_
                        refine wl_move rfl rfl ?_
                        rcases bE (u200.1 != u207.1) with h309 | h309
                        · replace hF := ifP h309 hF
                          refine wl_off rfl rfl rfl h309 ?_
                          refine wl_off rfl rfl rfl h309 ?_
                          refine wl_pick_t rfl rfl h309 rfl ?_
                          refine wl_move rfl rfl ?_
                          refine wl_off rfl rfl rfl rfl ?_
                          refine wl_off rfl rfl rfl rfl ?_
                          refine wl_pick_t rfl rfl rfl rfl ?_
                          refine wl_move rfl rfl ?_
                          refine wl_off rfl rfl rfl rfl ?_
                          refine wl_off rfl rfl rfl rfl ?_
                          refine wl_off rfl rfl rfl rfl ?_
                          refine wl_pick_t rfl rfl rfl rfl ?_
                          refine WL.nil ?_
                          exact fun a ha => hJ234 (true) _ hF hB224 (hS225.sel [1, 2] rfl) a (ha.sub ⟨rfl, rfl, rfl, rfl, rfl, rfl, trivial⟩)
                        · replace hF := ifN h309 hF
                          refine wl_on rfl rfl h309 ?_
                          refine wl_move rfl rfl ?_
                          refine wl_on rfl rfl h309 ?_
                          refine wl_not rfl rfl ?_
                          refine wl_pick_f rfl rfl h309 rfl ?_
                          refine wl_move rfl rfl ?_
                          rcases bE (!u214.2) with h310 | h310
                          · replace hF := ifP h310 hF
                            refine wl_off rfl rfl rfl h310 ?_
                            refine wl_off rfl rfl rfl h310 ?_
                            refine wl_pick_t rfl rfl h310 rfl ?_
                            refine wl_move rfl rfl ?_
                            refine wl_off rfl rfl rfl rfl ?_
                            refine wl_off rfl rfl rfl rfl ?_
                            refine wl_off rfl rfl rfl rfl ?_
                            refine wl_pick_t rfl rfl rfl rfl ?_
                            refine WL.nil ?_
                            exact fun a ha => hJ234 (true) _ hF hB224 (hS225.sel [1, 2] rfl) a (ha.sub ⟨rfl, rfl, rfl, rfl, rfl, rfl, trivial⟩)
                          · replace hF := ifN h310 hF
                            refine wl_on rfl rfl h310 ?_
                            refine wl_move rfl rfl ?_
                            refine wl_on rfl rfl h310 ?_
                            refine wl_not rfl rfl ?_
                            refine wl_pick_f rfl rfl h310 rfl ?_
                            refine wl_move rfl rfl ?_
                            rcases bE (!u221.2) with h311 | h311
                            · replace hF := ifP h311 hF
                              refine wl_off rfl rfl rfl h311 ?_
                              refine wl_off rfl rfl rfl h311 ?_
                              refine wl_off rfl rfl rfl h311 ?_
                              refine wl_pick_t rfl rfl h311 rfl ?_
                              refine WL.nil ?_
                              exact fun a ha => hJ234 (true) _ hF hB224 (hS225.sel [1, 2] rfl) a (ha.sub ⟨rfl, rfl, rfl, rfl, rfl, rfl, trivial⟩)
                            · replace hF := ifN h311 hF
                              refine wl_on rfl rfl h311 ?_
                              refine wl_move rfl rfl ?_
                              refine wl_on rfl rfl h311 ?_
                              refine wl_move rfl rfl ?_
                              refine wl_on rfl rfl h311 ?_
                              refine wl_neq rfl rfl rfl ?_
                              refine wl_pick_f rfl rfl h311 rfl ?_
                              refine WL.nil ?_
                              exact fun a ha => hJ234 ((u214.1 != u221.1)) _ hF hB224 (hS225.sel [1, 2] rfl) a (ha.sub ⟨rfl, rfl, rfl, rfl, rfl, rfl, trivial⟩)
                refine W.seq fun K312 hK312 => ?_
                refine W.region ?_
                refine wl_move rfl rfl ?_
                refine WL.nil ?_
                refine fun a ha => hK312 _ _ ?_ a ha
                refine W.cond rfl (fun h313 => ?_) (fun h313 => ?_)
                · replace hF := ifP h313 hF
                  refine W.seq fun K314 hK314 => ?_
                  refine W.region ?_
                  refine wl_move rfl rfl ?_
                  refine wl_move rfl rfl ?_
                  refine wl_move rfl rfl ?_
                  refine wl_neg rfl rfl ?_
                  obtain ⟨u315, hu315, hF⟩ := bindE hF
                  refine wl_call rfl Try.call24 (C_impl_ShiftCues w184 u129.1 v130 (hS186.own_ro (i := 3) rfl) u140.1 v141 (hS186.own_ro (i := 5) rfl) (w64 (0 - u129.2.2)) _ hu315) rfl ?_
                  rintro _ w318 ⟨v316, F317, rfl, hb319, hM322⟩
                  refine ⟨_, rfl, ?_⟩
                  have hB320 := hB185.trans (hb319.mono hB185.size)
                  have hS321 := hS186.join hb319 hM322 hB185.size
                  refine wl_move rfl rfl ?_
                  refine wl_extract rfl rfl rfl ?_
                  refine wl_extract rfl rfl rfl ?_
                  refine wl_assign rfl rfl ?_
                  refine wl_assign rfl rfl ?_
                  refine WL.nil ?_
                  refine fun a ha => hK314 _ _ ?_ a ha
                  refine W.seq fun K323 hK323 => ?_
                  refine W.region ?_
                  refine wl_move rfl rfl ?_
                  refine wl_move rfl rfl ?_
                  obtain ⟨u324, hu324, hF⟩ := bindE hF
                  refine wl_call rfl Try.call29 (C_impl_AreCues w318 u129.1 v130 (hS321.own_ro (i := 4) rfl) u140.1 v141 (hS321.own_ro (i := 6) rfl) _ hu324) rfl ?_
                  rintro _ w325 ⟨rfl, hb326⟩
                  refine ⟨_, rfl, ?_⟩
                  have hB327 := hB320.trans (hb326.mono hB320.size)
                  have hS328 := hS321.below hb326
                  refine wl_move rfl rfl ?_
                  refine wl_extract rfl rfl rfl ?_
                  refine wl_extract rfl rfl rfl ?_
                  refine wl_assign rfl rfl ?_
                  refine wl_assign rfl rfl ?_
                  refine WL.nil ?_
                  refine fun a ha => hK323 _ _ ?_ a ha
                  refine W.seq fun K330 hK330 => ?_
                  obtain ⟨k335, hk335, hF⟩ := jE1 hF
                  have hJ336 : ∀ (y334 : Bool) (w331 : World) (_ : k335 y334 = some r) (_ : Below w0.heap.size w0 w331) (_ : Sep w0.heap.size w331 [R.own ty_183 F9 v8 u7.1, R.own ty_44 F11 v10 u7.2, R.own ty_3 F43 v42 u41.1]), ∀ a, St 491 [(5, v8), (6, v10), (9, (.bool u18.2.2)), (10, (.int .i64 u25.1)), (11, (.int .i64 u25.2.1)), (15, v42), (397, (.bool y334))] a → K330 a w331 := by
                    intro y334 w331 hF hB332 hS333
                    subst hk335
                    refine fun a ha => hK330 _ _ ?_ a ha
                    refine W.cond rfl (fun h337 => ?_) (fun h337 => ?_)
                    · replace hF := ifP h337 hF
                      refine W.seq fun K338 hK338 => ?_
                      refine W.region ?_
                      refine wl_assign rfl rfl ?_
                      refine WL.nil ?_
                      refine fun a ha => hK338 _ _ ?_ a ha
                      refine W.ret ?_
                      have hr := Option.some.inj hF
                      subst hr
                      exact rets (vs := [(.bool false)]) hQ rfl ⟨rv_tmp rfl, trivial⟩ ⟨rfl, hB332⟩
                    · replace hF := ifN h337 hF
                      refine W.skip ?_
                      exact fun a ha => hJ194 _ hF hB332 (hS333.sel [0, 1, 2] rfl) a (ha.sub ⟨rfl, rfl, rfl, rfl, rfl, rfl, trivial⟩)
                  refine W.region ?_
                  refine wl_move rfl rfl ?_
                  refine wl_not rfl rfl ?_
                  refine wl_move rfl rfl ?_
                  rcases bE (!u315.2) with h339 | h339
                  · replace hF := ifP h339 hF
                    refine wl_off rfl rfl rfl h339 ?_
                    refine wl_off rfl rfl rfl h339 ?_
                    refine wl_off rfl rfl rfl h339 ?_
                    refine wl_off rfl rfl rfl h339 ?_
                    refine wl_pick_t rfl rfl h339 rfl ?_
                    refine wl_move rfl rfl ?_
                    refine wl_off rfl rfl rfl rfl ?_
                    refine wl_off rfl rfl rfl rfl ?_
                    refine wl_pick_t rfl rfl rfl rfl ?_
                    refine wl_move rfl rfl ?_
                    refine wl_off rfl rfl rfl rfl ?_
                    refine wl_off rfl rfl rfl rfl ?_
                    refine wl_pick_t rfl rfl rfl rfl ?_
                    refine WL.nil ?_
                    exact fun a ha => hJ336 (true) _ hF hB327 (hS328.sel [1, 2, 3] rfl) a (ha.sub ⟨rfl, rfl, rfl, rfl, rfl, rfl, rfl, trivial⟩)
                  · replace hF := ifN h339 hF
                    refine wl_on rfl rfl h339 ?_
                    refine wl_move rfl rfl ?_
                    refine wl_on rfl rfl h339 ?_
                    refine wl_move rfl rfl ?_
                    refine wl_on rfl rfl h339 ?_
                    obtain ⟨u340, hu340, hF⟩ := bindE hF
                    refine wl_call rfl Try.call27 (C_laws_qCues w325 u315.1 v316 (hS328.own_ro (i := 0) rfl) u129.2.1 v132 (hS328.own_ro (i := 5) rfl) _ hu340) rfl ?_
                    rintro _ w341 ⟨rfl, hb342⟩
                    refine ⟨_, rfl, ?_⟩
                    have hB343 := hB327.trans (hb342.mono hB327.size)
                    have hS344 := hS328.below hb342
                    refine wl_on rfl rfl h339 ?_
                    refine wl_not rfl rfl ?_
                    refine wl_pick_f rfl rfl h339 rfl ?_
                    refine wl_move rfl rfl ?_
                    rcases bE (!u340) with h346 | h346
                    · replace hF := ifP h346 hF
                      refine wl_off rfl rfl rfl h346 ?_
                      refine wl_off rfl rfl rfl h346 ?_
                      refine wl_pick_t rfl rfl h346 rfl ?_
                      refine wl_move rfl rfl ?_
                      refine wl_off rfl rfl rfl rfl ?_
                      refine wl_off rfl rfl rfl rfl ?_
                      refine wl_pick_t rfl rfl rfl rfl ?_
                      refine WL.nil ?_
                      exact fun a ha => hJ336 (true) _ hF hB343 (hS344.sel [1, 2, 3] rfl) a (ha.sub ⟨rfl, rfl, rfl, rfl, rfl, rfl, rfl, trivial⟩)
                    · replace hF := ifN h346 hF
                      refine wl_on rfl rfl h346 ?_
                      refine wl_move rfl rfl ?_
                      refine wl_on rfl rfl h346 ?_
                      refine wl_not rfl rfl ?_
                      refine wl_pick_f rfl rfl h346 rfl ?_
                      refine wl_move rfl rfl ?_
                      rcases bE (!u324.2) with h347 | h347
                      · replace hF := ifP h347 hF
                        refine wl_off rfl rfl rfl h347 ?_
                        refine wl_off rfl rfl rfl h347 ?_
                        refine wl_pick_t rfl rfl h347 rfl ?_
                        refine WL.nil ?_
                        exact fun a ha => hJ336 (true) _ hF hB343 (hS344.sel [1, 2, 3] rfl) a (ha.sub ⟨rfl, rfl, rfl, rfl, rfl, rfl, rfl, trivial⟩)
                      · replace hF := ifN h347 hF
                        refine wl_on rfl rfl h347 ?_
                        refine wl_move rfl rfl ?_
                        refine wl_on rfl rfl h347 ?_
                        refine wl_not rfl rfl ?_
                        refine wl_pick_f rfl rfl h347 rfl ?_
                        refine WL.nil ?_
                        exact fun a ha => hJ336 ((!u324.1)) _ hF hB343 (hS344.sel [1, 2, 3] rfl) a (ha.sub ⟨rfl, rfl, rfl, rfl, rfl, rfl, rfl, trivial⟩)
                · replace hF := ifN h313 hF
                  refine W.skip ?_
                  exact fun a ha => hJ194 _ hF hB185 (hS186.sel [0, 1, 2] rfl) a (ha.sub ⟨rfl, rfl, rfl, rfl, rfl, rfl, trivial⟩)
              refine W.seq fun K348 hK348 => ?_
              refine W.region ?_
              refine wl_move rfl rfl ?_
              refine WL.nil ?_
              refine fun a ha => hK348 _ _ ?_ a ha
              refine W.cond rfl (fun h349 => ?_) (fun h349 => ?_)
              · replace hF := ifP h349 hF
                refine W.seq fun K350 hK350 => ?_
                refine W.region ?_
                refine wl_move rfl rfl ?_
                refine wl_move rfl rfl ?_
                obtain ⟨u351, hu351, hF⟩ := bindE hF
                refine wl_call rfl Try.call13 (C_spec_CueTimes w178 u100.1 v101 (hS180.own_ro (i := 3) rfl) u100.2.1 v103 (hS180.own_ro (i := 4) rfl) _ hu351) rfl ?_
                rintro _ w354 ⟨v352, F353, rfl, hb355, hM358⟩
                refine ⟨_, rfl, ?_⟩
                have hB356 := hB179.trans (hb355.mono hB179.size)
                have hS357 := hS180.join hb355 hM358 hB179.size
                refine wl_move rfl rfl ?_
                refine wl_extract rfl rfl rfl ?_
                refine wl_extract rfl rfl rfl ?_
                refine wl_assign rfl rfl ?_
                refine wl_assign rfl rfl ?_
                refine WL.nil ?_
                refine fun a ha => hK350 _ _ ?_ a ha
                refine W.seq fun K359 hK359 => ?_
                refine W.seq fun K360 hK360 => ?_
                refine W.region ?_
                refine wl_move rfl rfl ?_
                refine wl_not rfl rfl ?_
                refine WL.nil ?_
                refine fun a ha => hK360 _ _ ?_ a ha
                refine W.cond rfl (fun h361 => ?_) (fun h361 => ?_)
                · replace hF := ifP h361 hF
                  refine W.seq fun K362 hK362 => ?_
                  refine W.region ?_
                  refine wl_assign rfl rfl ?_
                  refine WL.nil ?_
                  refine fun a ha => hK362 _ _ ?_ a ha
                  refine W.ret ?_
                  have hr := Option.some.inj hF
                  subst hr
                  exact rets (vs := [(.bool false)]) hQ rfl ⟨rv_tmp rfl, trivial⟩ ⟨rfl, hB356⟩
                · replace hF := ifN h361 hF
                  refine W.skip ?_
                  refine fun a ha => hK359 _ _ ?_ a ha
                  refine W.seq fun K363 hK363 => ?_
                  refine W.region ?_
                  refine wl_move rfl rfl ?_
                  refine wl_lenr (e := ty_3) (l := u351.1) Try.underlying29 rfl rfl (hS357.own_ro (i := 0) rfl) ?_
                  refine wl_move rfl rfl ?_
                  refine WL.nil ?_
                  refine fun a ha => hK363 _ _ ?_ a ha
                  refine W.block ?_
                  refine W.loopk (fun m a w364 => ∃ (y367 : Int), St 491 [(5, v8), (6, v10), (9, (.bool u18.2.2)), (10, (.int .i64 u25.1)), (11, (.int .i64 u25.2.1)), (15, v42), (33, (.int .i64 u100.2.2.1)), (34, (.int .i64 u100.2.2.2)), (37, v121), (39, v130), (40, v132), (41, (.int .i64 u129.2.2)), (42, v141), (43, (.bool u140.2)), (347, v352), (348, (.int .i64 (List.length u351.1 : Int))), (349, (.int .i64 y367))] a ∧ Below w0.heap.size w0 w364 ∧ Sep w0.heap.size w364 [R.own ty_183 F9 v8 u7.1, R.own ty_44 F11 v10 u7.2, R.own ty_3 F43 v42 u41.1, R.own ty_3 F122 v121 u120.1, R.own ty_183 F131 v130 u129.1, R.own ty_44 F133 v132 u129.2.1, R.own ty_44 F142 v141 u140.1, R.own ty_3 F353 v352 u351.1] ∧ F_laws_FnCues_L1 u351 u120 u100 k187 m y367 = some r) FU ?_ ?_
                  ·
                    exact fun a ha => ⟨0, ha.sub ⟨rfl, rfl, rfl, rfl, rfl, rfl, rfl, rfl, rfl, rfl, rfl, rfl, rfl, rfl, rfl, rfl, rfl, trivial⟩, hB356, (hS357.sel [1, 2, 3, 6, 7, 8, 9, 0] rfl), hF⟩
                  ·
                    rintro m370 a w364 ⟨y367, ha, hB365, hS366, hF⟩ KL369 hKL369
                    refine W.at ?_ ha
                    cases m370 with
                    | zero => exact noneE hF
                    | succ m370 =>
                      obtain ⟨nx368, hnx368⟩ : ∃ k, k = F_laws_FnCues_L1 u351 u120 u100 k187 m370 := ⟨_, rfl⟩
                      rw [F_laws_FnCues_L1, ← hnx368] at hF
                      refine W.seq fun K371 hK371 => ?_
                      refine W.region ?_
                      refine wl_lss rfl rfl rfl ?_
                      refine WL.nil ?_
                      refine fun a ha => hK371 _ _ ?_ a ha
                      refine W.seq fun K372 hK372 => ?_
                      refine W.cond rfl (fun h373 => ?_) (fun h373 => ?_)
                      · replace hF := ifP h373 hF
                        refine W.skip ?_
                        refine fun a ha => hK372 _ _ ?_ a ha
                        refine W.seq fun K374 hK374 => ?_
                        refine W.block ?_
                        refine W.seq fun K375 hK375 => ?_
                        refine W.region ?_
                        refine wl_move rfl rfl ?_
                        obtain ⟨u376, hu376, hF⟩ := bindE hF
                        refine wl_indexo (e := ty_3) (i := 7) Try.underlying29 rfl rfl rfl hS366 rfl hu376 ?_
                        rintro p377 _ rfl hp378 ho379
                        refine wl_load_p (vs := [(.int .i64 u376)]) (v := (.int .i64 u376)) tf_3 rfl rfl hp378 rfl rfl ?_
                        refine wl_assign rfl rfl ?_
                        refine wl_assign rfl rfl ?_
                        refine WL.nil ?_
                        refine fun a ha => hK375 _ _ ?_ a ha
                        refine W.seq fun K380 hK380 => ?_
                        obtain ⟨k385, hk385, hF⟩ := jE1 hF
                        have hJ386 : ∀ (y384 : Bool) (w381 : World) (_ : k385 y384 = some r) (_ : Below w0.heap.size w0 w381) (_ : Sep w0.heap.size w381 [R.own ty_183 F9 v8 u7.1, R.own ty_44 F11 v10 u7.2, R.own ty_3 F43 v42 u41.1, R.own ty_3 F122 v121 u120.1, R.own ty_183 F131 v130 u129.1, R.own ty_44 F133 v132 u129.2.1, R.own ty_44 F142 v141 u140.1, R.own ty_3 F353 v352 u351.1]), ∀ a, St 491 [(5, v8), (6, v10), (9, (.bool u18.2.2)), (10, (.int .i64 u25.1)), (11, (.int .i64 u25.2.1)), (15, v42), (33, (.int .i64 u100.2.2.1)), (34, (.int .i64 u100.2.2.2)), (37, v121), (39, v130), (40, v132), (41, (.int .i64 u129.2.2)), (42, v141), (43, (.bool u140.2)), (347, v352), (348, (.int .i64 (List.length u351.1 : Int))), (349, (.int .i64 y367)), (365, (.bool y384))] a → K380 a w381 := by
                          intro y384 w381 hF hB382 hS383
                          subst hk385
                          refine fun a ha => hK380 _ _ ?_ a ha
                          refine W.cond rfl (fun h387 => ?_) (fun h387 => ?_)
                          · replace hF := ifP h387 hF
                            refine W.seq fun K388 hK388 => ?_
                            refine W.region ?_
                            refine wl_assign rfl rfl ?_
                            refine WL.nil ?_
                            refine fun a ha => hK388 _ _ ?_ a ha
                            refine W.ret ?_
                            have hr := Option.some.inj hF
                            subst hr
                            exact rets (vs := [(.bool false)]) hQ rfl ⟨rv_tmp rfl, trivial⟩ ⟨rfl, hB382⟩
                          · replace hF := ifN h387 hF
                            refine W.skip ?_
                            refine fun a ha => hK374 _ _ ?_ a ha
                            refine W.region ?_
                            refine wl_add rfl rfl rfl ?_
                            refine wl_move rfl rfl ?_
                            refine WL.nil ?_
                            rw [hnx368] at hF
                            exact fun a ha => hKL369 a _ m370 (Nat.lt_succ_self m370) ⟨(w64 (y367 + 1)), ha.sub ⟨rfl, rfl, rfl, rfl, rfl, rfl, rfl, rfl, rfl, rfl, rfl, rfl, rfl, rfl, rfl, rfl, rfl, trivial⟩, hB382, (hS383.sel [0, 1, 2, 3, 4, 5, 6, 7] rfl), hF⟩
                        refine W.region ?_
                        refine wl_move rfl rfl ?_
                        refine wl_move rfl rfl ?_
                        obtain ⟨u389, hu389, hF⟩ := bindE hF
                        refine wl_call rfl Try.call28 (C_laws_qHas w364 u120.1 v121 (hS366.own_ro (i := 3) rfl) y367 _ hu389) rfl ?_
                        rintro _ w390 ⟨rfl, hb391⟩
                        refine ⟨_, rfl, ?_⟩
                        have hB392 := hB365.trans (hb391.mono hB365.size)
                        have hS393 := hS366.below hb391
                        refine wl_move rfl rfl ?_
                        refine wl_move rfl rfl ?_
                        refine wl_geq rfl rfl rfl ?_
                        refine wl_move rfl rfl ?_
                        rcases bE (decide (u100.2.2.1 ≤ u376)) with h395 | h395
                        · replace hF := ifP h395 hF
                          refine wl_on rfl rfl h395 ?_
                          refine wl_move rfl rfl ?_
                          refine wl_on rfl rfl h395 ?_
                          refine wl_move rfl rfl ?_
                          refine wl_on rfl rfl h395 ?_
                          refine wl_lss rfl rfl rfl ?_
                          refine wl_pick_t rfl rfl h395 rfl ?_
                          refine wl_neqb Try.underlying4 rfl rfl rfl ?_
                          refine WL.nil ?_
                          exact fun a ha => hJ386 ((u389 != (decide (u376 < u100.2.2.2)))) _ hF hB392 (hS393.sel [0, 1, 2, 3, 4, 5, 6, 7] rfl) a (ha.sub ⟨rfl, rfl, rfl, rfl, rfl, rfl, rfl, rfl, rfl, rfl, rfl, rfl, rfl, rfl, rfl, rfl, rfl, rfl, trivial⟩)
                        · replace hF := ifN h395 hF
                          refine wl_off rfl rfl rfl h395 ?_
                          refine wl_off rfl rfl rfl h395 ?_
                          refine wl_off rfl rfl rfl h395 ?_
                          refine wl_pick_f rfl rfl h395 rfl ?_
                          refine wl_neqb Try.underlying4 rfl rfl rfl ?_
                          refine WL.nil ?_
                          exact fun a ha => hJ386 ((u389 != false)) _ hF hB392 (hS393.sel [0, 1, 2, 3, 4, 5, 6, 7] rfl) a (ha.sub ⟨rfl, rfl, rfl, rfl, rfl, rfl, rfl, rfl, rfl, rfl, rfl, rfl, rfl, rfl, rfl, rfl, rfl, rfl, trivial⟩)
                      · replace hF := ifN h373 hF
                        refine W.exit ?_
                        exact fun a ha => hJ188 _ hF hB365 (hS366.sel [0, 1, 2, 4, 5, 6] rfl) a (ha.sub ⟨rfl, rfl, rfl, rfl, rfl, rfl, rfl, rfl, rfl, rfl, rfl, trivial⟩)
              · replace hF := ifN h349 hF
                refine W.skip ?_
                exact fun a ha => hJ188 _ hF hB179 (hS180.sel [0, 1, 2, 6, 7, 8] rfl) a (ha.sub ⟨rfl, rfl, rfl, rfl, rfl, rfl, rfl, rfl, rfl, rfl, rfl, trivial⟩)
            refine W.seq fun K396 hK396 => ?_
            refine W.region ?_
            refine wl_move rfl rfl ?_
            refine WL.nil ?_
            refine fun a ha => hK396 _ _ ?_ a ha
            refine W.cond rfl (fun h397 => ?_) (fun h397 => ?_)
            · replace hF := ifP h397 hF
              refine W.seq fun K398 hK398 => ?_
              refine W.region ?_
              refine wl_move rfl rfl ?_
              refine wl_move rfl rfl ?_
              obtain ⟨u399, hu399, hF⟩ := bindE hF
              refine wl_call rfl Try.call12 (C_impl_CueTimes w169 u75.1 v76 (hS171.own_ro (i := 3) rfl) u75.2.1 v78 (hS171.own_ro (i := 4) rfl) _ hu399) rfl ?_
              rintro _ w402 ⟨v400, F401, rfl, hb403, hM406⟩
              refine ⟨_, rfl, ?_⟩
              have hB404 := hB170.trans (hb403.mono hB170.size)
              have hS405 := hS171.join hb403 hM406 hB170.size
              refine wl_move rfl rfl ?_
              refine wl_extract rfl rfl rfl ?_
              refine wl_extract rfl rfl rfl ?_
              refine wl_assign rfl rfl ?_
              refine wl_assign rfl rfl ?_
              refine WL.nil ?_
              refine fun a ha => hK398 _ _ ?_ a ha
              refine W.seq fun K407 hK407 => ?_
              refine W.region ?_
              refine wl_move rfl rfl ?_
              refine wl_move rfl rfl ?_
              obtain ⟨u408, hu408, hF⟩ := bindE hF
              refine wl_call rfl Try.call13 (C_spec_CueTimes w402 u75.1 v76 (hS405.own_ro (i := 4) rfl) u75.2.1 v78 (hS405.own_ro (i := 5) rfl) _ hu408) rfl ?_
              rintro _ w411 ⟨v409, F410, rfl, hb412, hM415⟩
              refine ⟨_, rfl, ?_⟩
              have hB413 := hB404.trans (hb412.mono hB404.size)
              have hS414 := hS405.join hb412 hM415 hB404.size
              refine wl_move rfl rfl ?_
              refine wl_extract rfl rfl rfl ?_
              refine wl_extract rfl rfl rfl ?_
              refine wl_assign rfl rfl ?_
              refine wl_assign rfl rfl ?_
              refine WL.nil ?_
              refine fun a ha => hK407 _ _ ?_ a ha
              refine W.seq fun K416 hK416 => ?_
              obtain ⟨k421, hk421, hF⟩ := jE1 hF
              have hJ422 : ∀ (y420 : Bool) (w417 : World) (_ : k421 y420 = some r) (_ : Below w0.heap.size w0 w417) (_ : Sep w0.heap.size w417 [R.own ty_183 F9 v8 u7.1, R.own ty_44 F11 v10 u7.2, R.own ty_3 F43 v42 u41.1, R.own ty_183 F102 v101 u100.1, R.own ty_44 F104 v103 u100.2.1, R.own ty_3 F122 v121 u120.1, R.own ty_183 F131 v130 u129.1, R.own ty_44 F133 v132 u129.2.1, R.own ty_44 F142 v141 u140.1]), ∀ a, St 491 [(5, v8), (6, v10), (9, (.bool u18.2.2)), (10, (.int .i64 u25.1)), (11, (.int .i64 u25.2.1)), (15, v42), (31, v101), (32, v103), (33, (.int .i64 u100.2.2.1)), (34, (.int .i64 u100.2.2.2)), (36, (.bool u111.2)), (37, v121), (39, v130), (40, v132), (41, (.int .i64 u129.2.2)), (42, v141), (43, (.bool u140.2)), (337, (.bool y420))] a → K416 a w417 := by
                intro y420 w417 hF hB418 hS419
                subst hk421
                refine fun a ha => hK416 _ _ ?_ a ha
                refine W.cond rfl (fun h423 => ?_) (fun h423 => ?_)
                · replace hF := ifP h423 hF
                  refine W.seq fun K424 hK424 => ?_
                  refine W.region ?_
                  refine wl_assign rfl rfl ?_
                  refine WL.nil ?_
                  refine fun a ha => hK424 _ _ ?_ a ha
                  refine W.ret ?_
                  have hr := Option.some.inj hF
                  subst hr
                  exact rets (vs := [(.bool false)]) hQ rfl ⟨rv_tmp rfl, trivial⟩ ⟨rfl, hB418⟩
                · replace hF := ifN h423 hF
                  refine W.skip ?_
                  exact fun a ha => hJ182 _ hF hB418 (hS419.sel [0, 1, 2, 3, 4, 5, 6, 7, 8] rfl) a (ha.sub ⟨rfl, rfl, rfl, rfl, rfl, rfl, rfl, rfl, rfl, rfl, rfl, rfl, rfl, rfl, rfl, rfl, rfl, trivial⟩)
              refine W.region ?_
              refine wl_move rfl rfl ?_
              refine wl_not rfl rfl ?_
              refine wl_move rfl rfl ?_
              rcases bE (!u399.2) with h425 | h425
              · replace hF := ifP h425 hF
                refine wl_off rfl rfl rfl h425 ?_
                refine wl_off rfl rfl rfl h425 ?_
                refine wl_pick_t rfl rfl h425 rfl ?_
                refine wl_move rfl rfl ?_
                refine wl_off rfl rfl rfl rfl ?_
                refine wl_off rfl rfl rfl rfl ?_
                refine wl_off rfl rfl rfl rfl ?_
                refine wl_off rfl rfl rfl rfl ?_
                refine wl_pick_t rfl rfl rfl rfl ?_
                refine wl_move rfl rfl ?_
                refine wl_off rfl rfl rfl rfl ?_
                refine wl_off rfl rfl rfl rfl ?_
                refine wl_off rfl rfl rfl rfl ?_
                refine wl_off rfl rfl rfl rfl ?_
                refine wl_off rfl rfl rfl rfl ?_
                refine wl_off rfl rfl rfl rfl ?_
                refine wl_pick_t rfl rfl rfl rfl ?_
                refine wl_move rfl rfl ?_
                refine wl_off rfl rfl rfl rfl ?_
                refine wl_off rfl rfl rfl rfl ?_
                refine wl_off rfl rfl rfl rfl ?_
                refine wl_off rfl rfl rfl rfl ?_
                refine wl_off rfl rfl rfl rfl ?_
                refine wl_off rfl rfl rfl rfl ?_
                refine wl_offu rfl rfl rfl ?_
                refine wl_offu rfl rfl rfl ?_
                refine wl_offu rfl rfl rfl ?_
                refine wl_offu rfl rfl rfl ?_
                refine wl_offu rfl rfl rfl ?_
                refine wl_offu rfl rfl rfl ?_
                refine wl_offu rfl rfl rfl ?_
                refine wl_off rfl rfl rfl rfl ?_
                refine wl_pick_t rfl rfl rfl rfl ?_
                refine WL.nil ?_
                exact fun a ha => hJ422 (true) _ hF hB413 (hS414.sel [2, 3, 4, 7, 8, 9, 10, 11, 12] rfl) a (ha.sub ⟨rfl, rfl, rfl, rfl, rfl, rfl, rfl, rfl, rfl, rfl, rfl, rfl, rfl, rfl, rfl, rfl, rfl, rfl, trivial⟩)
              · replace hF := ifN h425 hF
                refine wl_on rfl rfl h425 ?_
                refine wl_move rfl rfl ?_
                refine wl_on rfl rfl h425 ?_
                refine wl_not rfl rfl ?_
                refine wl_pick_f rfl rfl h425 rfl ?_
                refine wl_move rfl rfl ?_
                rcases bE (!u408.2) with h426 | h426
                · replace hF := ifP h426 hF
                  refine wl_off rfl rfl rfl h426 ?_
                  refine wl_off rfl rfl rfl h426 ?_
                  refine wl_off rfl rfl rfl h426 ?_
                  refine wl_off rfl rfl rfl h426 ?_
                  refine wl_pick_t rfl rfl h426 rfl ?_
                  refine wl_move rfl rfl ?_
                  refine wl_off rfl rfl rfl rfl ?_
                  refine wl_off rfl rfl rfl rfl ?_
                  refine wl_off rfl rfl rfl rfl ?_
                  refine wl_off rfl rfl rfl rfl ?_
                  refine wl_off rfl rfl rfl rfl ?_
                  refine wl_off rfl rfl rfl rfl ?_
                  refine wl_pick_t rfl rfl rfl rfl ?_
                  refine wl_move rfl rfl ?_
                  refine wl_off rfl rfl rfl rfl ?_
                  refine wl_off rfl rfl rfl rfl ?_
                  refine wl_off rfl rfl rfl rfl ?_
                  refine wl_off rfl rfl rfl rfl ?_
                  refine wl_off rfl rfl rfl rfl ?_
                  refine wl_off rfl rfl rfl rfl ?_
                  refine wl_offu rfl rfl rfl ?_
                  refine wl_offu rfl rfl rfl ?_
                  refine wl_offu rfl rfl rfl ?_
                  refine wl_offu rfl rfl rfl ?_
                  refine wl_offu rfl rfl rfl ?_
                  refine wl_offu rfl rfl rfl ?_
                  refine wl_offu rfl rfl rfl ?_
                  refine wl_off rfl rfl rfl rfl ?_
                  refine wl_pick_t rfl rfl rfl rfl ?_
                  refine WL.nil ?_
                  exact fun a ha => hJ422 (true) _ hF hB413 (hS414.sel [2, 3, 4, 7, 8, 9, 10, 11, 12] rfl) a (ha.sub ⟨rfl, rfl, rfl, rfl, rfl, rfl, rfl, rfl, rfl, rfl, rfl, rfl, rfl, rfl, rfl, rfl, rfl, rfl, trivial⟩)
                · replace hF := ifN h426 hF
                  refine wl_on rfl rfl h426 ?_
                  refine wl_move rfl rfl ?_
                  refine wl_on rfl rfl h426 ?_
                  refine wl_move rfl rfl ?_
                  refine wl_on rfl rfl h426 ?_
                  obtain ⟨u427, hu427, hF⟩ := bindE hF
                  refine wl_call rfl Try.call26 (C_laws_qInts w411 u399.1 v400 (hS414.own_ro (i := 1) rfl) u408.1 v409 (hS414.own_ro (i := 0) rfl) _ hu427) rfl ?_
                  rintro _ w428 ⟨rfl, hb429⟩
                  refine ⟨_, rfl, ?_⟩
                  have hB430 := hB413.trans (hb429.mono hB413.size)
                  have hS431 := hS414.below hb429
                  refine wl_on rfl rfl h426 ?_
                  refine wl_not rfl rfl ?_
                  refine wl_pick_f rfl rfl h426 rfl ?_
                  refine wl_move rfl rfl ?_
                  rcases bE (!u427) with h433 | h433
                  · replace hF := ifP h433 hF
                    refine wl_off rfl rfl rfl h433 ?_
                    refine wl_off rfl rfl rfl h433 ?_
                    refine wl_off rfl rfl rfl h433 ?_
                    refine wl_off rfl rfl rfl h433 ?_
                    refine wl_off rfl rfl rfl h433 ?_
                    refine wl_off rfl rfl rfl h433 ?_
                    refine wl_pick_t rfl rfl h433 rfl ?_
                    refine wl_move rfl rfl ?_
                    refine wl_off rfl rfl rfl rfl ?_
                    refine wl_off rfl rfl rfl rfl ?_
                    refine wl_off rfl rfl rfl rfl ?_
                    refine wl_off rfl rfl rfl rfl ?_
                    refine wl_off rfl rfl rfl rfl ?_
                    refine wl_off rfl rfl rfl rfl ?_
                    refine wl_offu rfl rfl rfl ?_
                    refine wl_offu rfl rfl rfl ?_
                    refine wl_offu rfl rfl rfl ?_
                    refine wl_offu rfl rfl rfl ?_
                    refine wl_offu rfl rfl rfl ?_
                    refine wl_offu rfl rfl rfl ?_
                    refine wl_offu rfl rfl rfl ?_
                    refine wl_off rfl rfl rfl rfl ?_
                    refine wl_pick_t rfl rfl rfl rfl ?_
                    refine WL.nil ?_
                    exact fun a ha => hJ422 (true) _ hF hB430 (hS431.sel [2, 3, 4, 7, 8, 9, 10, 11, 12] rfl) a (ha.sub ⟨rfl, rfl, rfl, rfl, rfl, rfl, rfl, rfl, rfl, rfl, rfl, rfl, rfl, rfl, rfl, rfl, rfl, rfl, trivial⟩)
                  · replace hF := ifN h433 hF
                    refine wl_on rfl rfl h433 ?_
                    refine wl_move rfl rfl ?_
                    refine wl_on rfl rfl h433 ?_
                    refine wl_move rfl rfl ?_
                    refine wl_on rfl rfl h433 ?_
                    obtain ⟨u434, hu434, hF⟩ := bindE hF
                    refine wl_indexo (e := ty_3) (i := 0) Try.underlying29 rfl rfl rfl hS431 rfl hu434 ?_
                    rintro p435 _ rfl hp436 ho437
                    refine wl_on rfl rfl h433 ?_
                    refine wl_load_p (vs := [(.int .i64 u434)]) (v := (.int .i64 u434)) tf_3 rfl rfl hp436 rfl rfl ?_
                    refine wl_on rfl rfl h433 ?_
                    refine wl_move rfl rfl ?_
                    refine wl_on rfl rfl h433 ?_
                    refine wl_gtr rfl rfl rfl ?_
                    refine wl_pick_f rfl rfl h433 rfl ?_
                    refine wl_move rfl rfl ?_
                    rcases bE (decide (u75.2.2 < u434)) with h438 | h438
                    · replace hF := ifP h438 hF
                      refine wl_off rfl rfl rfl h438 ?_
                      refine wl_off rfl rfl rfl h438 ?_
                      refine wl_off rfl rfl rfl h438 ?_
                      refine wl_off rfl rfl rfl h438 ?_
                      refine wl_off rfl rfl rfl h438 ?_
                      refine wl_off rfl rfl rfl h438 ?_
                      refine wl_offu rfl rfl rfl ?_
                      refine wl_offu rfl rfl rfl ?_
                      refine wl_offu rfl rfl rfl ?_
                      refine wl_offu rfl rfl rfl ?_
                      refine wl_offu rfl rfl rfl ?_
                      refine wl_offu rfl rfl rfl ?_
                      refine wl_offu rfl rfl rfl ?_
                      refine wl_off rfl rfl rfl h438 ?_
                      refine wl_pick_t rfl rfl h438 rfl ?_
                      refine WL.nil ?_
                      exact fun a ha => hJ422 (true) _ hF hB430 (hS431.sel [2, 3, 4, 7, 8, 9, 10, 11, 12] rfl) a (ha.sub ⟨rfl, rfl, rfl, rfl, rfl, rfl, rfl, rfl, rfl, rfl, rfl, rfl, rfl, rfl, rfl, rfl, rfl, rfl, trivial⟩)
                    · replace hF := ifN h438 hF
                      refine wl_on rfl rfl h438 ?_
                      refine wl_move rfl rfl ?_
                      refine wl_on rfl rfl h438 ?_
                      refine wl_add rfl rfl rfl ?_
                      refine wl_on rfl rfl h438 ?_
                      refine wl_move rfl rfl ?_
                      refine wl_on rfl rfl h438 ?_
                      refine wl_lenr (e := ty_3) (l := u408.1) Try.underlying29 rfl rfl (hS431.own_ro (i := 0) rfl) ?_
                      refine wl_on rfl rfl h438 ?_
                      refine wl_lss rfl rfl rfl ?_
                      refine wl_on rfl rfl h438 ?_
                      refine wl_move rfl rfl ?_
                      rcases bE (decide ((w64 (u93.1 + 1)) < (List.length u408.1 : Int))) with h439 | h439
                      · replace hF := ifP h439 hF
                        refine wl_on rfl rfl h439 ?_
                        refine wl_move rfl rfl ?_
                        refine wl_on rfl rfl h439 ?_
                        refine wl_move rfl rfl ?_
                        refine wl_on rfl rfl h439 ?_
                        refine wl_add rfl rfl rfl ?_
                        refine wl_on rfl rfl h439 ?_
                        obtain ⟨u440, hu440, hF⟩ := bindE hF
                        refine wl_indexo (e := ty_3) (i := 0) Try.underlying29 rfl rfl rfl hS431 rfl hu440 ?_
                        rintro p441 _ rfl hp442 ho443
                        refine wl_on rfl rfl h439 ?_
                        refine wl_load_p (vs := [(.int .i64 u440)]) (v := (.int .i64 u440)) tf_3 rfl rfl hp442 rfl rfl ?_
                        refine wl_on rfl rfl h439 ?_
                        refine wl_move rfl rfl ?_
                        refine wl_on rfl rfl h439 ?_
                        refine wl_leq rfl rfl rfl ?_
                        refine wl_on rfl rfl h438 ?_
                        refine wl_pick_t rfl rfl h439 rfl ?_
                        refine wl_pick_f rfl rfl h438 rfl ?_
                        refine WL.nil ?_
                        exact fun a ha => hJ422 ((decide (u440 ≤ u75.2.2))) _ hF hB430 (hS431.sel [2, 3, 4, 7, 8, 9, 10, 11, 12] rfl) a (ha.sub ⟨rfl, rfl, rfl, rfl, rfl, rfl, rfl, rfl, rfl, rfl, rfl, rfl, rfl, rfl, rfl, rfl, rfl, rfl, trivial⟩)
                      · replace hF := ifN h439 hF
                        refine wl_off rfl rfl rfl h439 ?_
                        refine wl_off rfl rfl rfl h439 ?_
                        refine wl_off rfl rfl rfl h439 ?_
                        refine wl_off rfl rfl rfl h439 ?_
                        refine wl_off rfl rfl rfl h439 ?_
                        refine wl_off rfl rfl rfl h439 ?_
                        refine wl_off rfl rfl rfl h439 ?_
                        refine wl_on rfl rfl h438 ?_
                        refine wl_pick_f rfl rfl h439 rfl ?_
                        refine wl_pick_f rfl rfl h438 rfl ?_
                        refine WL.nil ?_
                        exact fun a ha => hJ422 (false) _ hF hB430 (hS431.sel [2, 3, 4, 7, 8, 9, 10, 11, 12] rfl) a (ha.sub ⟨rfl, rfl, rfl, rfl, rfl, rfl, rfl, rfl, rfl, rfl, rfl, rfl, rfl, rfl, rfl, rfl, rfl, rfl, trivial⟩)
            · replace hF := ifN h397 hF
              refine W.skip ?_
              exact fun a ha => hJ182 _ hF hB170 (hS171.sel [0, 1, 2, 5, 6, 7, 8, 9, 10] rfl) a (ha.sub ⟨rfl, rfl, rfl, rfl, rfl, rfl, rfl, rfl, rfl, rfl, rfl, rfl, rfl, rfl, rfl, rfl, rfl, trivial⟩)
        refine W.region ?_
        refine wl_move rfl rfl ?_
        refine wl_move rfl rfl ?_
        rcases bE u61.2 with h444 | h444
        · replace hF := ifP h444 hF
          refine wl_on rfl rfl h444 ?_
          refine wl_move rfl rfl ?_
          refine wl_on rfl rfl h444 ?_
          refine wl_move rfl rfl ?_
          refine wl_on rfl rfl h444 ?_
          obtain ⟨u445, hu445, hF⟩ := bindE hF
          refine wl_indexo (e := ty_44) (i := 3) Try.underlying24 rfl rfl rfl hS161 rfl hu445 ?_
          rintro p446 _ rfl hp447 ho448
          refine wl_on rfl rfl h444 ?_
          refine wl_fieldp (o := 0) ff_44_0 rfl rfl ?_
          refine wl_on rfl rfl h444 ?_
          refine wl_load_p (vs := [(.int .i64 u445.1)]) (v := (.int .i64 u445.1)) tf_3 rfl rfl (hp447.add 0) rfl rfl ?_
          refine wl_on rfl rfl h444 ?_
          refine wl_move rfl rfl ?_
          refine wl_on rfl rfl h444 ?_
          refine wl_lss rfl rfl rfl ?_
          refine wl_on rfl rfl h444 ?_
          refine wl_move rfl rfl ?_
          rcases bE (decide (u445.1 < u50.2.2)) with h449 | h449
          · replace hF := ifP h449 hF
            refine wl_off rfl rfl rfl h449 ?_
            refine wl_off rfl rfl rfl h449 ?_
            refine wl_off rfl rfl rfl h449 ?_
            refine wl_offu rfl rfl rfl ?_
            refine wl_offu rfl rfl rfl ?_
            refine wl_offu rfl rfl rfl ?_
            refine wl_offu rfl rfl rfl ?_
            refine wl_offu rfl rfl rfl ?_
            refine wl_offu rfl rfl rfl ?_
            refine wl_offu rfl rfl rfl ?_
            refine wl_offu rfl rfl rfl ?_
            refine wl_off rfl rfl rfl h449 ?_
            refine wl_on rfl rfl h444 ?_
            refine wl_pick_t rfl rfl h449 rfl ?_
            refine wl_pick_t rfl rfl h444 rfl ?_
            refine WL.nil ?_
            exact fun a ha => hJ174 (true) _ hF hB160 (hS161.sel [0, 1, 2, 4, 5, 6, 7, 8, 9, 10, 11] rfl) a (ha.sub ⟨rfl, rfl, rfl, rfl, rfl, rfl, rfl, rfl, rfl, rfl, rfl, rfl, rfl, rfl, rfl, rfl, rfl, rfl, rfl, rfl, rfl, rfl, rfl, trivial⟩)
          · replace hF := ifN h449 hF
            refine wl_on rfl rfl h449 ?_
            refine wl_move rfl rfl ?_
            refine wl_on rfl rfl h449 ?_
            refine wl_gtr rfl rfl rfl ?_
            refine wl_on rfl rfl h449 ?_
            refine wl_move rfl rfl ?_
            rcases bE (decide (0 < u68.1)) with h450 | h450
            · replace hF := ifP h450 hF
              refine wl_on rfl rfl h450 ?_
              refine wl_move rfl rfl ?_
              refine wl_on rfl rfl h450 ?_
              refine wl_move rfl rfl ?_
              refine wl_on rfl rfl h450 ?_
              refine wl_sub rfl rfl rfl ?_
              refine wl_on rfl rfl h450 ?_
              obtain ⟨u451, hu451, hF⟩ := bindE hF
              refine wl_indexo (e := ty_44) (i := 3) Try.underlying24 rfl rfl rfl hS161 rfl hu451 ?_
              rintro p452 _ rfl hp453 ho454
              refine wl_on rfl rfl h450 ?_
              refine wl_fieldp (o := 0) ff_44_0 rfl rfl ?_
              refine wl_on rfl rfl h450 ?_
              refine wl_load_p (vs := [(.int .i64 u451.1)]) (v := (.int .i64 u451.1)) tf_3 rfl rfl (hp453.add 0) rfl rfl ?_
              refine wl_on rfl rfl h450 ?_
              refine wl_move rfl rfl ?_
              refine wl_on rfl rfl h450 ?_
              refine wl_geq rfl rfl rfl ?_
              refine wl_on rfl rfl h449 ?_
              refine wl_pick_t rfl rfl h450 rfl ?_
              refine wl_on rfl rfl h444 ?_
              refine wl_pick_f rfl rfl h449 rfl ?_
              refine wl_pick_t rfl rfl h444 rfl ?_
              refine WL.nil ?_
              exact fun a ha => hJ174 ((decide (u50.2.2 ≤ u451.1))) _ hF hB160 (hS161.sel [0, 1, 2, 4, 5, 6, 7, 8, 9, 10, 11] rfl) a (ha.sub ⟨rfl, rfl, rfl, rfl, rfl, rfl, rfl, rfl, rfl, rfl, rfl, rfl, rfl, rfl, rfl, rfl, rfl, rfl, rfl, rfl, rfl, rfl, rfl, trivial⟩)
            · replace hF := ifN h450 hF
              refine wl_off rfl rfl rfl h450 ?_
              refine wl_off rfl rfl rfl h450 ?_
              refine wl_off rfl rfl rfl h450 ?_
              refine wl_off rfl rfl rfl h450 ?_
              refine wl_off rfl rfl rfl h450 ?_
              refine wl_off rfl rfl rfl h450 ?_
              refine wl_off rfl rfl rfl h450 ?_
              refine wl_off rfl rfl rfl h450 ?_
              refine wl_on rfl rfl h449 ?_
              refine wl_pick_f rfl rfl h450 rfl ?_
              refine wl_on rfl rfl h444 ?_
              refine wl_pick_f rfl rfl h449 rfl ?_
              refine wl_pick_t rfl rfl h444 rfl ?_
              refine WL.nil ?_
              exact fun a ha => hJ174 (false) _ hF hB160 (hS161.sel [0, 1, 2, 4, 5, 6, 7, 8, 9, 10, 11] rfl) a (ha.sub ⟨rfl, rfl, rfl, rfl, rfl, rfl, rfl, rfl, rfl, rfl, rfl, rfl, rfl, rfl, rfl, rfl, rfl, rfl, rfl, rfl, rfl, rfl, rfl, trivial⟩)
        · replace hF := ifN h444 hF
          refine wl_off rfl rfl rfl h444 ?_
          refine wl_off rfl rfl rfl h444 ?_
          refine wl_off rfl rfl rfl h444 ?_
          refine wl_off rfl rfl rfl h444 ?_
          refine wl_off rfl rfl rfl h444 ?_
          refine wl_off rfl rfl rfl h444 ?_
          refine wl_off rfl rfl rfl h444 ?_
          refine wl_off rfl rfl rfl h444 ?_
          refine wl_offu rfl rfl rfl ?_
          refine wl_offu rfl rfl rfl ?_
          refine wl_offu rfl rfl rfl ?_
          refine wl_offu rfl rfl rfl ?_
          refine wl_offu rfl rfl rfl ?_
          refine wl_offu rfl rfl rfl ?_
          refine wl_offu rfl rfl rfl ?_
          refine wl_offu rfl rfl rfl ?_
          refine wl_offu rfl rfl rfl ?_
          refine wl_offu rfl rfl rfl ?_
          refine wl_offu rfl rfl rfl ?_
          refine wl_offu rfl rfl rfl ?_
          refine wl_off rfl rfl rfl h444 ?_
          refine wl_pick_f rfl rfl h444 rfl ?_
          refine WL.nil ?_
          exact fun a ha => hJ174 (false) _ hF hB160 (hS161.sel [0, 1, 2, 4, 5, 6, 7, 8, 9, 10, 11] rfl) a (ha.sub ⟨rfl, rfl, rfl, rfl, rfl, rfl, rfl, rfl, rfl, rfl, rfl, rfl, rfl, rfl, rfl, rfl, rfl, rfl, rfl, rfl, rfl, rfl, rfl, trivial⟩)
    refine W.region ?_
    refine wl_move rfl rfl ?_
    refine wl_move rfl rfl ?_
    refine wl_neqb Try.underlying4 rfl rfl rfl ?_
    refine wl_move rfl rfl ?_
    rcases bE (u18.2.2 != u25.2.2) with h455 | h455
    · replace hF := ifP h455 hF
      refine wl_off rfl rfl rfl h455 ?_
      refine wl_off rfl rfl rfl h455 ?_
      refine wl_off rfl rfl rfl h455 ?_
      refine wl_pick_t rfl rfl h455 rfl ?_
      refine wl_move rfl rfl ?_
      refine wl_off rfl rfl rfl rfl ?_
      refine wl_off rfl rfl rfl rfl ?_
      refine wl_off rfl rfl rfl rfl ?_
      refine wl_pick_t rfl rfl rfl rfl ?_
      refine wl_move rfl rfl ?_
      refine wl_off rfl rfl rfl rfl ?_
      refine wl_off rfl rfl rfl rfl ?_
      refine wl_off rfl rfl rfl rfl ?_
      refine wl_pick_t rfl rfl rfl rfl ?_
      refine wl_move rfl rfl ?_
      refine wl_off rfl rfl rfl rfl ?_
      refine wl_off rfl rfl rfl rfl ?_
      refine wl_off rfl rfl rfl rfl ?_
      refine wl_off rfl rfl rfl rfl ?_
      refine wl_pick_t rfl rfl rfl rfl ?_
      refine wl_move rfl rfl ?_
      refine wl_off rfl rfl rfl rfl ?_
      refine wl_off rfl rfl rfl rfl ?_
      refine wl_off rfl rfl rfl rfl ?_
      refine wl_pick_t rfl rfl rfl rfl ?_
      refine wl_move rfl rfl ?_
      refine wl_off rfl rfl rfl rfl ?_
      refine wl_off rfl rfl rfl rfl ?_
      refine wl_off rfl rfl rfl rfl ?_
      refine wl_pick_t rfl rfl rfl rfl ?_
      refine wl_move rfl rfl ?_
      refine wl_off rfl rfl rfl rfl ?_
      refine wl_off rfl rfl rfl rfl ?_
      refine wl_off rfl rfl rfl rfl ?_
      refine wl_pick_t rfl rfl rfl rfl ?_
      refine wl_move rfl rfl ?_
      refine wl_off rfl rfl rfl rfl ?_
      refine wl_off rfl rfl rfl rfl ?_
      refine wl_off rfl rfl rfl rfl ?_
      refine wl_pick_t rfl rfl rfl rfl ?_
      refine wl_move rfl rfl ?_
      refine wl_off rfl rfl rfl rfl ?_
      refine wl_off rfl rfl rfl rfl ?_
      refine wl_off rfl rfl rfl rfl ?_
      refine wl_pick_t rfl rfl rfl rfl ?_
      refine wl_move rfl rfl ?_
      refine wl_off rfl rfl rfl rfl ?_
      refine wl_off rfl rfl rfl rfl ?_
      refine wl_off rfl rfl rfl rfl ?_
      refine wl_off rfl rfl rfl rfl ?_
      refine wl_pick_t rfl rfl rfl rfl ?_
      refine wl_move rfl rfl ?_
      refine wl_off rfl rfl rfl rfl ?_
      refine wl_off rfl rfl rfl rfl ?_
      refine wl_off rfl rfl rfl rfl ?_
      refine wl_pick_t rfl rfl rfl rfl ?_
      refine wl_move rfl rfl ?_
      refine wl_off rfl rfl rfl rfl ?_
      refine wl_off rfl rfl rfl rfl ?_
      refine wl_off rfl rfl rfl rfl ?_
      refine wl_off rfl rfl rfl rfl ?_
      refine wl_pick_t rfl rfl rfl rfl ?_
      refine wl_move rfl rfl ?_
      refine wl_off rfl rfl rfl rfl ?_
      refine wl_off rfl rfl rfl rfl ?_
      refine wl_off rfl rfl rfl rfl ?_
      refine wl_offu rfl rfl rfl ?_
      refine wl_offu rfl rfl rfl ?_
      refine wl_offu rfl rfl rfl ?_
      refine wl_off rfl rfl rfl rfl ?_
      refine wl_off rfl rfl rfl rfl ?_
      refine wl_pick_t rfl rfl rfl rfl ?_
      refine WL.nil ?_
      exact fun a ha => hJ164 (true) _ hF hB154 (hS155.sel [14, 15, 12, 11, 8, 9, 6, 7, 4, 2, 3, 1] rfl) a (ha.sub ⟨rfl, rfl, rfl, rfl, rfl, rfl, rfl, rfl, rfl, rfl, rfl, rfl, rfl, rfl, rfl, rfl, rfl, rfl, rfl, rfl, rfl, rfl, rfl, rfl, rfl, rfl, rfl, trivial⟩)
    · replace hF := ifN h455 hF
      refine wl_on rfl rfl h455 ?_
      refine wl_move rfl rfl ?_
      refine wl_on rfl rfl h455 ?_
      refine wl_move rfl rfl ?_
      refine wl_on rfl rfl h455 ?_
      refine wl_neq rfl rfl rfl ?_
      refine wl_pick_f rfl rfl h455 rfl ?_
      refine wl_move rfl rfl ?_
      rcases bE (u18.1 != u25.1) with h456 | h456
      · replace hF := ifP h456 hF
        refine wl_off rfl rfl rfl h456 ?_
        refine wl_off rfl rfl rfl h456 ?_
        refine wl_off rfl rfl rfl h456 ?_
        refine wl_pick_t rfl rfl h456 rfl ?_
        refine wl_move rfl rfl ?_
        refine wl_off rfl rfl rfl rfl ?_
        refine wl_off rfl rfl rfl rfl ?_
        refine wl_off rfl rfl rfl rfl ?_
        refine wl_pick_t rfl rfl rfl rfl ?_
        refine wl_move rfl rfl ?_
        refine wl_off rfl rfl rfl rfl ?_
        refine wl_off rfl rfl rfl rfl ?_
        refine wl_off rfl rfl rfl rfl ?_
        refine wl_off rfl rfl rfl rfl ?_
        refine wl_pick_t rfl rfl rfl rfl ?_
        refine wl_move rfl rfl ?_
        refine wl_off rfl rfl rfl rfl ?_
        refine wl_off rfl rfl rfl rfl ?_
        refine wl_off rfl rfl rfl rfl ?_
        refine wl_pick_t rfl rfl rfl rfl ?_
        refine wl_move rfl rfl ?_
        refine wl_off rfl rfl rfl rfl ?_
        refine wl_off rfl rfl rfl rfl ?_
        refine wl_off rfl rfl rfl rfl ?_
        refine wl_pick_t rfl rfl rfl rfl ?_
        refine wl_move rfl rfl ?_
        refine wl_off rfl rfl rfl rfl ?_
        refine wl_off rfl rfl rfl rfl ?_
        refine wl_off rfl rfl rfl rfl ?_
        refine wl_pick_t rfl rfl rfl rfl ?_
        refine wl_move rfl rfl ?_
        refine wl_off rfl rfl rfl rfl ?_
        refine wl_off rfl rfl rfl rfl ?_
        refine wl_off rfl rfl rfl rfl ?_
        refine wl_pick_t rfl rfl rfl rfl ?_
        refine wl_move rfl rfl ?_
        refine wl_off rfl rfl rfl rfl ?_
        refine wl_off rfl rfl rfl rfl ?_
        refine wl_off rfl rfl rfl rfl ?_
        refine wl_pick_t rfl rfl rfl rfl ?_
        refine wl_move rfl rfl ?_
        refine wl_off rfl rfl rfl rfl ?_
        refine wl_off rfl rfl rfl rfl ?_
        refine wl_off rfl rfl rfl rfl ?_
        refine wl_off rfl rfl rfl rfl ?_
        refine wl_pick_t rfl rfl rfl rfl ?_
        refine wl_move rfl rfl ?_
        refine wl_off rfl rfl rfl rfl ?_
        refine wl_off rfl rfl rfl rfl ?_
        refine wl_off rfl rfl rfl rfl ?_
        refine wl_pick_t rfl rfl rfl rfl ?_
        refine wl_move rfl rfl ?_
        refine wl_off rfl rfl rfl rfl ?_
        refine wl_off rfl rfl rfl rfl ?_
        refine wl_off rfl rfl rfl rfl ?_
        refine wl_off rfl rfl rfl rfl ?_
        refine wl_pick_t rfl rfl rfl rfl ?_
        refine wl_move rfl rfl ?_
        refine wl_off rfl rfl rfl rfl ?_
        refine wl_off rfl rfl rfl rfl ?_
        refine wl_off rfl rfl rfl rfl ?_
        refine wl_offu rfl rfl rfl ?_
        refine wl_offu rfl rfl rfl ?_
        refine wl_offu rfl rfl rfl ?_
        refine wl_off rfl rfl rfl rfl ?_
        refine wl_off rfl rfl rfl rfl ?_
        refine wl_pick_t rfl rfl rfl rfl ?_
        refine WL.nil ?_
        exact fun a ha => hJ164 (true) _ hF hB154 (hS155.sel [14, 15, 12, 11, 8, 9, 6, 7, 4, 2, 3, 1] rfl) a (ha.sub ⟨rfl, rfl, rfl, rfl, rfl, rfl, rfl, rfl, rfl, rfl, rfl, rfl, rfl, rfl, rfl, rfl, rfl, rfl, rfl, rfl, rfl, rfl, rfl, rfl, rfl, rfl, rfl, trivial⟩)
      · replace hF := ifN h456 hF
        refine wl_on rfl rfl h456 ?_
        refine wl_move rfl rfl ?_
        refine wl_on rfl rfl h456 ?_
        refine wl_move rfl rfl ?_
        refine wl_on rfl rfl h456 ?_
        refine wl_neq rfl rfl rfl ?_
        refine wl_pick_f rfl rfl h456 rfl ?_
        refine wl_move rfl rfl ?_
        rcases bE (u18.2.1 != u25.2.1) with h457 | h457
        · replace hF := ifP h457 hF
          refine wl_off rfl rfl rfl h457 ?_
          refine wl_off rfl rfl rfl h457 ?_
          refine wl_off rfl rfl rfl h457 ?_
          refine wl_pick_t rfl rfl h457 rfl ?_
          refine wl_move rfl rfl ?_
          refine wl_off rfl rfl rfl rfl ?_
          refine wl_off rfl rfl rfl rfl ?_
          refine wl_off rfl rfl rfl rfl ?_
          refine wl_off rfl rfl rfl rfl ?_
          refine wl_pick_t rfl rfl rfl rfl ?_
          refine wl_move rfl rfl ?_
          refine wl_off rfl rfl rfl rfl ?_
          refine wl_off rfl rfl rfl rfl ?_
          refine wl_off rfl rfl rfl rfl ?_
          refine wl_pick_t rfl rfl rfl rfl ?_
          refine wl_move rfl rfl ?_
          refine wl_off rfl rfl rfl rfl ?_
          refine wl_off rfl rfl rfl rfl ?_
          refine wl_off rfl rfl rfl rfl ?_
          refine wl_pick_t rfl rfl rfl rfl ?_
          refine wl_move rfl rfl ?_
          refine wl_off rfl rfl rfl rfl ?_
          refine wl_off rfl rfl rfl rfl ?_
          refine wl_off rfl rfl rfl rfl ?_
          refine wl_pick_t rfl rfl rfl rfl ?_
          refine wl_move rfl rfl ?_
          refine wl_off rfl rfl rfl rfl ?_
          refine wl_off rfl rfl rfl rfl ?_
          refine wl_off rfl rfl rfl rfl ?_
          refine wl_pick_t rfl rfl rfl rfl ?_
          refine wl_move rfl rfl ?_
          refine wl_off rfl rfl rfl rfl ?_
          refine wl_off rfl rfl rfl rfl ?_
          refine wl_off rfl rfl rfl rfl ?_
          refine wl_pick_t rfl rfl rfl rfl ?_
          refine wl_move rfl rfl ?_
          refine wl_off rfl rfl rfl rfl ?_
          refine wl_off rfl rfl rfl rfl ?_
          refine wl_off rfl rfl rfl rfl ?_
          refine wl_off rfl rfl rfl rfl ?_
          refine wl_pick_t rfl rfl rfl rfl ?_
          refine wl_move rfl rfl ?_
          refine wl_off rfl rfl rfl rfl ?_
          refine wl_off rfl rfl rfl rfl ?_
          refine wl_off rfl rfl rfl rfl ?_
          refine wl_pick_t rfl rfl rfl rfl ?_
          refine wl_move rfl rfl ?_
          refine wl_off rfl rfl rfl rfl ?_
          refine wl_off rfl rfl rfl rfl ?_
          refine wl_off rfl rfl rfl rfl ?_
          refine wl_off rfl rfl rfl rfl ?_
          refine wl_pick_t rfl rfl rfl rfl ?_
          refine wl_move rfl rfl ?_
          refine wl_off rfl rfl rfl rfl ?_
          refine wl_off rfl rfl rfl rfl ?_
          refine wl_off rfl rfl rfl rfl ?_
          refine wl_offu rfl rfl rfl ?_
          refine wl_offu rfl rfl rfl ?_
          refine wl_offu rfl rfl rfl ?_
          refine wl_off rfl rfl rfl rfl ?_
          refine wl_off rfl rfl rfl rfl ?_
          refine wl_pick_t rfl rfl rfl rfl ?_
          refine WL.nil ?_
          exact fun a ha => hJ164 (true) _ hF hB154 (hS155.sel [14, 15, 12, 11, 8, 9, 6, 7, 4, 2, 3, 1] rfl) a (ha.sub ⟨rfl, rfl, rfl, rfl, rfl, rfl, rfl, rfl, rfl, rfl, rfl, rfl, rfl, rfl, rfl, rfl, rfl, rfl, rfl, rfl, rfl, rfl, rfl, rfl, rfl, rfl, rfl, trivial⟩)
        · replace hF := ifN h457 hF
          refine wl_on rfl rfl h457 ?_
          refine wl_move rfl rfl ?_
          refine wl_on rfl rfl h457 ?_
          refine wl_move rfl rfl ?_
          refine wl_on rfl rfl h457 ?_
          refine wl_neqb Try.underlying4 rfl rfl rfl ?_
          refine wl_pick_f rfl rfl h457 rfl ?_
          refine wl_move rfl rfl ?_
          rcases bE (u32.2 != u41.2) with h458 | h458
          · replace hF := ifP h458 hF
            refine wl_off rfl rfl rfl h458 ?_
            refine wl_off rfl rfl rfl h458 ?_
            refine wl_off rfl rfl rfl h458 ?_
            refine wl_off rfl rfl rfl h458 ?_
            refine wl_pick_t rfl rfl h458 rfl ?_
            refine wl_move rfl rfl ?_
            refine wl_off rfl rfl rfl rfl ?_
            refine wl_off rfl rfl rfl rfl ?_
            refine wl_off rfl rfl rfl rfl ?_
            refine wl_pick_t rfl rfl rfl rfl ?_
            refine wl_move rfl rfl ?_
            refine wl_off rfl rfl rfl rfl ?_
            refine wl_off rfl rfl rfl rfl ?_
            refine wl_off rfl rfl rfl rfl ?_
            refine wl_pick_t rfl rfl rfl rfl ?_
            refine wl_move rfl rfl ?_
            refine wl_off rfl rfl rfl rfl ?_
            refine wl_off rfl rfl rfl rfl ?_
            refine wl_off rfl rfl rfl rfl ?_
            refine wl_pick_t rfl rfl rfl rfl ?_
            refine wl_move rfl rfl ?_
            refine wl_off rfl rfl rfl rfl ?_
            refine wl_off rfl rfl rfl rfl ?_
            refine wl_off rfl rfl rfl rfl ?_
            refine wl_pick_t rfl rfl rfl rfl ?_
            refine wl_move rfl rfl ?_
            refine wl_off rfl rfl rfl rfl ?_
            refine wl_off rfl rfl rfl rfl ?_
            refine wl_off rfl rfl rfl rfl ?_
            refine wl_pick_t rfl rfl rfl rfl ?_
            refine wl_move rfl rfl ?_
            refine wl_off rfl rfl rfl rfl ?_
            refine wl_off rfl rfl rfl rfl ?_
            refine wl_off rfl rfl rfl rfl ?_
            refine wl_off rfl rfl rfl rfl ?_
            refine wl_pick_t rfl rfl rfl rfl ?_
            refine wl_move rfl rfl ?_
            refine wl_off rfl rfl rfl rfl ?_
            refine wl_off rfl rfl rfl rfl ?_
            refine wl_off rfl rfl rfl rfl ?_
            refine wl_pick_t rfl rfl rfl rfl ?_
            refine wl_move rfl rfl ?_
            refine wl_off rfl rfl rfl rfl ?_
            refine wl_off rfl rfl rfl rfl ?_
            refine wl_off rfl rfl rfl rfl ?_
            refine wl_off rfl rfl rfl rfl ?_
            refine wl_pick_t rfl rfl rfl rfl ?_
            refine wl_move rfl rfl ?_
            refine wl_off rfl rfl rfl rfl ?_
            refine wl_off rfl rfl rfl rfl ?_
            refine wl_off rfl rfl rfl rfl ?_
            refine wl_offu rfl rfl rfl ?_
            refine wl_offu rfl rfl rfl ?_
            refine wl_offu rfl rfl rfl ?_
            refine wl_off rfl rfl rfl rfl ?_
            refine wl_off rfl rfl rfl rfl ?_
            refine wl_pick_t rfl rfl rfl rfl ?_
            refine WL.nil ?_
            exact fun a ha => hJ164 (true) _ hF hB154 (hS155.sel [14, 15, 12, 11, 8, 9, 6, 7, 4, 2, 3, 1] rfl) a (ha.sub ⟨rfl, rfl, rfl, rfl, rfl, rfl, rfl, rfl, rfl, rfl, rfl, rfl, rfl, rfl, rfl, rfl, rfl, rfl, rfl, rfl, rfl, rfl, rfl, rfl, rfl, rfl, rfl, trivial⟩)
          · replace hF := ifN h458 hF
            refine wl_on rfl rfl h458 ?_
            refine wl_move rfl rfl ?_
            refine wl_on rfl rfl h458 ?_
            refine wl_move rfl rfl ?_
            refine wl_on rfl rfl h458 ?_
            obtain ⟨u459, hu459, hF⟩ := bindE hF
            refine wl_call rfl Try.call26 (C_laws_qInts w152 u32.1 v33 (hS155.own_ro (i := 13) rfl) u41.1 v42 (hS155.own_ro (i := 12) rfl) _ hu459) rfl ?_
            rintro _ w460 ⟨rfl, hb461⟩
            refine ⟨_, rfl, ?_⟩
            have hB462 := hB154.trans (hb461.mono hB154.size)
            have hS463 := hS155.below hb461
            refine wl_on rfl rfl h458 ?_
            refine wl_not rfl rfl ?_
            refine wl_pick_f rfl rfl h458 rfl ?_
            refine wl_move rfl rfl ?_
            rcases bE (!u459) with h465 | h465
            · replace hF := ifP h465 hF
              refine wl_off rfl rfl rfl h465 ?_
              refine wl_off rfl rfl rfl h465 ?_
              refine wl_off rfl rfl rfl h465 ?_
              refine wl_pick_t rfl rfl h465 rfl ?_
              refine wl_move rfl rfl ?_
              refine wl_off rfl rfl rfl rfl ?_
              refine wl_off rfl rfl rfl rfl ?_
              refine wl_off rfl rfl rfl rfl ?_
              refine wl_pick_t rfl rfl rfl rfl ?_
              refine wl_move rfl rfl ?_
              refine wl_off rfl rfl rfl rfl ?_
              refine wl_off rfl rfl rfl rfl ?_
              refine wl_off rfl rfl rfl rfl ?_
              refine wl_pick_t rfl rfl rfl rfl ?_
              refine wl_move rfl rfl ?_
              refine wl_off rfl rfl rfl rfl ?_
              refine wl_off rfl rfl rfl rfl ?_
              refine wl_off rfl rfl rfl rfl ?_
              refine wl_pick_t rfl rfl rfl rfl ?_
              refine wl_move rfl rfl ?_
              refine wl_off rfl rfl rfl rfl ?_
              refine wl_off rfl rfl rfl rfl ?_
              refine wl_off rfl rfl rfl rfl ?_
              refine wl_pick_t rfl rfl rfl rfl ?_
              refine wl_move rfl rfl ?_
              refine wl_off rfl rfl rfl rfl ?_
              refine wl_off rfl rfl rfl rfl ?_
              refine wl_off rfl rfl rfl rfl ?_
              refine wl_off rfl rfl rfl rfl ?_
              refine wl_pick_t rfl rfl rfl rfl ?_
              refine wl_move rfl rfl ?_
              refine wl_off rfl rfl rfl rfl ?_
              refine wl_off rfl rfl rfl rfl ?_
              refine wl_off rfl rfl rfl rfl ?_
              refine wl_pick_t rfl rfl rfl rfl ?_
              refine wl_move rfl rfl ?_
              refine wl_off rfl rfl rfl rfl ?_
              refine wl_off rfl rfl rfl rfl ?_
              refine wl_off rfl rfl rfl rfl ?_
              refine wl_off rfl rfl rfl rfl ?_
              refine wl_pick_t rfl rfl rfl rfl ?_
              refine wl_move rfl rfl ?_
              refine wl_off rfl rfl rfl rfl ?_
              refine wl_off rfl rfl rfl rfl ?_
              refine wl_off rfl rfl rfl rfl ?_
              refine wl_offu rfl rfl rfl ?_
              refine wl_offu rfl rfl rfl ?_
              refine wl_offu rfl rfl rfl ?_
              refine wl_off rfl rfl rfl rfl ?_
              refine wl_off rfl rfl rfl rfl ?_
              refine wl_pick_t rfl rfl rfl rfl ?_
              refine WL.nil ?_
              exact fun a ha => hJ164 (true) _ hF hB462 (hS463.sel [14, 15, 12, 11, 8, 9, 6, 7, 4, 2, 3, 1] rfl) a (ha.sub ⟨rfl, rfl, rfl, rfl, rfl, rfl, rfl, rfl, rfl, rfl, rfl, rfl, rfl, rfl, rfl, rfl, rfl, rfl, rfl, rfl, rfl, rfl, rfl, rfl, rfl, rfl, rfl, trivial⟩)
            · replace hF := ifN h465 hF
              refine wl_on rfl rfl h465 ?_
              refine wl_move rfl rfl ?_
              refine wl_on rfl rfl h465 ?_
              refine wl_move rfl rfl ?_
              refine wl_on rfl rfl h465 ?_
              refine wl_neqb Try.underlying4 rfl rfl rfl ?_
              refine wl_pick_f rfl rfl h465 rfl ?_
              refine wl_move rfl rfl ?_
              rcases bE (u61.2 != u68.2) with h466 | h466
              · replace hF := ifP h466 hF
                refine wl_off rfl rfl rfl h466 ?_
                refine wl_off rfl rfl rfl h466 ?_
                refine wl_off rfl rfl rfl h466 ?_
                refine wl_pick_t rfl rfl h466 rfl ?_
                refine wl_move rfl rfl ?_
                refine wl_off rfl rfl rfl rfl ?_
                refine wl_off rfl rfl rfl rfl ?_
                refine wl_off rfl rfl rfl rfl ?_
                refine wl_pick_t rfl rfl rfl rfl ?_
                refine wl_move rfl rfl ?_
                refine wl_off rfl rfl rfl rfl ?_
                refine wl_off rfl rfl rfl rfl ?_
                refine wl_off rfl rfl rfl rfl ?_
                refine wl_pick_t rfl rfl rfl rfl ?_
                refine wl_move rfl rfl ?_
                refine wl_off rfl rfl rfl rfl ?_
                refine wl_off rfl rfl rfl rfl ?_
                refine wl_off rfl rfl rfl rfl ?_
                refine wl_pick_t rfl rfl rfl rfl ?_
                refine wl_move rfl rfl ?_
                refine wl_off rfl rfl rfl rfl ?_
                refine wl_off rfl rfl rfl rfl ?_
                refine wl_off rfl rfl rfl rfl ?_
                refine wl_off rfl rfl rfl rfl ?_
                refine wl_pick_t rfl rfl rfl rfl ?_
                refine wl_move rfl rfl ?_
                refine wl_off rfl rfl rfl rfl ?_
                refine wl_off rfl rfl rfl rfl ?_
                refine wl_off rfl rfl rfl rfl ?_
                refine wl_pick_t rfl rfl rfl rfl ?_
                refine wl_move rfl rfl ?_
                refine wl_off rfl rfl rfl rfl ?_
                refine wl_off rfl rfl rfl rfl ?_
                refine wl_off rfl rfl rfl rfl ?_
                refine wl_off rfl rfl rfl rfl ?_
                refine wl_pick_t rfl rfl rfl rfl ?_
                refine wl_move rfl rfl ?_
                refine wl_off rfl rfl rfl rfl ?_
                refine wl_off rfl rfl rfl rfl ?_
                refine wl_off rfl rfl rfl rfl ?_
                refine wl_offu rfl rfl rfl ?_
                refine wl_offu rfl rfl rfl ?_
                refine wl_offu rfl rfl rfl ?_
                refine wl_off rfl rfl rfl rfl ?_
                refine wl_off rfl rfl rfl rfl ?_
                refine wl_pick_t rfl rfl rfl rfl ?_
                refine WL.nil ?_
                exact fun a ha => hJ164 (true) _ hF hB462 (hS463.sel [14, 15, 12, 11, 8, 9, 6, 7, 4, 2, 3, 1] rfl) a (ha.sub ⟨rfl, rfl, rfl, rfl, rfl, rfl, rfl, rfl, rfl, rfl, rfl, rfl, rfl, rfl, rfl, rfl, rfl, rfl, rfl, rfl, rfl, rfl, rfl, rfl, rfl, rfl, rfl, trivial⟩)
              · replace hF := ifN h466 hF
                refine wl_on rfl rfl h466 ?_
                refine wl_move rfl rfl ?_
                refine wl_on rfl rfl h466 ?_
                refine wl_move rfl rfl ?_
                refine wl_on rfl rfl h466 ?_
                refine wl_neq rfl rfl rfl ?_
                refine wl_pick_f rfl rfl h466 rfl ?_
                refine wl_move rfl rfl ?_
                rcases bE (u61.1 != u68.1) with h467 | h467
                · replace hF := ifP h467 hF
                  refine wl_off rfl rfl rfl h467 ?_
                  refine wl_off rfl rfl rfl h467 ?_
                  refine wl_off rfl rfl rfl h467 ?_
                  refine wl_pick_t rfl rfl h467 rfl ?_
                  refine wl_move rfl rfl ?_
                  refine wl_off rfl rfl rfl rfl ?_
                  refine wl_off rfl rfl rfl rfl ?_
                  refine wl_off rfl rfl rfl rfl ?_
                  refine wl_pick_t rfl rfl rfl rfl ?_
                  refine wl_move rfl rfl ?_
                  refine wl_off rfl rfl rfl rfl ?_
                  refine wl_off rfl rfl rfl rfl ?_
                  refine wl_off rfl rfl rfl rfl ?_
                  refine wl_pick_t rfl rfl rfl rfl ?_
                  refine wl_move rfl rfl ?_
                  refine wl_off rfl rfl rfl rfl ?_
                  refine wl_off rfl rfl rfl rfl ?_
                  refine wl_off rfl rfl rfl rfl ?_
                  refine wl_off rfl rfl rfl rfl ?_
                  refine wl_pick_t rfl rfl rfl rfl ?_
                  refine wl_move rfl rfl ?_
                  refine wl_off rfl rfl rfl rfl ?_
                  refine wl_off rfl rfl rfl rfl ?_
                  refine wl_off rfl rfl rfl rfl ?_
                  refine wl_pick_t rfl rfl rfl rfl ?_
                  refine wl_move rfl rfl ?_
                  refine wl_off rfl rfl rfl rfl ?_
                  refine wl_off rfl rfl rfl rfl ?_
                  refine wl_off rfl rfl rfl rfl ?_
                  refine wl_off rfl rfl rfl rfl ?_
                  refine wl_pick_t rfl rfl rfl rfl ?_
                  refine wl_move rfl rfl ?_
                  refine wl_off rfl rfl rfl rfl ?_
                  refine wl_off rfl rfl rfl rfl ?_
                  refine wl_off rfl rfl rfl rfl ?_
                  refine wl_offu rfl rfl rfl ?_
                  refine wl_offu rfl rfl rfl ?_
                  refine wl_offu rfl rfl rfl ?_
                  refine wl_off rfl rfl rfl rfl ?_
                  refine wl_off rfl rfl rfl rfl ?_
                  refine wl_pick_t rfl rfl rfl rfl ?_
                  refine WL.nil ?_
                  exact fun a ha => hJ164 (true) _ hF hB462 (hS463.sel [14, 15, 12, 11, 8, 9, 6, 7, 4, 2, 3, 1] rfl) a (ha.sub ⟨rfl, rfl, rfl, rfl, rfl, rfl, rfl, rfl, rfl, rfl, rfl, rfl, rfl, rfl, rfl, rfl, rfl, rfl, rfl, rfl, rfl, rfl, rfl, rfl, rfl, rfl, rfl, trivial⟩)
                · replace hF := ifN h467 hF
                  refine wl_on rfl rfl h467 ?_
                  refine wl_move rfl rfl ?_
                  refine wl_on rfl rfl h467 ?_
                  refine wl_move rfl rfl ?_
                  refine wl_on rfl rfl h467 ?_
                  refine wl_neqb Try.underlying4 rfl rfl rfl ?_
                  refine wl_pick_f rfl rfl h467 rfl ?_
                  refine wl_move rfl rfl ?_
                  rcases bE (u86.2 != u93.2) with h468 | h468
                  · replace hF := ifP h468 hF
                    refine wl_off rfl rfl rfl h468 ?_
                    refine wl_off rfl rfl rfl h468 ?_
                    refine wl_off rfl rfl rfl h468 ?_
                    refine wl_pick_t rfl rfl h468 rfl ?_
                    refine wl_move rfl rfl ?_
                    refine wl_off rfl rfl rfl rfl ?_
                    refine wl_off rfl rfl rfl rfl ?_
                    refine wl_off rfl rfl rfl rfl ?_
                    refine wl_pick_t rfl rfl rfl rfl ?_
                    refine wl_move rfl rfl ?_
                    refine wl_off rfl rfl rfl rfl ?_
                    refine wl_off rfl rfl rfl rfl ?_
                    refine wl_off rfl rfl rfl rfl ?_
                    refine wl_off rfl rfl rfl rfl ?_
                    refine wl_pick_t rfl rfl rfl rfl ?_
                    refine wl_move rfl rfl ?_
                    refine wl_off rfl rfl rfl rfl ?_
                    refine wl_off rfl rfl rfl rfl ?_
                    refine wl_off rfl rfl rfl rfl ?_
                    refine wl_pick_t rfl rfl rfl rfl ?_
                    refine wl_move rfl rfl ?_
                    refine wl_off rfl rfl rfl rfl ?_
                    refine wl_off rfl rfl rfl rfl ?_
                    refine wl_off rfl rfl rfl rfl ?_
                    refine wl_off rfl rfl rfl rfl ?_
                    refine wl_pick_t rfl rfl rfl rfl ?_
                    refine wl_move rfl rfl ?_
                    refine wl_off rfl rfl rfl rfl ?_
                    refine wl_off rfl rfl rfl rfl ?_
                    refine wl_off rfl rfl rfl rfl ?_
                    refine wl_offu rfl rfl rfl ?_
                    refine wl_offu rfl rfl rfl ?_
                    refine wl_offu rfl rfl rfl ?_
                    refine wl_off rfl rfl rfl rfl ?_
                    refine wl_off rfl rfl rfl rfl ?_
                    refine wl_pick_t rfl rfl rfl rfl ?_
                    refine WL.nil ?_
                    exact fun a ha => hJ164 (true) _ hF hB462 (hS463.sel [14, 15, 12, 11, 8, 9, 6, 7, 4, 2, 3, 1] rfl) a (ha.sub ⟨rfl, rfl, rfl, rfl, rfl, rfl, rfl, rfl, rfl, rfl, rfl, rfl, rfl, rfl, rfl, rfl, rfl, rfl, rfl, rfl, rfl, rfl, rfl, rfl, rfl, rfl, rfl, trivial⟩)
                  · replace hF := ifN h468 hF
                    refine wl_on rfl rfl h468 ?_
                    refine wl_move rfl rfl ?_
                    refine wl_on rfl rfl h468 ?_
                    refine wl_move rfl rfl ?_
                    refine wl_on rfl rfl h468 ?_
                    refine wl_neq rfl rfl rfl ?_
                    refine wl_pick_f rfl rfl h468 rfl ?_
                    refine wl_move rfl rfl ?_
                    rcases bE (u86.1 != u93.1) with h469 | h469
                    · replace hF := ifP h469 hF
                      refine wl_off rfl rfl rfl h469 ?_
                      refine wl_off rfl rfl rfl h469 ?_
                      refine wl_off rfl rfl rfl h469 ?_
                      refine wl_pick_t rfl rfl h469 rfl ?_
                      refine wl_move rfl rfl ?_
                      refine wl_off rfl rfl rfl rfl ?_
                      refine wl_off rfl rfl rfl rfl ?_
                      refine wl_off rfl rfl rfl rfl ?_
                      refine wl_off rfl rfl rfl rfl ?_
                      refine wl_pick_t rfl rfl rfl rfl ?_
                      refine wl_move rfl rfl ?_
                      refine wl_off rfl rfl rfl rfl ?_
                      refine wl_off rfl rfl rfl rfl ?_
                      refine wl_off rfl rfl rfl rfl ?_
                      refine wl_pick_t rfl rfl rfl rfl ?_
                      refine wl_move rfl rfl ?_
                      refine wl_off rfl rfl rfl rfl ?_
                      refine wl_off rfl rfl rfl rfl ?_
                      refine wl_off rfl rfl rfl rfl ?_
                      refine wl_off rfl rfl rfl rfl ?_
                      refine wl_pick_t rfl rfl rfl rfl ?_
                      refine wl_move rfl rfl ?_
                      refine wl_off rfl rfl rfl rfl ?_
                      refine wl_off rfl rfl rfl rfl ?_
                      refine wl_off rfl rfl rfl rfl ?_
                      refine wl_offu rfl rfl rfl ?_
                      refine wl_offu rfl rfl rfl ?_
                      refine wl_offu rfl rfl rfl ?_
                      refine wl_off rfl rfl rfl rfl ?_
                      refine wl_off rfl rfl rfl rfl ?_
                      refine wl_pick_t rfl rfl rfl rfl ?_
                      refine WL.nil ?_
                      exact fun a ha => hJ164 (true) _ hF hB462 (hS463.sel [14, 15, 12, 11, 8, 9, 6, 7, 4, 2, 3, 1] rfl) a (ha.sub ⟨rfl, rfl, rfl, rfl, rfl, rfl, rfl, rfl, rfl, rfl, rfl, rfl, rfl, rfl, rfl, rfl, rfl, rfl, rfl, rfl, rfl, rfl, rfl, rfl, rfl, rfl, rfl, trivial⟩)
                    · replace hF := ifN h469 hF
                      refine wl_on rfl rfl h469 ?_
                      refine wl_move rfl rfl ?_
                      refine wl_on rfl rfl h469 ?_
                      refine wl_move rfl rfl ?_
                      refine wl_on rfl rfl h469 ?_
                      refine wl_neqb Try.underlying4 rfl rfl rfl ?_
                      refine wl_pick_f rfl rfl h469 rfl ?_
                      refine wl_move rfl rfl ?_
                      rcases bE (u111.2 != u120.2) with h470 | h470
                      · replace hF := ifP h470 hF
                        refine wl_off rfl rfl rfl h470 ?_
                        refine wl_off rfl rfl rfl h470 ?_
                        refine wl_off rfl rfl rfl h470 ?_
                        refine wl_off rfl rfl rfl h470 ?_
                        refine wl_pick_t rfl rfl h470 rfl ?_
                        refine wl_move rfl rfl ?_
                        refine wl_off rfl rfl rfl rfl ?_
                        refine wl_off rfl rfl rfl rfl ?_
                        refine wl_off rfl rfl rfl rfl ?_
                        refine wl_pick_t rfl rfl rfl rfl ?_
                        refine wl_move rfl rfl ?_
                        refine wl_off rfl rfl rfl rfl ?_
                        refine wl_off rfl rfl rfl rfl ?_
                        refine wl_off rfl rfl rfl rfl ?_
                        refine wl_off rfl rfl rfl rfl ?_
                        refine wl_pick_t rfl rfl rfl rfl ?_
                        refine wl_move rfl rfl ?_
                        refine wl_off rfl rfl rfl rfl ?_
                        refine wl_off rfl rfl rfl rfl ?_
                        refine wl_off rfl rfl rfl rfl ?_
                        refine wl_offu rfl rfl rfl ?_
                        refine wl_offu rfl rfl rfl ?_
                        refine wl_offu rfl rfl rfl ?_
                        refine wl_off rfl rfl rfl rfl ?_
                        refine wl_off rfl rfl rfl rfl ?_
                        refine wl_pick_t rfl rfl rfl rfl ?_
                        refine WL.nil ?_
                        exact fun a ha => hJ164 (true) _ hF hB462 (hS463.sel [14, 15, 12, 11, 8, 9, 6, 7, 4, 2, 3, 1] rfl) a (ha.sub ⟨rfl, rfl, rfl, rfl, rfl, rfl, rfl, rfl, rfl, rfl, rfl, rfl, rfl, rfl, rfl, rfl, rfl, rfl, rfl, rfl, rfl, rfl, rfl, rfl, rfl, rfl, rfl, trivial⟩)
                      · replace hF := ifN h470 hF
                        refine wl_on rfl rfl h470 ?_
                        refine wl_move rfl rfl ?_
                        refine wl_on rfl rfl h470 ?_
                        refine wl_move rfl rfl ?_
                        refine wl_on rfl rfl h470 ?_
                        obtain ⟨u471, hu471, hF⟩ := bindE hF
                        refine wl_call rfl Try.call26 (C_laws_qInts w460 u111.1 v112 (hS463.own_ro (i := 5) rfl) u120.1 v121 (hS463.own_ro (i := 4) rfl) _ hu471) rfl ?_
                        rintro _ w472 ⟨rfl, hb473⟩
                        refine ⟨_, rfl, ?_⟩
                        have hB474 := hB462.trans (hb473.mono hB462.size)
                        have hS475 := hS463.below hb473
                        refine wl_on rfl rfl h470 ?_
                        refine wl_not rfl rfl ?_
                        refine wl_pick_f rfl rfl h470 rfl ?_
                        refine wl_move rfl rfl ?_
                        rcases bE (!u471) with h477 | h477
                        · replace hF := ifP h477 hF
                          refine wl_off rfl rfl rfl h477 ?_
                          refine wl_off rfl rfl rfl h477 ?_
                          refine wl_off rfl rfl rfl h477 ?_
                          refine wl_pick_t rfl rfl h477 rfl ?_
                          refine wl_move rfl rfl ?_
                          refine wl_off rfl rfl rfl rfl ?_
                          refine wl_off rfl rfl rfl rfl ?_
                          refine wl_off rfl rfl rfl rfl ?_
                          refine wl_off rfl rfl rfl rfl ?_
                          refine wl_pick_t rfl rfl rfl rfl ?_
                          refine wl_move rfl rfl ?_
                          refine wl_off rfl rfl rfl rfl ?_
                          refine wl_off rfl rfl rfl rfl ?_
                          refine wl_off rfl rfl rfl rfl ?_
                          refine wl_offu rfl rfl rfl ?_
                          refine wl_offu rfl rfl rfl ?_
                          refine wl_offu rfl rfl rfl ?_
                          refine wl_off rfl rfl rfl rfl ?_
                          refine wl_off rfl rfl rfl rfl ?_
                          refine wl_pick_t rfl rfl rfl rfl ?_
                          refine WL.nil ?_
                          exact fun a ha => hJ164 (true) _ hF hB474 (hS475.sel [14, 15, 12, 11, 8, 9, 6, 7, 4, 2, 3, 1] rfl) a (ha.sub ⟨rfl, rfl, rfl, rfl, rfl, rfl, rfl, rfl, rfl, rfl, rfl, rfl, rfl, rfl, rfl, rfl, rfl, rfl, rfl, rfl, rfl, rfl, rfl, rfl, rfl, rfl, rfl, trivial⟩)
                        · replace hF := ifN h477 hF
                          refine wl_on rfl rfl h477 ?_
                          refine wl_move rfl rfl ?_
                          refine wl_on rfl rfl h477 ?_
                          refine wl_move rfl rfl ?_
                          refine wl_on rfl rfl h477 ?_
                          refine wl_neqb Try.underlying4 rfl rfl rfl ?_
                          refine wl_pick_f rfl rfl h477 rfl ?_
                          refine wl_move rfl rfl ?_
                          rcases bE (u140.2 != u149.2) with h478 | h478
                          · replace hF := ifP h478 hF
                            refine wl_off rfl rfl rfl h478 ?_
                            refine wl_off rfl rfl rfl h478 ?_
                            refine wl_off rfl rfl rfl h478 ?_
                            refine wl_off rfl rfl rfl h478 ?_
                            refine wl_pick_t rfl rfl h478 rfl ?_
                            refine wl_move rfl rfl ?_
                            refine wl_off rfl rfl rfl rfl ?_
                            refine wl_off rfl rfl rfl rfl ?_
                            refine wl_off rfl rfl rfl rfl ?_
                            refine wl_offu rfl rfl rfl ?_
                            refine wl_offu rfl rfl rfl ?_
                            refine wl_offu rfl rfl rfl ?_
                            refine wl_off rfl rfl rfl rfl ?_
                            refine wl_off rfl rfl rfl rfl ?_
                            refine wl_pick_t rfl rfl rfl rfl ?_
                            refine WL.nil ?_
                            exact fun a ha => hJ164 (true) _ hF hB474 (hS475.sel [14, 15, 12, 11, 8, 9, 6, 7, 4, 2, 3, 1] rfl) a (ha.sub ⟨rfl, rfl, rfl, rfl, rfl, rfl, rfl, rfl, rfl, rfl, rfl, rfl, rfl, rfl, rfl, rfl, rfl, rfl, rfl, rfl, rfl, rfl, rfl, rfl, rfl, rfl, rfl, trivial⟩)
                          · replace hF := ifN h478 hF
                            refine wl_on rfl rfl h478 ?_
                            refine wl_move rfl rfl ?_
                            refine wl_on rfl rfl h478 ?_
                            refine wl_move rfl rfl ?_
                            refine wl_on rfl rfl h478 ?_
                            obtain ⟨u479, hu479, hF⟩ := bindE hF
                            refine wl_call rfl Try.call27 (C_laws_qCues w472 u140.1 v141 (hS475.own_ro (i := 1) rfl) u149.1 v150 (hS475.own_ro (i := 0) rfl) _ hu479) rfl ?_
                            rintro _ w480 ⟨rfl, hb481⟩
                            refine ⟨_, rfl, ?_⟩
                            have hB482 := hB474.trans (hb481.mono hB474.size)
                            have hS483 := hS475.below hb481
                            refine wl_on rfl rfl h478 ?_
                            refine wl_not rfl rfl ?_
                            refine wl_pick_f rfl rfl h478 rfl ?_
                            refine wl_move rfl rfl ?_
                            rcases bE (!u479) with h485 | h485
                            · replace hF := ifP h485 hF
                              refine wl_off rfl rfl rfl h485 ?_
                              refine wl_off rfl rfl rfl h485 ?_
                              refine wl_off rfl rfl rfl h485 ?_
                              refine wl_offu rfl rfl rfl ?_
                              refine wl_offu rfl rfl rfl ?_
                              refine wl_offu rfl rfl rfl ?_
                              refine wl_off rfl rfl rfl h485 ?_
                              refine wl_off rfl rfl rfl h485 ?_
                              refine wl_pick_t rfl rfl h485 rfl ?_
                              refine WL.nil ?_
                              exact fun a ha => hJ164 (true) _ hF hB482 (hS483.sel [14, 15, 12, 11, 8, 9, 6, 7, 4, 2, 3, 1] rfl) a (ha.sub ⟨rfl, rfl, rfl, rfl, rfl, rfl, rfl, rfl, rfl, rfl, rfl, rfl, rfl, rfl, rfl, rfl, rfl, rfl, rfl, rfl, rfl, rfl, rfl, rfl, rfl, rfl, rfl, trivial⟩)
                            · replace hF := ifN h485 hF
                              refine wl_on rfl rfl h485 ?_
                              refine wl_move rfl rfl ?_
                              refine wl_on rfl rfl h485 ?_
                              refine wl_move rfl rfl ?_
                              refine wl_on rfl rfl h485 ?_
                              refine wl_move rfl rfl ?_
                              rcases bE u32.2 with h486 | h486
                              · replace hF := ifP h486 hF
                                refine wl_on rfl rfl h486 ?_
                                refine wl_move rfl rfl ?_
                                refine wl_on rfl rfl h486 ?_
                                refine wl_lenr (e := ty_44) (l := u7.2) Try.underlying24 rfl rfl (hS483.own_ro (i := 15) rfl) ?_
                                refine wl_on rfl rfl h486 ?_
                                refine wl_gtr rfl rfl rfl ?_
                                refine wl_on rfl rfl h485 ?_
                                refine wl_pick_t rfl rfl h486 rfl ?_
                                refine wl_on rfl rfl h485 ?_
                                refine wl_neqb Try.underlying4 rfl rfl rfl ?_
                                refine wl_pick_f rfl rfl h485 rfl ?_
                                refine WL.nil ?_
                                exact fun a ha => hJ164 ((u18.2.2 != (decide (0 < (List.length u7.2 : Int))))) _ hF hB482 (hS483.sel [14, 15, 12, 11, 8, 9, 6, 7, 4, 2, 3, 1] rfl) a (ha.sub ⟨rfl, rfl, rfl, rfl, rfl, rfl, rfl, rfl, rfl, rfl, rfl, rfl, rfl, rfl, rfl, rfl, rfl, rfl, rfl, rfl, rfl, rfl, rfl, rfl, rfl, rfl, rfl, trivial⟩)
                              · replace hF := ifN h486 hF
                                refine wl_off rfl rfl rfl h486 ?_
                                refine wl_off rfl rfl rfl h486 ?_
                                refine wl_off rfl rfl rfl h486 ?_
                                refine wl_on rfl rfl h485 ?_
                                refine wl_pick_f rfl rfl h486 rfl ?_
                                refine wl_on rfl rfl h485 ?_
                                refine wl_neqb Try.underlying4 rfl rfl rfl ?_
                                refine wl_pick_f rfl rfl h485 rfl ?_
                                refine WL.nil ?_
                                exact fun a ha => hJ164 ((u18.2.2 != false)) _ hF hB482 (hS483.sel [14, 15, 12, 11, 8, 9, 6, 7, 4, 2, 3, 1] rfl) a (ha.sub ⟨rfl, rfl, rfl, rfl, rfl, rfl, rfl, rfl, rfl, rfl, rfl, rfl, rfl, rfl, rfl, rfl, rfl, rfl, rfl, rfl, rfl, rfl, rfl, rfl, rfl, rfl, rfl, trivial⟩)
end Go.Proofs.Ytmkignciedkidaa
