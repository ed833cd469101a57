/-
  THE WALKS of functions of this seat, by program (gen.py).
-/
import Derived.Test.YtmbhdelegdhieaaH
import Derived.Test.YtmbhdelegdhieaaWFnExactDifferentCharts
import Derived.Test.YtmbhdelegdhieaaWFnExactIsShow
import Derived.Test.YtmbhdelegdhieaaWFnExactLastCueAt
import Derived.Test.YtmbhdelegdhieaaWFnExactShiftCues
set_option linter.unusedSimpArgs false
set_option linter.unusedVariables false
set_option maxRecDepth 100000
namespace Go.Proofs.Ytmbhdelegdhieaa
open Go Go.RowKit
theorem C_spec_CueTimes (w0 : World) (x0 : (List (Int × Int))) (v0_0 : Value) (h0_0 : rdS ty_93 (· < w0.heap.size) w0 v0_0 x0) (x1 : (List (Int × (List UInt8)))) (v1_0 : Value) (h1_0 : rdS ty_56 (· < w0.heap.size) w0 v1_0 x1) (r : ((List Int) × Bool)) (hF : F_spec_CueTimes x0 x1 = some r) :
    Calls Try.prog 50 [v0_0, v1_0].toArray w0 fun e w' => ∃ (q0 : Value) (G0 : List Nat), e = .returned (.tuple #[q0, (.bool r.2)]) ∧ Below w0.heap.size w0 w' ∧ Sep w0.heap.size w' [R.own ty_3 G0 q0 r.1] := by
  refine calls_mk' Try.func50 rfl Try.ntmps50 rfl rfl fun Q hQ hP => ?_
  have hB : Below w0.heap.size w0 w0 := Below.refl _ _
  have hS : Sep w0.heap.size w0 [] := Sep.nil _ _
  unfold F_spec_CueTimes at hF
  refine W.seq fun K1 hK1 => ?_
  refine W.region ?_
  refine wl_assign rfl rfl ?_
  refine wl_assign rfl rfl ?_
  refine WL.nil ?_
  refine fun a ha => hK1 _ _ ?_ a ha
  refine W.seq fun K2 hK2 => ?_
  refine W.seq fun K3 hK3 => ?_
  refine W.region ?_
  refine wl_move rfl rfl ?_
  refine wl_move rfl rfl ?_
  obtain ⟨u4, hu4, hF⟩ := bindE hF
  refine wl_call rfl Try.call71 (C_spec_tiGood w0 x0 v0_0 (h0_0.ro hB) x1 v1_0 (h1_0.ro hB) _ hu4) rfl ?_
  rintro _ w5 ⟨rfl, hb6⟩
  refine ⟨_, rfl, ?_⟩
  have hB7 := hB.trans (hb6.mono hB.size)
  have hS8 := hS.below hb6
  refine wl_not rfl rfl ?_
  refine WL.nil ?_
  refine fun a ha => hK3 _ _ ?_ a ha
  refine W.cond rfl (fun h10 => ?_) (fun h10 => ?_)
  · replace hF := ifP h10 hF
    refine W.seq fun K11 hK11 => ?_
    refine W.region ?_
    refine wl_assign rfl rfl ?_
    refine wl_assign rfl rfl ?_
    refine WL.nil ?_
    refine fun a ha => hK11 _ _ ?_ a ha
    refine W.ret ?_
    have hS12 := hS8.push0 (r := R.own ty_3 [] (.slice none 0 0) []) rfl fun _ => .inl ⟨rfl, rfl, rfl⟩
    have hr := Option.some.inj hF
    subst hr
    exact rets (vs := [(.slice none 0 0), (.bool false)]) hQ rfl ⟨rv_tmp rfl, rv_tmp rfl, trivial⟩ ⟨(.slice none 0 0), [], rfl, hB7, hS12.sel [0] rfl⟩
  · replace hF := ifN h10 hF
    refine W.skip ?_
    refine fun a ha => hK2 _ _ ?_ a ha
    refine W.seq fun K13 hK13 => ?_
    refine W.region ?_
    refine wl_move rfl rfl ?_
    refine wl_move rfl rfl ?_
    obtain ⟨u14, hu14, hF⟩ := bindE hF
    refine wl_call rfl Try.call73 (C_spec_tiTimes w5 x0 v0_0 (h0_0.ro hB7) x1 v1_0 (h1_0.ro hB7) _ hu14) rfl ?_
    rintro _ w17 ⟨v15, F16, rfl, hb18, hM21⟩
    refine ⟨_, rfl, ?_⟩
    have hB19 := hB7.trans (hb18.mono hB7.size)
    have hS20 := hS8.join hb18 hM21 hB7.size
    refine wl_assign rfl rfl ?_
    refine wl_assign rfl rfl ?_
    refine WL.nil ?_
    refine fun a ha => hK13 _ _ ?_ a ha
    refine W.ret ?_
    have hr := Option.some.inj hF
    subst hr
    exact rets (vs := [v15, (.bool true)]) hQ rfl ⟨rv_tmp rfl, rv_tmp rfl, trivial⟩ ⟨v15, F16, rfl, hB19, hS20.sel [0] rfl⟩
theorem C_impl_CueTimes (w0 : World) (x0 : (List (Int × Int))) (v0_0 : Value) (h0_0 : rdS ty_93 (· < w0.heap.size) w0 v0_0 x0) (x1 : (List (Int × (List UInt8)))) (v1_0 : Value) (h1_0 : rdS ty_56 (· < w0.heap.size) w0 v1_0 x1) (r : ((List Int) × Bool)) (hF : F_impl_CueTimes x0 x1 = some r) :
    Calls Try.prog 51 [v0_0, v1_0].toArray w0 fun e w' => ∃ (q0 : Value) (G0 : List Nat), e = .returned (.tuple #[q0, (.bool r.2)]) ∧ Below w0.heap.size w0 w' ∧ Sep w0.heap.size w' [R.own ty_3 G0 q0 r.1] := by
  refine calls_mk' Try.func51 rfl Try.ntmps51 rfl rfl fun Q hQ hP => ?_
  have hB : Below w0.heap.size w0 w0 := Below.refl _ _
  have hS : Sep w0.heap.size w0 [] := Sep.nil _ _
  unfold F_impl_CueTimes at hF
  refine W.seq fun K1 hK1 => ?_
  refine W.region ?_
  refine wl_assign rfl rfl ?_
  refine wl_assign rfl rfl ?_
  refine WL.nil ?_
  refine fun a ha => hK1 _ _ ?_ a ha
  refine W.seq fun K2 hK2 => ?_
  refine W.seq fun K3 hK3 => ?_
  refine W.region ?_
  refine wl_move rfl rfl ?_
  refine wl_move rfl rfl ?_
  obtain ⟨u4, hu4, hF⟩ := bindE hF
  refine wl_call rfl Try.call75 (C_impl_haveCues w0 x0 v0_0 (h0_0.ro hB) x1 v1_0 (h1_0.ro hB) _ hu4) rfl ?_
  rintro _ w5 ⟨rfl, hb6⟩
  refine ⟨_, rfl, ?_⟩
  have hB7 := hB.trans (hb6.mono hB.size)
  have hS8 := hS.below hb6
  refine wl_not rfl rfl ?_
  refine WL.nil ?_
  refine fun a ha => hK3 _ _ ?_ a ha
  refine W.cond rfl (fun h10 => ?_) (fun h10 => ?_)
  · replace hF := ifP h10 hF
    refine W.seq fun K11 hK11 => ?_
    refine W.region ?_
    refine wl_assign rfl rfl ?_
    refine wl_assign rfl rfl ?_
    refine WL.nil ?_
    refine fun a ha => hK11 _ _ ?_ a ha
    refine W.ret ?_
    have hS12 := hS8.push0 (r := R.own ty_3 [] (.slice none 0 0) []) rfl fun _ => .inl ⟨rfl, rfl, rfl⟩
    have hr := Option.some.inj hF
    subst hr
    exact rets (vs := [(.slice none 0 0), (.bool false)]) hQ rfl ⟨rv_tmp rfl, rv_tmp rfl, trivial⟩ ⟨(.slice none 0 0), [], rfl, hB7, hS12.sel [0] rfl⟩
  · replace hF := ifN h10 hF
    refine W.skip ?_
    refine fun a ha => hK2 _ _ ?_ a ha
    refine W.seq fun K13 hK13 => ?_
    refine W.region ?_
    refine wl_move rfl rfl ?_
    refine wl_move rfl rfl ?_
    obtain ⟨u14, hu14, hF⟩ := bindE hF
    refine wl_call rfl Try.call77 (C_impl_cueTimes w5 x0 v0_0 (h0_0.ro hB7) x1 v1_0 (h1_0.ro hB7) _ hu14) rfl ?_
    rintro _ w17 ⟨v15, F16, rfl, hb18, hM21⟩
    refine ⟨_, rfl, ?_⟩
    have hB19 := hB7.trans (hb18.mono hB7.size)
    have hS20 := hS8.join hb18 hM21 hB7.size
    refine wl_assign rfl rfl ?_
    refine wl_assign rfl rfl ?_
    refine WL.nil ?_
    refine fun a ha => hK13 _ _ ?_ a ha
    refine W.ret ?_
    have hr := Option.some.inj hF
    subst hr
    exact rets (vs := [v15, (.bool true)]) hQ rfl ⟨rv_tmp rfl, rv_tmp rfl, trivial⟩ ⟨v15, F16, rfl, hB19, hS20.sel [0] rfl⟩
theorem C_laws_FnExactCueTimes (w0 : World) (x0 : (List (Int × Int))) (v0_0 : Value) (h0_0 : rdS ty_95 (· < w0.heap.size) w0 v0_0 x0) (x1 : (List (Int × (List UInt8)))) (v1_0 : Value) (h1_0 : rdS ty_53 (· < w0.heap.size) w0 v1_0 x1) (r : Bool) (hF : F_laws_FnExactCueTimes x0 x1 = some r) :
    Calls Try.prog 12 [v0_0, v1_0].toArray w0 fun e w' => e = .returned (.bool r) ∧ Below w0.heap.size w0 w' := by
  refine calls_mk' Try.func12 rfl Try.ntmps12 rfl rfl fun Q hQ hP => ?_
  have hB : Below w0.heap.size w0 w0 := Below.refl _ _
  have hS : Sep w0.heap.size w0 [] := Sep.nil _ _
  unfold F_laws_FnExactCueTimes at hF
  refine W.seq fun K1 hK1 => ?_
  refine W.region ?_
  refine wl_assign rfl rfl ?_
  refine WL.nil ?_
  refine fun a ha => hK1 _ _ ?_ a ha
  refine W.seq fun K2 hK2 => ?_
  refine W.region ?_
  refine wl_assign rfl rfl ?_
  refine WL.nil ?_
  refine fun a ha => hK2 _ _ ?_ a ha
  refine W.seq fun K3 hK3 => ?_
  refine W.region ?_
  refine wl_move rfl rfl ?_
  refine wl_move rfl rfl ?_
  obtain ⟨u4, hu4, hF⟩ := bindE hF
  refine wl_call rfl Try.call22 (C_laws_szMeasureS w0 x0 v0_0 (h0_0.ro hB) 1048576 _ hu4) rfl ?_
  rintro _ w5 ⟨rfl, hb6⟩
  refine ⟨_, rfl, ?_⟩
  have hB7 := hB.trans (hb6.mono hB.size)
  have hS8 := hS.below hb6
  refine wl_assign rfl rfl ?_
  refine WL.nil ?_
  refine fun a ha => hK3 _ _ ?_ a ha
  refine W.seq fun K10 hK10 => ?_
  refine W.seq fun K11 hK11 => ?_
  refine W.region ?_
  refine wl_move rfl rfl ?_
  refine wl_lss rfl rfl rfl ?_
  refine WL.nil ?_
  refine fun a ha => hK11 _ _ ?_ a ha
  refine W.cond rfl (fun h12 => ?_) (fun h12 => ?_)
  · replace hF := ifP h12 hF
    refine W.seq fun K13 hK13 => ?_
    refine W.region ?_
    refine wl_assign rfl rfl ?_
    refine WL.nil ?_
    refine fun a ha => hK13 _ _ ?_ a ha
    refine W.ret ?_
    have hr := Option.some.inj hF
    subst hr
    exact rets (vs := [(.bool true)]) hQ rfl ⟨rv_tmp rfl, trivial⟩ ⟨rfl, hB7⟩
  · replace hF := ifN h12 hF
    refine W.skip ?_
    refine fun a ha => hK10 _ _ ?_ a ha
    refine W.seq fun K14 hK14 => ?_
    refine W.region ?_
    refine wl_move rfl rfl ?_
    refine wl_move rfl rfl ?_
    obtain ⟨u15, hu15, hF⟩ := bindE hF
    refine wl_call rfl Try.call23 (C_laws_szCueS w5 x1 v1_0 (h1_0.ro hB7) u4 _ hu15) rfl ?_
    rintro _ w16 ⟨rfl, hb17⟩
    refine ⟨_, rfl, ?_⟩
    have hB18 := hB7.trans (hb17.mono hB7.size)
    have hS19 := hS8.below hb17
    refine wl_assign rfl rfl ?_
    refine WL.nil ?_
    refine fun a ha => hK14 _ _ ?_ a ha
    refine W.seq fun K21 hK21 => ?_
    refine W.seq fun K22 hK22 => ?_
    refine W.region ?_
    refine wl_move rfl rfl ?_
    refine wl_lss rfl rfl rfl ?_
    refine WL.nil ?_
    refine fun a ha => hK22 _ _ ?_ a ha
    refine W.cond rfl (fun h23 => ?_) (fun h23 => ?_)
    · replace hF := ifP h23 hF
      refine W.seq fun K24 hK24 => ?_
      refine W.region ?_
      refine wl_assign rfl rfl ?_
      refine WL.nil ?_
      refine fun a ha => hK24 _ _ ?_ a ha
      refine W.ret ?_
      have hr := Option.some.inj hF
      subst hr
      exact rets (vs := [(.bool true)]) hQ rfl ⟨rv_tmp rfl, trivial⟩ ⟨rfl, hB18⟩
    · replace hF := ifN h23 hF
      refine W.skip ?_
      refine fun a ha => hK21 _ _ ?_ a ha
      refine W.seq fun K25 hK25 => ?_
      refine W.region ?_
      refine wl_move rfl rfl ?_
      obtain ⟨u26, hu26, hF⟩ := bindE hF
      refine wl_call rfl Try.call25 (C_laws_toMeasureS w16 x0 v0_0 (h0_0.ro hB18) _ hu26) rfl ?_
      rintro _ w29 ⟨v27, F28, rfl, hb30, hM33⟩
      refine ⟨_, rfl, ?_⟩
      have hB31 := hB18.trans (hb30.mono hB18.size)
      have hS32 := hS19.join hb30 hM33 hB18.size
      refine wl_move rfl rfl ?_
      obtain ⟨u34, hu34, hF⟩ := bindE hF
      refine wl_call rfl Try.call26 (C_laws_toCueS w29 x1 v1_0 (h1_0.ro hB31) _ hu34) rfl ?_
      rintro _ w37 ⟨v35, F36, rfl, hb38, hM41⟩
      refine ⟨_, rfl, ?_⟩
      have hB39 := hB31.trans (hb38.mono hB31.size)
      have hS40 := hS32.join hb38 hM41 hB31.size
      obtain ⟨u42, hu42, hF⟩ := bindE hF
      refine wl_call rfl Try.call50 (C_spec_CueTimes w37 u26 v27 (hS40.own_ro (i := 1) rfl) u34 v35 (hS40.own_ro (i := 0) rfl) _ hu42) rfl ?_
      rintro _ w45 ⟨v43, F44, rfl, hb46, hM49⟩
      refine ⟨_, rfl, ?_⟩
      have hB47 := hB39.trans (hb46.mono hB39.size)
      have hS48 := hS40.join hb46 hM49 hB39.size
      refine wl_move rfl rfl ?_
      refine wl_extract rfl rfl rfl ?_
      refine wl_extract rfl rfl rfl ?_
      refine wl_assign rfl rfl ?_
      refine wl_assign rfl rfl ?_
      refine WL.nil ?_
      refine fun a ha => hK25 _ _ ?_ a ha
      refine W.seq fun K50 hK50 => ?_
      refine W.region ?_
      refine wl_move rfl rfl ?_
      obtain ⟨u51, hu51, hF⟩ := bindE hF
      refine wl_call rfl Try.call25 (C_laws_toMeasureS w45 x0 v0_0 (h0_0.ro hB47) _ hu51) rfl ?_
      rintro _ w54 ⟨v52, F53, rfl, hb55, hM58⟩
      refine ⟨_, rfl, ?_⟩
      have hB56 := hB47.trans (hb55.mono hB47.size)
      have hS57 := hS48.join hb55 hM58 hB47.size
      refine wl_assign rfl rfl ?_
      refine WL.nil ?_
      refine fun a ha => hK50 _ _ ?_ a ha
      refine W.seq fun K59 hK59 => ?_
      refine W.region ?_
      refine wl_move rfl rfl ?_
      obtain ⟨u60, hu60, hF⟩ := bindE hF
      refine wl_call rfl Try.call26 (C_laws_toCueS w54 x1 v1_0 (h1_0.ro hB56) _ hu60) rfl ?_
      rintro _ w63 ⟨v61, F62, rfl, hb64, hM67⟩
      refine ⟨_, rfl, ?_⟩
      have hB65 := hB56.trans (hb64.mono hB56.size)
      have hS66 := hS57.join hb64 hM67 hB56.size
      refine wl_assign rfl rfl ?_
      refine WL.nil ?_
      refine fun a ha => hK59 _ _ ?_ a ha
      refine W.seq fun K68 hK68 => ?_
      refine W.region ?_
      refine wl_move rfl rfl ?_
      refine wl_move rfl rfl ?_
      obtain ⟨u69, hu69, hF⟩ := bindE hF
      refine wl_call rfl Try.call51 (C_impl_CueTimes w63 u51 v52 (hS66.own_ro (i := 1) rfl) u60 v61 (hS66.own_ro (i := 0) rfl) _ hu69) rfl ?_
      rintro _ w72 ⟨v70, F71, rfl, hb73, hM76⟩
      refine ⟨_, rfl, ?_⟩
      have hB74 := hB65.trans (hb73.mono hB65.size)
      have hS75 := hS66.join hb73 hM76 hB65.size
      refine wl_move rfl rfl ?_
      refine wl_extract rfl rfl rfl ?_
      refine wl_extract rfl rfl rfl ?_
      refine wl_assign rfl rfl ?_
      refine wl_assign rfl rfl ?_
      refine WL.nil ?_
      refine fun a ha => hK68 _ _ ?_ a ha
      refine W.seq fun K77 hK77 => ?_
      refine W.seq fun K78 hK78 => ?_
      obtain ⟨k83, hk83, hF⟩ := jE1 hF
      have hJ84 : ∀ (y82 : Bool) (w79 : World) (_ : k83 y82 = some r) (_ : Below w0.heap.size w0 w79) (_ : Sep w0.heap.size w79 [R.own ty_3 F44 v43 u42.1, R.own ty_93 F53 v52 u51, R.own ty_56 F62 v61 u60, R.own ty_3 F71 v70 u69.1]), ∀ a, St 119 [(0, v0_0), (1, v1_0), (6, v43), (7, (.bool u42.2)), (8, v52), (9, v61), (10, v70), (11, (.bool u69.2)), (53, (.bool y82))] a → K78 a w79 := by
        intro y82 w79 hF hB80 hS81
        subst hk83
        refine fun a ha => hK78 _ _ ?_ a ha
        refine W.cond rfl (fun h85 => ?_) (fun h85 => ?_)
        · replace hF := ifP h85 hF
          refine W.seq fun K86 hK86 => ?_
          refine W.region ?_
          refine wl_assign rfl rfl ?_
          refine WL.nil ?_
          refine fun a ha => hK86 _ _ ?_ a ha
          refine W.ret ?_
          have hr := Option.some.inj hF
          subst hr
          exact rets (vs := [(.bool false)]) hQ rfl ⟨rv_tmp rfl, trivial⟩ ⟨rfl, hB80⟩
        · replace hF := ifN h85 hF
          refine W.skip ?_
          refine fun a ha => hK77 _ _ ?_ a ha
          refine W.seq fun K87 hK87 => ?_
          refine W.seq fun K88 hK88 => ?_
          refine W.region ?_
          refine wl_move rfl rfl ?_
          refine wl_move rfl rfl ?_
          obtain ⟨u89, hu89, hF⟩ := bindE hF
          refine wl_call rfl Try.call25 (C_laws_toMeasureS w79 x0 v0_0 (h0_0.ro hB80) _ hu89) rfl ?_
          rintro _ w92 ⟨v90, F91, rfl, hb93, hM96⟩
          refine ⟨_, rfl, ?_⟩
          have hB94 := hB80.trans (hb93.mono hB80.size)
          have hS95 := hS81.join hb93 hM96 hB80.size
          obtain ⟨u97, hu97, hF⟩ := bindE hF
          refine wl_call rfl Try.call28 (C_laws_eqMeasureS w92 u51 v52 (hS95.own_ro (i := 2) rfl) u89 v90 (hS95.own_ro (i := 0) rfl) _ hu97) rfl ?_
          rintro _ w98 ⟨rfl, hb99⟩
          refine ⟨_, rfl, ?_⟩
          have hB100 := hB94.trans (hb99.mono hB94.size)
          have hS101 := hS95.below hb99
          refine wl_not rfl rfl ?_
          refine WL.nil ?_
          refine fun a ha => hK88 _ _ ?_ a ha
          refine W.cond rfl (fun h103 => ?_) (fun h103 => ?_)
          · replace hF := ifP h103 hF
            refine W.seq fun K104 hK104 => ?_
            refine W.region ?_
            refine wl_assign rfl rfl ?_
            refine WL.nil ?_
            refine fun a ha => hK104 _ _ ?_ a ha
            refine W.ret ?_
            have hr := Option.some.inj hF
            subst hr
            exact rets (vs := [(.bool false)]) hQ rfl ⟨rv_tmp rfl, trivial⟩ ⟨rfl, hB100⟩
          · replace hF := ifN h103 hF
            refine W.skip ?_
            refine fun a ha => hK87 _ _ ?_ a ha
            refine W.seq fun K105 hK105 => ?_
            refine W.seq fun K106 hK106 => ?_
            refine W.region ?_
            refine wl_move rfl rfl ?_
            refine wl_move rfl rfl ?_
            obtain ⟨u107, hu107, hF⟩ := bindE hF
            refine wl_call rfl Try.call26 (C_laws_toCueS w98 x1 v1_0 (h1_0.ro hB100) _ hu107) rfl ?_
            rintro _ w110 ⟨v108, F109, rfl, hb111, hM114⟩
            refine ⟨_, rfl, ?_⟩
            have hB112 := hB100.trans (hb111.mono hB100.size)
            have hS113 := hS101.join hb111 hM114 hB100.size
            obtain ⟨u115, hu115, hF⟩ := bindE hF
            refine wl_call rfl Try.call29 (C_laws_eqCueS w110 u60 v61 (hS113.own_ro (i := 4) rfl) u107 v108 (hS113.own_ro (i := 0) rfl) _ hu115) rfl ?_
            rintro _ w116 ⟨rfl, hb117⟩
            refine ⟨_, rfl, ?_⟩
            have hB118 := hB112.trans (hb117.mono hB112.size)
            have hS119 := hS113.below hb117
            refine wl_not rfl rfl ?_
            refine WL.nil ?_
            refine fun a ha => hK106 _ _ ?_ a ha
            refine W.cond rfl (fun h121 => ?_) (fun h121 => ?_)
            · replace hF := ifP h121 hF
              refine W.seq fun K122 hK122 => ?_
              refine W.region ?_
              refine wl_assign rfl rfl ?_
              refine WL.nil ?_
              refine fun a ha => hK122 _ _ ?_ a ha
              refine W.ret ?_
              have hr := Option.some.inj hF
              subst hr
              exact rets (vs := [(.bool false)]) hQ rfl ⟨rv_tmp rfl, trivial⟩ ⟨rfl, hB118⟩
            · replace hF := ifN h121 hF
              refine W.skip ?_
              refine fun a ha => hK105 _ _ ?_ a ha
              refine W.seq fun K123 hK123 => ?_
              refine W.region ?_
              refine wl_assign rfl rfl ?_
              refine WL.nil ?_
              refine fun a ha => hK123 _ _ ?_ a ha
              refine W.seq fun K124 hK124 => ?_
              refine W.region ?_
              refine wl_move rfl rfl ?_
              refine wl_move rfl rfl ?_
              obtain ⟨u125, hu125, hF⟩ := bindE hF
              refine wl_call rfl Try.call32 (C_laws_markMeasureS w116 u51 v52 F53 1 (hS119.sel [3] rfl).base0 _ hu125) rfl ?_
              rintro _ w126 ⟨rfl, hE127, hM128⟩
              refine ⟨_, rfl, ?_⟩
              have hB129 := hS119.mutB [3] rfl (M := [R.own ty_93 F53 v52 u51]) rfl (M' := [R.own ty_93 F53 v52 u125.2]) rfl hB118 hB118.size hE127 hM128
              have hS130 : Sep w0.heap.size w126 [R.own ty_93 F53 v52 u125.2, R.own ty_56 F109 v108 u107, R.own ty_93 F91 v90 u89, R.own ty_3 F44 v43 u42.1, R.own ty_56 F62 v61 u60, R.own ty_3 F71 v70 u69.1] := hS119.mut [3] [0, 1, 2, 4, 5] rfl (M := [R.own ty_93 F53 v52 u51]) rfl (M' := [R.own ty_93 F53 v52 u125.2]) rfl hM128
              refine wl_assign rfl rfl ?_
              refine WL.nil ?_
              refine fun a ha => hK124 _ _ ?_ a ha
              refine W.seq fun K131 hK131 => ?_
              refine W.region ?_
              refine wl_move rfl rfl ?_
              refine wl_move rfl rfl ?_
              obtain ⟨u132, hu132, hF⟩ := bindE hF
              refine wl_call rfl Try.call33 (C_laws_markCueS w126 u60 v61 F62 u125.1 (hS130.sel [4] rfl).base0 _ hu132) rfl ?_
              rintro _ w133 ⟨rfl, hE134, hM135⟩
              refine ⟨_, rfl, ?_⟩
              have hB136 := hS130.mutB [4] rfl (M := [R.own ty_56 F62 v61 u60]) rfl (M' := [R.own ty_56 F62 v61 u132.2]) rfl hB129 hB129.size hE134 hM135
              have hS137 : Sep w0.heap.size w133 [R.own ty_56 F62 v61 u132.2, R.own ty_93 F53 v52 u125.2, R.own ty_56 F109 v108 u107, R.own ty_93 F91 v90 u89, R.own ty_3 F44 v43 u42.1, R.own ty_3 F71 v70 u69.1] := hS130.mut [4] [0, 1, 2, 3, 5] rfl (M := [R.own ty_56 F62 v61 u60]) rfl (M' := [R.own ty_56 F62 v61 u132.2]) rfl hM135
              refine wl_assign rfl rfl ?_
              refine WL.nil ?_
              refine fun a ha => hK131 _ _ ?_ a ha
              refine W.seq fun K138 hK138 => ?_
              refine W.seq fun K139 hK139 => ?_
              obtain ⟨k144, hk144, hF⟩ := jE1 hF
              have hJ145 : ∀ (y143 : Bool) (w140 : World) (_ : k144 y143 = some r) (_ : Below w0.heap.size w0 w140) (_ : Sep w0.heap.size w140 [R.own ty_3 F44 v43 u42.1, R.own ty_3 F71 v70 u69.1]), ∀ a, St 119 [(0, v0_0), (1, v1_0), (6, v43), (7, (.bool u42.2)), (10, v70), (82, (.bool y143))] a → K139 a w140 := by
                intro y143 w140 hF hB141 hS142
                subst hk144
                refine fun a ha => hK139 _ _ ?_ a ha
                refine W.cond rfl (fun h146 => ?_) (fun h146 => ?_)
                · replace hF := ifP h146 hF
                  refine W.seq fun K147 hK147 => ?_
                  refine W.region ?_
                  refine wl_assign rfl rfl ?_
                  refine WL.nil ?_
                  refine fun a ha => hK147 _ _ ?_ a ha
                  refine W.ret ?_
                  have hr := Option.some.inj hF
                  subst hr
                  exact rets (vs := [(.bool false)]) hQ rfl ⟨rv_tmp rfl, trivial⟩ ⟨rfl, hB141⟩
                · replace hF := ifN h146 hF
                  refine W.skip ?_
                  refine fun a ha => hK138 _ _ ?_ a ha
                  refine W.seq fun K148 hK148 => ?_
                  refine W.region ?_
                  refine wl_assign rfl rfl ?_
                  refine WL.nil ?_
                  refine fun a ha => hK148 _ _ ?_ a ha
                  refine W.seq fun K149 hK149 => ?_
                  refine W.region ?_
                  refine wl_move rfl rfl ?_
                  refine wl_move rfl rfl ?_
                  obtain ⟨u150, hu150, hF⟩ := bindE hF
                  refine wl_call rfl Try.call53 (C_laws_markIntS w140 u69.1 v70 F71 1 (hS142.sel [1] rfl).base0 _ hu150) rfl ?_
                  rintro _ w151 ⟨rfl, hE152, hM153⟩
                  refine ⟨_, rfl, ?_⟩
                  have hB154 := hS142.mutB [1] rfl (M := [R.own ty_3 F71 v70 u69.1]) rfl (M' := [R.own ty_3 F71 v70 u150.2]) rfl hB141 hB141.size hE152 hM153
                  have hS155 : Sep w0.heap.size w151 [R.own ty_3 F71 v70 u150.2, R.own ty_3 F44 v43 u42.1] := hS142.mut [1] [0] rfl (M := [R.own ty_3 F71 v70 u69.1]) rfl (M' := [R.own ty_3 F71 v70 u150.2]) rfl hM153
                  refine wl_assign rfl rfl ?_
                  refine WL.nil ?_
                  refine fun a ha => hK149 _ _ ?_ a ha
                  refine W.seq fun K156 hK156 => ?_
                  refine W.region ?_
                  refine wl_assign rfl rfl ?_
                  refine WL.nil ?_
                  refine fun a ha => hK156 _ _ ?_ a ha
                  refine W.seq fun K157 hK157 => ?_
                  refine W.region ?_
                  refine wl_move rfl rfl ?_
                  refine wl_move rfl rfl ?_
                  obtain ⟨u158, hu158, hF⟩ := bindE hF
                  refine wl_call rfl Try.call54 (C_laws_heldIntS w151 u150.2 v70 (hS155.own_ro (i := 0) rfl) 1 _ hu158) rfl ?_
                  rintro _ w159 ⟨rfl, hb160⟩
                  refine ⟨_, rfl, ?_⟩
                  have hB161 := hB154.trans (hb160.mono hB154.size)
                  have hS162 := hS155.below hb160
                  refine wl_assign rfl rfl ?_
                  refine WL.nil ?_
                  refine fun a ha => hK157 _ _ ?_ a ha
                  refine W.seq fun K164 hK164 => ?_
                  refine W.seq fun K165 hK165 => ?_
                  refine W.region ?_
                  refine wl_move rfl rfl ?_
                  refine wl_lss rfl rfl rfl ?_
                  refine WL.nil ?_
                  refine fun a ha => hK165 _ _ ?_ a ha
                  refine W.cond rfl (fun h166 => ?_) (fun h166 => ?_)
                  · replace hF := ifP h166 hF
                    refine W.seq fun K167 hK167 => ?_
                    refine W.region ?_
                    refine wl_assign rfl rfl ?_
                    refine WL.nil ?_
                    refine fun a ha => hK167 _ _ ?_ a ha
                    refine W.ret ?_
                    have hr := Option.some.inj hF
                    subst hr
                    exact rets (vs := [(.bool false)]) hQ rfl ⟨rv_tmp rfl, trivial⟩ ⟨rfl, hB161⟩
                  · replace hF := ifN h166 hF
                    refine W.skip ?_
                    refine fun a ha => hK164 _ _ ?_ a ha
                    refine W.seq fun K168 hK168 => ?_
                    refine W.seq fun K169 hK169 => ?_
                    refine W.region ?_
                    refine wl_move rfl rfl ?_
                    refine wl_move rfl rfl ?_
                    refine wl_neq rfl rfl rfl ?_
                    refine WL.nil ?_
                    refine fun a ha => hK169 _ _ ?_ a ha
                    refine W.cond rfl (fun h170 => ?_) (fun h170 => ?_)
                    · replace hF := ifP h170 hF
                      refine W.seq fun K171 hK171 => ?_
                      refine W.region ?_
                      refine wl_assign rfl rfl ?_
                      refine WL.nil ?_
                      refine fun a ha => hK171 _ _ ?_ a ha
                      refine W.ret ?_
                      have hr := Option.some.inj hF
                      subst hr
                      exact rets (vs := [(.bool false)]) hQ rfl ⟨rv_tmp rfl, trivial⟩ ⟨rfl, hB161⟩
                    · replace hF := ifN h170 hF
                      refine W.skip ?_
                      refine fun a ha => hK168 _ _ ?_ a ha
                      refine W.seq fun K172 hK172 => ?_
                      refine W.region ?_
                      refine wl_move rfl rfl ?_
                      obtain ⟨u173, hu173, hF⟩ := bindE hF
                      refine wl_call rfl Try.call25 (C_laws_toMeasureS w159 x0 v0_0 (h0_0.ro hB161) _ hu173) rfl ?_
                      rintro _ w176 ⟨v174, F175, rfl, hb177, hM180⟩
                      refine ⟨_, rfl, ?_⟩
                      have hB178 := hB161.trans (hb177.mono hB161.size)
                      have hS179 := hS162.join hb177 hM180 hB161.size
                      refine wl_move rfl rfl ?_
                      obtain ⟨u181, hu181, hF⟩ := bindE hF
                      refine wl_call rfl Try.call26 (C_laws_toCueS w176 x1 v1_0 (h1_0.ro hB178) _ hu181) rfl ?_
                      rintro _ w184 ⟨v182, F183, rfl, hb185, hM188⟩
                      refine ⟨_, rfl, ?_⟩
                      have hB186 := hB178.trans (hb185.mono hB178.size)
                      have hS187 := hS179.join hb185 hM188 hB178.size
                      obtain ⟨u189, hu189, hF⟩ := bindE hF
                      refine wl_call rfl Try.call51 (C_impl_CueTimes w184 u173 v174 (hS187.own_ro (i := 1) rfl) u181 v182 (hS187.own_ro (i := 0) rfl) _ hu189) rfl ?_
                      rintro _ w192 ⟨v190, F191, rfl, hb193, hM196⟩
                      refine ⟨_, rfl, ?_⟩
                      have hB194 := hB186.trans (hb193.mono hB186.size)
                      have hS195 := hS187.join hb193 hM196 hB186.size
                      refine wl_move rfl rfl ?_
                      refine wl_extract rfl rfl rfl ?_
                      refine wl_extract rfl rfl rfl ?_
                      refine wl_assign rfl rfl ?_
                      refine wl_assign rfl rfl ?_
                      refine WL.nil ?_
                      refine fun a ha => hK172 _ _ ?_ a ha
                      refine W.seq fun K197 hK197 => ?_
                      refine W.seq fun K198 hK198 => ?_
                      obtain ⟨k203, hk203, hF⟩ := jE1 hF
                      have hJ204 : ∀ (y202 : Bool) (w199 : World) (_ : k203 y202 = some r) (_ : Below w0.heap.size w0 w199) (_ : Sep w0.heap.size w199 [R.own ty_3 F71 v70 u150.2]), ∀ a, St 119 [(10, v70), (13, (.int .i64 u150.1)), (110, (.bool y202))] a → K198 a w199 := by
                        intro y202 w199 hF hB200 hS201
                        subst hk203
                        refine fun a ha => hK198 _ _ ?_ a ha
                        refine W.cond rfl (fun h205 => ?_) (fun h205 => ?_)
                        · replace hF := ifP h205 hF
                          refine W.seq fun K206 hK206 => ?_
                          refine W.region ?_
                          refine wl_assign rfl rfl ?_
                          refine WL.nil ?_
                          refine fun a ha => hK206 _ _ ?_ a ha
                          refine W.ret ?_
                          have hr := Option.some.inj hF
                          subst hr
                          exact rets (vs := [(.bool false)]) hQ rfl ⟨rv_tmp rfl, trivial⟩ ⟨rfl, hB200⟩
                        · replace hF := ifN h205 hF
                          refine W.skip ?_
                          refine fun a ha => hK197 _ _ ?_ a ha
                          refine W.seq fun K207 hK207 => ?_
                          refine W.region ?_
                          refine wl_assign rfl rfl ?_
                          refine WL.nil ?_
                          refine fun a ha => hK207 _ _ ?_ a ha
                          refine W.seq fun K208 hK208 => ?_
                          refine W.region ?_
                          refine wl_move rfl rfl ?_
                          refine wl_move rfl rfl ?_
                          obtain ⟨u209, hu209, hF⟩ := bindE hF
                          refine wl_call rfl Try.call54 (C_laws_heldIntS w199 u150.2 v70 (hS201.own_ro (i := 0) rfl) 1 _ hu209) rfl ?_
                          rintro _ w210 ⟨rfl, hb211⟩
                          refine ⟨_, rfl, ?_⟩
                          have hB212 := hB200.trans (hb211.mono hB200.size)
                          have hS213 := hS201.below hb211
                          refine wl_assign rfl rfl ?_
                          refine WL.nil ?_
                          refine fun a ha => hK208 _ _ ?_ a ha
                          refine W.seq fun K215 hK215 => ?_
                          refine W.seq fun K216 hK216 => ?_
                          refine W.region ?_
                          refine wl_move rfl rfl ?_
                          refine wl_lss rfl rfl rfl ?_
                          refine WL.nil ?_
                          refine fun a ha => hK216 _ _ ?_ a ha
                          refine W.cond rfl (fun h217 => ?_) (fun h217 => ?_)
                          · replace hF := ifP h217 hF
                            refine W.seq fun K218 hK218 => ?_
                            refine W.region ?_
                            refine wl_assign rfl rfl ?_
                            refine WL.nil ?_
                            refine fun a ha => hK218 _ _ ?_ a ha
                            refine W.ret ?_
                            have hr := Option.some.inj hF
                            subst hr
                            exact rets (vs := [(.bool false)]) hQ rfl ⟨rv_tmp rfl, trivial⟩ ⟨rfl, hB212⟩
                          · replace hF := ifN h217 hF
                            refine W.skip ?_
                            refine fun a ha => hK215 _ _ ?_ a ha
                            refine W.seq fun K219 hK219 => ?_
                            refine W.seq fun K220 hK220 => ?_
                            refine W.region ?_
                            refine wl_move rfl rfl ?_
                            refine wl_move rfl rfl ?_
                            refine wl_neq rfl rfl rfl ?_
                            refine WL.nil ?_
                            refine fun a ha => hK220 _ _ ?_ a ha
                            refine W.cond rfl (fun h221 => ?_) (fun h221 => ?_)
                            · replace hF := ifP h221 hF
                              refine W.seq fun K222 hK222 => ?_
                              refine W.region ?_
                              refine wl_assign rfl rfl ?_
                              refine WL.nil ?_
                              refine fun a ha => hK222 _ _ ?_ a ha
                              refine W.ret ?_
                              have hr := Option.some.inj hF
                              subst hr
                              exact rets (vs := [(.bool false)]) hQ rfl ⟨rv_tmp rfl, trivial⟩ ⟨rfl, hB212⟩
                            · replace hF := ifN h221 hF
                              refine W.skip ?_
                              refine fun a ha => hK219 _ _ ?_ a ha
                              refine W.seq fun K223 hK223 => ?_
                              refine W.region ?_
                              refine wl_assign rfl rfl ?_
                              refine WL.nil ?_
                              refine fun a ha => hK223 _ _ ?_ a ha
                              refine W.ret ?_
                              have hr := Option.some.inj hF
                              subst hr
                              exact rets (vs := [(.bool true)]) hQ rfl ⟨rv_tmp rfl, trivial⟩ ⟨rfl, hB212⟩
                      refine W.region ?_
                      refine wl_move rfl rfl ?_
                      refine wl_move rfl rfl ?_
                      obtain ⟨u224, hu224, hF⟩ := bindE hF
                      refine wl_call rfl Try.call52 (C_laws_eqIntS w192 u189.1 v190 (hS195.own_ro (i := 0) rfl) u42.1 v43 (hS195.own_ro (i := 4) rfl) _ hu224) rfl ?_
                      rintro _ w225 ⟨rfl, hb226⟩
                      refine ⟨_, rfl, ?_⟩
                      have hB227 := hB194.trans (hb226.mono hB194.size)
                      have hS228 := hS195.below hb226
                      refine wl_not rfl rfl ?_
                      refine wl_move rfl rfl ?_
                      rcases bE (!u224) with h230 | h230
                      · replace hF := ifP h230 hF
                        refine wl_off rfl rfl rfl h230 ?_
                        refine wl_off rfl rfl rfl h230 ?_
                        refine wl_off rfl rfl rfl h230 ?_
                        refine wl_pick_t rfl rfl h230 rfl ?_
                        refine WL.nil ?_
                        exact fun a ha => hJ204 (true) _ hF hB227 (hS228.sel [3] rfl) a (ha.sub ⟨rfl, rfl, rfl, trivial⟩)
                      · replace hF := ifN h230 hF
                        refine wl_on rfl rfl h230 ?_
                        refine wl_move rfl rfl ?_
                        refine wl_on rfl rfl h230 ?_
                        refine wl_move rfl rfl ?_
                        refine wl_on rfl rfl h230 ?_
                        refine wl_neqb Try.underlying4 rfl rfl rfl ?_
                        refine wl_pick_f rfl rfl h230 rfl ?_
                        refine WL.nil ?_
                        exact fun a ha => hJ204 ((u189.2 != u42.2)) _ hF hB227 (hS228.sel [3] rfl) a (ha.sub ⟨rfl, rfl, rfl, trivial⟩)
              refine W.region ?_
              refine wl_move rfl rfl ?_
              refine wl_lss rfl rfl rfl ?_
              refine wl_move rfl rfl ?_
              rcases bE (decide (u132.1 < 0)) with h231 | h231
              · replace hF := ifP h231 hF
                refine wl_off rfl rfl rfl h231 ?_
                refine wl_off rfl rfl rfl h231 ?_
                refine wl_off rfl rfl rfl h231 ?_
                refine wl_off rfl rfl rfl h231 ?_
                refine wl_pick_t rfl rfl h231 rfl ?_
                refine wl_move rfl rfl ?_
                refine wl_off rfl rfl rfl rfl ?_
                refine wl_off rfl rfl rfl rfl ?_
                refine wl_off rfl rfl rfl rfl ?_
                refine wl_pick_t rfl rfl rfl rfl ?_
                refine WL.nil ?_
                exact fun a ha => hJ145 (true) _ hF hB136 (hS137.sel [4, 5] rfl) a (ha.sub ⟨rfl, rfl, rfl, rfl, rfl, rfl, trivial⟩)
              · replace hF := ifN h231 hF
                refine wl_on rfl rfl h231 ?_
                refine wl_move rfl rfl ?_
                refine wl_on rfl rfl h231 ?_
                refine wl_move rfl rfl ?_
                refine wl_on rfl rfl h231 ?_
                obtain ⟨u232, hu232, hF⟩ := bindE hF
                refine wl_call rfl Try.call52 (C_laws_eqIntS w133 u69.1 v70 (hS137.own_ro (i := 5) rfl) u42.1 v43 (hS137.own_ro (i := 4) rfl) _ hu232) rfl ?_
                rintro _ w233 ⟨rfl, hb234⟩
                refine ⟨_, rfl, ?_⟩
                have hB235 := hB136.trans (hb234.mono hB136.size)
                have hS236 := hS137.below hb234
                refine wl_on rfl rfl h231 ?_
                refine wl_not rfl rfl ?_
                refine wl_pick_f rfl rfl h231 rfl ?_
                refine wl_move rfl rfl ?_
                rcases bE (!u232) with h238 | h238
                · replace hF := ifP h238 hF
                  refine wl_off rfl rfl rfl h238 ?_
                  refine wl_off rfl rfl rfl h238 ?_
                  refine wl_off rfl rfl rfl h238 ?_
                  refine wl_pick_t rfl rfl h238 rfl ?_
                  refine WL.nil ?_
                  exact fun a ha => hJ145 (true) _ hF hB235 (hS236.sel [4, 5] rfl) a (ha.sub ⟨rfl, rfl, rfl, rfl, rfl, rfl, trivial⟩)
                · replace hF := ifN h238 hF
                  refine wl_on rfl rfl h238 ?_
                  refine wl_move rfl rfl ?_
                  refine wl_on rfl rfl h238 ?_
                  refine wl_move rfl rfl ?_
                  refine wl_on rfl rfl h238 ?_
                  refine wl_neqb Try.underlying4 rfl rfl rfl ?_
                  refine wl_pick_f rfl rfl h238 rfl ?_
                  refine WL.nil ?_
                  exact fun a ha => hJ145 ((u69.2 != u42.2)) _ hF hB235 (hS236.sel [4, 5] rfl) a (ha.sub ⟨rfl, rfl, rfl, rfl, rfl, rfl, trivial⟩)
      refine W.region ?_
      refine wl_move rfl rfl ?_
      refine wl_move rfl rfl ?_
      obtain ⟨u239, hu239, hF⟩ := bindE hF
      refine wl_call rfl Try.call52 (C_laws_eqIntS w72 u69.1 v70 (hS75.own_ro (i := 0) rfl) u42.1 v43 (hS75.own_ro (i := 3) rfl) _ hu239) rfl ?_
      rintro _ w240 ⟨rfl, hb241⟩
      refine ⟨_, rfl, ?_⟩
      have hB242 := hB74.trans (hb241.mono hB74.size)
      have hS243 := hS75.below hb241
      refine wl_not rfl rfl ?_
      refine wl_move rfl rfl ?_
      rcases bE (!u239) with h245 | h245
      · replace hF := ifP h245 hF
        refine wl_off rfl rfl rfl h245 ?_
        refine wl_off rfl rfl rfl h245 ?_
        refine wl_off rfl rfl rfl h245 ?_
        refine wl_pick_t rfl rfl h245 rfl ?_
        refine WL.nil ?_
        exact fun a ha => hJ84 (true) _ hF hB242 (hS243.sel [3, 2, 1, 0] rfl) a (ha.sub ⟨rfl, rfl, rfl, rfl, rfl, rfl, rfl, rfl, rfl, trivial⟩)
      · replace hF := ifN h245 hF
        refine wl_on rfl rfl h245 ?_
        refine wl_move rfl rfl ?_
        refine wl_on rfl rfl h245 ?_
        refine wl_move rfl rfl ?_
        refine wl_on rfl rfl h245 ?_
        refine wl_neqb Try.underlying4 rfl rfl rfl ?_
        refine wl_pick_f rfl rfl h245 rfl ?_
        refine WL.nil ?_
        exact fun a ha => hJ84 ((u69.2 != u42.2)) _ hF hB242 (hS243.sel [3, 2, 1, 0] rfl) a (ha.sub ⟨rfl, rfl, rfl, rfl, rfl, rfl, rfl, rfl, rfl, trivial⟩)
end Go.Proofs.Ytmbhdelegdhieaa
