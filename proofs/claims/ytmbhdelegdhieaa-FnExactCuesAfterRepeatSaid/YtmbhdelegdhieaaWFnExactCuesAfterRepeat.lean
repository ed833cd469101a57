/-
  THE WALKS of functions of this seat, by program (gen.py).
-/
import Derived.Test.YtmbhdelegdhieaaH
import Derived.Test.YtmbhdelegdhieaaWFnExactIsShow
import Derived.Test.YtmbhdelegdhieaaWFnExactShiftCues
set_option linter.unusedSimpArgs false
set_option linter.unusedVariables false
set_option maxRecDepth 100000
namespace Go.Proofs.Ytmbhdelegdhieaa
open Go Go.RowKit
theorem C_spec_muRange (w0 : World) (x0 : (List (Int × Int))) (v0_0 : Value) (h0_0 : rdS ty_93 (· < w0.heap.size) w0 v0_0 x0) (x1 : Int) (x2 : Int) (r : Bool) (hF : F_spec_muRange x0 x1 x2 = some r) :
    Calls Try.prog 123 [v0_0, (.int .i64 x1), (.int .i64 x2)].toArray w0 fun e w' => e = .returned (.bool r) ∧ Below w0.heap.size w0 w' := by
  refine calls_mk' Try.func123 rfl Try.ntmps123 rfl rfl fun Q hQ hP => ?_
  have hB : Below w0.heap.size w0 w0 := Below.refl _ _
  have hS : Sep w0.heap.size w0 [] := Sep.nil _ _
  unfold F_spec_muRange at hF
  refine W.seq fun K1 hK1 => ?_
  refine W.region ?_
  refine wl_assign rfl rfl ?_
  refine WL.nil ?_
  refine fun a ha => hK1 _ _ ?_ a ha
  refine W.seq fun K2 hK2 => ?_
  obtain ⟨k7, hk7, hF⟩ := jE1 hF
  have hJ8 : ∀ (y6 : Bool) (w3 : World) (_ : k7 y6 = some r) (_ : Below w0.heap.size w0 w3) (_ : Sep w0.heap.size w3 []), ∀ a, St 22 [(6, (.bool y6))] a → K2 a w3 := by
    intro y6 w3 hF hB4 hS5
    subst hk7
    refine fun a ha => hK2 _ _ ?_ a ha
    refine W.ret ?_
    have hr := Option.some.inj hF
    subst hr
    exact rets (vs := [(.bool y6)]) hQ rfl ⟨rv_tmp rfl, trivial⟩ ⟨rfl, hB4⟩
  refine W.region ?_
  refine wl_move rfl rfl ?_
  obtain ⟨u9, hu9, hF⟩ := bindE hF
  refine wl_call rfl Try.call110 (C_spec_muGood w0 x0 v0_0 (h0_0.ro hB) _ hu9) rfl ?_
  rintro _ w10 ⟨rfl, hb11⟩
  refine ⟨_, rfl, ?_⟩
  have hB12 := hB.trans (hb11.mono hB.size)
  have hS13 := hS.below hb11
  refine wl_move rfl rfl ?_
  rcases bE u9 with h15 | h15
  · replace hF := ifP h15 hF
    refine wl_on rfl rfl h15 ?_
    refine wl_move rfl rfl ?_
    refine wl_on rfl rfl h15 ?_
    refine wl_move rfl rfl ?_
    refine wl_on rfl rfl h15 ?_
    obtain ⟨u16, hu16, hF⟩ := bindE hF
    refine wl_call rfl Try.call80 (C_spec_l1In w10 x1 0 x2 _ hu16) rfl ?_
    rintro _ w17 ⟨rfl, hb18⟩
    refine ⟨_, rfl, ?_⟩
    have hB19 := hB12.trans (hb18.mono hB12.size)
    have hS20 := hS13.below hb18
    refine wl_pick_t rfl rfl h15 rfl ?_
    refine wl_move rfl rfl ?_
    rcases bE u16 with h22 | h22
    · replace hF := ifP h22 hF
      refine wl_on rfl rfl h22 ?_
      refine wl_move rfl rfl ?_
      refine wl_on rfl rfl h22 ?_
      refine wl_move rfl rfl ?_
      refine wl_on rfl rfl h22 ?_
      refine wl_move rfl rfl ?_
      refine wl_on rfl rfl h22 ?_
      refine wl_lenr (e := ty_93) (l := x0) Try.underlying41 rfl rfl h0_0 ?_
      refine wl_on rfl rfl h22 ?_
      refine wl_sub rfl rfl rfl ?_
      refine wl_on rfl rfl h22 ?_
      obtain ⟨u23, hu23, hF⟩ := bindE hF
      refine wl_call rfl Try.call80 (C_spec_l1In w17 x2 x1 (w64 ((List.length x0 : Int) - 1)) _ hu23) rfl ?_
      rintro _ w24 ⟨rfl, hb25⟩
      refine ⟨_, rfl, ?_⟩
      have hB26 := hB19.trans (hb25.mono hB19.size)
      have hS27 := hS20.below hb25
      refine wl_pick_t rfl rfl h22 rfl ?_
      refine wl_assign rfl rfl ?_
      refine WL.nil ?_
      exact fun a ha => hJ8 (u23) _ hF hB26 (hS27.sel [] rfl) a (ha.sub ⟨rfl, trivial⟩)
    · replace hF := ifN h22 hF
      refine wl_off rfl rfl rfl h22 ?_
      refine wl_off rfl rfl rfl h22 ?_
      refine wl_off rfl rfl rfl h22 ?_
      refine wl_off rfl rfl rfl h22 ?_
      refine wl_off rfl rfl rfl h22 ?_
      refine wl_off rfl rfl rfl h22 ?_
      refine wl_pick_f rfl rfl h22 rfl ?_
      refine wl_assign rfl rfl ?_
      refine WL.nil ?_
      exact fun a ha => hJ8 (false) _ hF hB19 (hS20.sel [] rfl) a (ha.sub ⟨rfl, trivial⟩)
  · replace hF := ifN h15 hF
    refine wl_off rfl rfl rfl h15 ?_
    refine wl_off rfl rfl rfl h15 ?_
    refine wl_off rfl rfl rfl h15 ?_
    refine wl_pick_f rfl rfl h15 rfl ?_
    refine wl_move rfl rfl ?_
    refine wl_off rfl rfl rfl rfl ?_
    refine wl_off rfl rfl rfl rfl ?_
    refine wl_off rfl rfl rfl rfl ?_
    refine wl_off rfl rfl rfl rfl ?_
    refine wl_off rfl rfl rfl rfl ?_
    refine wl_off rfl rfl rfl rfl ?_
    refine wl_pick_f rfl rfl rfl rfl ?_
    refine wl_assign rfl rfl ?_
    refine WL.nil ?_
    exact fun a ha => hJ8 (false) _ hF hB12 (hS13.sel [] rfl) a (ha.sub ⟨rfl, trivial⟩)
theorem C_spec_RepeatMeasures (w0 : World) (x0 : (List (Int × Int))) (v0_0 : Value) (h0_0 : rdS ty_93 (· < w0.heap.size) w0 v0_0 x0) (x1 : Int) (x2 : Int) (x3 : Int) (r : ((List (Int × Int)) × Bool)) (hF : F_spec_RepeatMeasures x0 x1 x2 x3 = some r) :
    Calls Try.prog 98 [v0_0, (.int .i64 x1), (.int .i64 x2), (.int .i64 x3)].toArray w0 fun e w' => ∃ (q0 : Value) (G0 : List Nat), e = .returned (.tuple #[q0, (.bool r.2)]) ∧ Below w0.heap.size w0 w' ∧ Sep w0.heap.size w' [R.own ty_93 G0 q0 r.1] := by
  refine calls_mk' Try.func98 rfl Try.ntmps98 rfl rfl fun Q hQ hP => ?_
  have hB : Below w0.heap.size w0 w0 := Below.refl _ _
  have hS : Sep w0.heap.size w0 [] := Sep.nil _ _
  unfold F_spec_RepeatMeasures at hF
  refine W.seq fun K1 hK1 => ?_
  refine W.region ?_
  refine wl_assign rfl rfl ?_
  refine wl_assign rfl rfl ?_
  refine WL.nil ?_
  refine fun a ha => hK1 _ _ ?_ a ha
  refine W.seq fun K2 hK2 => ?_
  refine W.seq fun K3 hK3 => ?_
  obtain ⟨k8, hk8, hF⟩ := jE1 hF
  have hJ9 : ∀ (y7 : Bool) (w4 : World) (_ : k8 y7 = some r) (_ : Below w0.heap.size w0 w4) (_ : Sep w0.heap.size w4 []), ∀ a, St 47 [(0, v0_0), (1, (.int .i64 x1)), (2, (.int .i64 x2)), (3, (.int .i64 x3)), (20, (.bool y7))] a → K3 a w4 := by
    intro y7 w4 hF hB5 hS6
    subst hk8
    refine fun a ha => hK3 _ _ ?_ a ha
    refine W.cond rfl (fun h10 => ?_) (fun h10 => ?_)
    · replace hF := ifP h10 hF
      refine W.seq fun K11 hK11 => ?_
      refine W.region ?_
      refine wl_assign rfl rfl ?_
      refine wl_assign rfl rfl ?_
      refine WL.nil ?_
      refine fun a ha => hK11 _ _ ?_ a ha
      refine W.ret ?_
      have hS12 := hS6.push0 (r := R.own ty_93 [] (.slice none 0 0) []) rfl fun _ => .inl ⟨rfl, rfl, rfl⟩
      have hr := Option.some.inj hF
      subst hr
      exact rets (vs := [(.slice none 0 0), (.bool false)]) hQ rfl ⟨rv_tmp rfl, rv_tmp rfl, trivial⟩ ⟨(.slice none 0 0), [], rfl, hB5, hS12.sel [0] rfl⟩
    · replace hF := ifN h10 hF
      refine W.skip ?_
      refine fun a ha => hK2 _ _ ?_ a ha
      refine W.seq fun K13 hK13 => ?_
      refine W.region ?_
      refine wl_lit (vs := []) (l := []) fl_93 Try.underlying41 rfl rfl rfl rfl rfl rfl hB5 hS6 ?_
      intro v14 F15 w16 hb17 hB18 hS19
      refine wl_move rfl rfl ?_
      refine wl_move rfl rfl ?_
      obtain ⟨u20, hu20, hF⟩ := bindE hF
      refine wl_slice (e := ty_93) Try.underlying41 rfl rfl h0_0 hu20 (.inl ⟨rfl, rfl⟩) (.inr ⟨_, _, rfl, rfl⟩) ?_
      intro v21 hv22
      obtain ⟨u23, hu23, hF⟩ := bindE hF
      refine wl_append (i := 0) (S := (· < w16.heap.size)) fl_93 Try.underlying41 rfl rfl rfl hB18 hS19 rfl (hv22.ro hB18) hu23 ?_
      intro v24 F25 w26 hk27 hB28 hS29
      refine wl_assign rfl rfl ?_
      refine WL.nil ?_
      refine fun a ha => hK13 _ _ ?_ a ha
      refine W.seq fun K30 hK30 => ?_
      refine W.block ?_
      refine W.loopk (fun m a w31 => ∃ (y34 : Int) (l35 : (List (Int × Int))) (v36 : Value) (F37 : List Nat), St 47 [(0, v0_0), (1, (.int .i64 x1)), (2, (.int .i64 x2)), (3, (.int .i64 y34)), (10, v36)] a ∧ Below w0.heap.size w0 w31 ∧ Sep w0.heap.size w31 [R.own ty_93 F37 v36 l35] ∧ F_spec_RepeatMeasures_L1 x0 x1 x2 m y34 l35 = some r) FU ?_ ?_
      ·
        exact fun a ha => ⟨x3, u23, v24, F25, ha.sub ⟨rfl, rfl, rfl, rfl, rfl, trivial⟩, hB28, (hS29.sel [0] rfl), hF⟩
      ·
        rintro m40 a w31 ⟨y34, l35, v36, F37, ha, hB32, hS33, hF⟩ KL39 hKL39
        refine W.at ?_ ha
        cases m40 with
        | zero => exact noneE hF
        | succ m40 =>
          obtain ⟨nx38, hnx38⟩ : ∃ k, k = F_spec_RepeatMeasures_L1 x0 x1 x2 m40 := ⟨_, rfl⟩
          rw [F_spec_RepeatMeasures_L1, ← hnx38] at hF
          refine W.seq fun K41 hK41 => ?_
          refine W.seq fun K42 hK42 => ?_
          refine W.region ?_
          refine wl_move rfl rfl ?_
          refine wl_gtr rfl rfl rfl ?_
          refine WL.nil ?_
          refine fun a ha => hK42 _ _ ?_ a ha
          refine W.cond rfl (fun h43 => ?_) (fun h43 => ?_)
          · replace hF := ifP h43 hF
            refine W.skip ?_
            refine fun a ha => hK41 _ _ ?_ a ha
            refine W.seq fun K44 hK44 => ?_
            refine W.block ?_
            refine W.region ?_
            refine wl_move rfl rfl ?_
            refine wl_move rfl rfl ?_
            refine wl_move rfl rfl ?_
            refine wl_move rfl rfl ?_
            refine wl_add rfl rfl rfl ?_
            obtain ⟨u45, hu45, hF⟩ := bindE hF
            refine wl_slice (e := ty_93) Try.underlying41 rfl rfl h0_0 hu45 (.inr ⟨_, _, rfl, rfl⟩) (.inr ⟨_, _, rfl, rfl⟩) ?_
            intro v46 hv47
            obtain ⟨u48, hu48, hF⟩ := bindE hF
            refine wl_append (i := 0) (S := (· < w31.heap.size)) fl_93 Try.underlying41 rfl rfl rfl hB32 hS33 rfl (hv47.ro hB32) hu48 ?_
            intro v49 F50 w51 hk52 hB53 hS54
            refine wl_assign rfl rfl ?_
            refine WL.nil ?_
            refine fun a ha => hK44 _ _ ?_ a ha
            refine W.region ?_
            refine wl_move rfl rfl ?_
            refine wl_sub rfl rfl rfl ?_
            refine wl_assign rfl rfl ?_
            refine WL.nil ?_
            rw [hnx38] at hF
            exact fun a ha => hKL39 a _ m40 (Nat.lt_succ_self m40) ⟨(w64 (y34 - 1)), u48, v49, F50, ha.sub ⟨rfl, rfl, rfl, rfl, rfl, trivial⟩, hB53, (hS54.sel [0] rfl), hF⟩
          · replace hF := ifN h43 hF
            refine W.exit ?_
            refine fun a ha => hK30 _ _ ?_ a ha
            refine W.seq fun K55 hK55 => ?_
            refine W.region ?_
            refine wl_move rfl rfl ?_
            refine wl_move rfl rfl ?_
            refine wl_move rfl rfl ?_
            refine wl_add rfl rfl rfl ?_
            obtain ⟨u56, hu56, hF⟩ := bindE hF
            refine wl_slice (e := ty_93) Try.underlying41 rfl rfl h0_0 hu56 (.inr ⟨_, _, rfl, rfl⟩) (.inl ⟨rfl, rfl⟩) ?_
            intro v57 hv58
            obtain ⟨u59, hu59, hF⟩ := bindE hF
            refine wl_append (i := 0) (S := (· < w31.heap.size)) fl_93 Try.underlying41 rfl rfl rfl hB32 hS33 rfl (hv58.ro hB32) hu59 ?_
            intro v60 F61 w62 hk63 hB64 hS65
            refine wl_assign rfl rfl ?_
            refine WL.nil ?_
            refine fun a ha => hK55 _ _ ?_ a ha
            refine W.seq fun K66 hK66 => ?_
            refine W.seq fun K67 hK67 => ?_
            refine W.region ?_
            refine wl_move rfl rfl ?_
            obtain ⟨u68, hu68, hF⟩ := bindE hF
            refine wl_call rfl Try.call110 (C_spec_muGood w62 u59 v60 (hS65.own_ro (i := 0) rfl) _ hu68) rfl ?_
            rintro _ w69 ⟨rfl, hb70⟩
            refine ⟨_, rfl, ?_⟩
            have hB71 := hB64.trans (hb70.mono hB64.size)
            have hS72 := hS65.below hb70
            refine wl_not rfl rfl ?_
            refine WL.nil ?_
            refine fun a ha => hK67 _ _ ?_ a ha
            refine W.cond rfl (fun h74 => ?_) (fun h74 => ?_)
            · replace hF := ifP h74 hF
              refine W.seq fun K75 hK75 => ?_
              refine W.region ?_
              refine wl_assign rfl rfl ?_
              refine wl_assign rfl rfl ?_
              refine WL.nil ?_
              refine fun a ha => hK75 _ _ ?_ a ha
              refine W.ret ?_
              have hS76 := hS72.push0 (r := R.own ty_93 [] (.slice none 0 0) []) rfl fun _ => .inl ⟨rfl, rfl, rfl⟩
              have hr := Option.some.inj hF
              subst hr
              exact rets (vs := [(.slice none 0 0), (.bool false)]) hQ rfl ⟨rv_tmp rfl, rv_tmp rfl, trivial⟩ ⟨(.slice none 0 0), [], rfl, hB71, hS76.sel [0] rfl⟩
            · replace hF := ifN h74 hF
              refine W.skip ?_
              refine fun a ha => hK66 _ _ ?_ a ha
              refine W.seq fun K77 hK77 => ?_
              refine W.region ?_
              refine wl_move rfl rfl ?_
              refine wl_assign rfl rfl ?_
              refine wl_assign rfl rfl ?_
              refine WL.nil ?_
              refine fun a ha => hK77 _ _ ?_ a ha
              refine W.ret ?_
              have hr := Option.some.inj hF
              subst hr
              exact rets (vs := [v60, (.bool true)]) hQ rfl ⟨rv_tmp rfl, rv_tmp rfl, trivial⟩ ⟨v60, F61, rfl, hB71, hS72.sel [0] rfl⟩
  refine W.region ?_
  refine wl_move rfl rfl ?_
  refine wl_move rfl rfl ?_
  refine wl_move rfl rfl ?_
  obtain ⟨u78, hu78, hF⟩ := bindE hF
  refine wl_call rfl Try.call123 (C_spec_muRange w0 x0 v0_0 (h0_0.ro hB) x1 x2 _ hu78) rfl ?_
  rintro _ w79 ⟨rfl, hb80⟩
  refine ⟨_, rfl, ?_⟩
  have hB81 := hB.trans (hb80.mono hB.size)
  have hS82 := hS.below hb80
  refine wl_not rfl rfl ?_
  refine wl_move rfl rfl ?_
  rcases bE (!u78) with h84 | h84
  · replace hF := ifP h84 hF
    refine wl_off rfl rfl rfl h84 ?_
    refine wl_off rfl rfl rfl h84 ?_
    refine wl_off rfl rfl rfl h84 ?_
    refine wl_pick_t rfl rfl h84 rfl ?_
    refine WL.nil ?_
    exact fun a ha => hJ9 (true) _ hF hB81 (hS82.sel [] rfl) a (ha.sub ⟨rfl, rfl, rfl, rfl, rfl, trivial⟩)
  · replace hF := ifN h84 hF
    refine wl_on rfl rfl h84 ?_
    refine wl_move rfl rfl ?_
    refine wl_on rfl rfl h84 ?_
    obtain ⟨u85, hu85, hF⟩ := bindE hF
    refine wl_call rfl Try.call80 (C_spec_l1In w79 x3 1 10 _ hu85) rfl ?_
    rintro _ w86 ⟨rfl, hb87⟩
    refine ⟨_, rfl, ?_⟩
    have hB88 := hB81.trans (hb87.mono hB81.size)
    have hS89 := hS82.below hb87
    refine wl_on rfl rfl h84 ?_
    refine wl_not rfl rfl ?_
    refine wl_pick_f rfl rfl h84 rfl ?_
    refine WL.nil ?_
    exact fun a ha => hJ9 ((!u85)) _ hF hB88 (hS89.sel [] rfl) a (ha.sub ⟨rfl, rfl, rfl, rfl, rfl, trivial⟩)
theorem C_spec_CuesAfterRepeat (w0 : World) (x0 : (List (Int × Int))) (v0_0 : Value) (h0_0 : rdS ty_93 (· < w0.heap.size) w0 v0_0 x0) (x1 : (List (Int × (List UInt8)))) (v1_0 : Value) (h1_0 : rdS ty_56 (· < w0.heap.size) w0 v1_0 x1) (x2 : Int) (x3 : Int) (x4 : Int) (r : ((List (Int × (List UInt8))) × Bool)) (hF : F_spec_CuesAfterRepeat x0 x1 x2 x3 x4 = some r) :
    Calls Try.prog 58 [v0_0, v1_0, (.int .i64 x2), (.int .i64 x3), (.int .i64 x4)].toArray w0 fun e w' => ∃ (q0 : Value) (G0 : List Nat), e = .returned (.tuple #[q0, (.bool r.2)]) ∧ Below w0.heap.size w0 w' ∧ Sep w0.heap.size w' [R.own ty_56 G0 q0 r.1] := by
  refine calls_mk' Try.func58 rfl Try.ntmps58 rfl rfl fun Q hQ hP => ?_
  have hB : Below w0.heap.size w0 w0 := Below.refl _ _
  have hS : Sep w0.heap.size w0 [] := Sep.nil _ _
  unfold F_spec_CuesAfterRepeat at hF
  refine W.seq fun K1 hK1 => ?_
  refine W.region ?_
  refine wl_assign rfl rfl ?_
  refine wl_assign rfl rfl ?_
  refine WL.nil ?_
  refine fun a ha => hK1 _ _ ?_ a ha
  refine W.seq fun K2 hK2 => ?_
  refine W.seq fun K3 hK3 => ?_
  refine W.region ?_
  refine wl_move rfl rfl ?_
  refine wl_move rfl rfl ?_
  obtain ⟨u4, hu4, hF⟩ := bindE hF
  refine wl_call rfl Try.call71 (C_spec_tiGood w0 x0 v0_0 (h0_0.ro hB) x1 v1_0 (h1_0.ro hB) _ hu4) rfl ?_
  rintro _ w5 ⟨rfl, hb6⟩
  refine ⟨_, rfl, ?_⟩
  have hB7 := hB.trans (hb6.mono hB.size)
  have hS8 := hS.below hb6
  refine wl_not rfl rfl ?_
  refine WL.nil ?_
  refine fun a ha => hK3 _ _ ?_ a ha
  refine W.cond rfl (fun h10 => ?_) (fun h10 => ?_)
  · replace hF := ifP h10 hF
    refine W.seq fun K11 hK11 => ?_
    refine W.region ?_
    refine wl_assign rfl rfl ?_
    refine wl_assign rfl rfl ?_
    refine WL.nil ?_
    refine fun a ha => hK11 _ _ ?_ a ha
    refine W.ret ?_
    have hS12 := hS8.push0 (r := R.own ty_56 [] (.slice none 0 0) []) rfl fun _ => .inl ⟨rfl, rfl, rfl⟩
    have hr := Option.some.inj hF
    subst hr
    exact rets (vs := [(.slice none 0 0), (.bool false)]) hQ rfl ⟨rv_tmp rfl, rv_tmp rfl, trivial⟩ ⟨(.slice none 0 0), [], rfl, hB7, hS12.sel [0] rfl⟩
  · replace hF := ifN h10 hF
    refine W.skip ?_
    refine fun a ha => hK2 _ _ ?_ a ha
    refine W.seq fun K13 hK13 => ?_
    refine W.region ?_
    refine wl_move rfl rfl ?_
    refine wl_move rfl rfl ?_
    refine wl_move rfl rfl ?_
    refine wl_move rfl rfl ?_
    obtain ⟨u14, hu14, hF⟩ := bindE hF
    refine wl_call rfl Try.call98 (C_spec_RepeatMeasures w5 x0 v0_0 (h0_0.ro hB7) x2 x3 x4 _ hu14) rfl ?_
    rintro _ w17 ⟨v15, F16, rfl, hb18, hM21⟩
    refine ⟨_, rfl, ?_⟩
    have hB19 := hB7.trans (hb18.mono hB7.size)
    have hS20 := hS8.join hb18 hM21 hB7.size
    refine wl_move rfl rfl ?_
    refine wl_extract rfl rfl rfl ?_
    refine wl_extract rfl rfl rfl ?_
    refine wl_assign rfl rfl ?_
    refine wl_assign rfl rfl ?_
    refine WL.nil ?_
    refine fun a ha => hK13 _ _ ?_ a ha
    refine W.seq fun K22 hK22 => ?_
    refine W.seq fun K23 hK23 => ?_
    refine W.region ?_
    refine wl_move rfl rfl ?_
    refine wl_not rfl rfl ?_
    refine WL.nil ?_
    refine fun a ha => hK23 _ _ ?_ a ha
    refine W.cond rfl (fun h24 => ?_) (fun h24 => ?_)
    · replace hF := ifP h24 hF
      refine W.seq fun K25 hK25 => ?_
      refine W.region ?_
      refine wl_assign rfl rfl ?_
      refine wl_assign rfl rfl ?_
      refine WL.nil ?_
      refine fun a ha => hK25 _ _ ?_ a ha
      refine W.ret ?_
      have hS26 := hS20.push0 (r := R.own ty_56 [] (.slice none 0 0) []) rfl fun _ => .inl ⟨rfl, rfl, rfl⟩
      have hr := Option.some.inj hF
      subst hr
      exact rets (vs := [(.slice none 0 0), (.bool false)]) hQ rfl ⟨rv_tmp rfl, rv_tmp rfl, trivial⟩ ⟨(.slice none 0 0), [], rfl, hB19, hS26.sel [0] rfl⟩
    · replace hF := ifN h24 hF
      refine W.skip ?_
      refine fun a ha => hK22 _ _ ?_ a ha
      refine W.seq fun K27 hK27 => ?_
      refine W.region ?_
      refine wl_move rfl rfl ?_
      obtain ⟨u28, hu28, hF⟩ := bindE hF
      refine wl_call rfl Try.call99 (C_spec_muCounts w17 u14.1 v15 (hS20.own_ro (i := 0) rfl) _ hu28) rfl ?_
      rintro _ w29 ⟨rfl, hb30⟩
      refine ⟨_, rfl, ?_⟩
      have hB31 := hB19.trans (hb30.mono hB19.size)
      have hS32 := hS20.below hb30
      refine wl_move rfl rfl ?_
      obtain ⟨u34, hu34, hF⟩ := bindE hF
      refine wl_call rfl Try.call99 (C_spec_muCounts w29 x0 v0_0 (h0_0.ro hB31) _ hu34) rfl ?_
      rintro _ w35 ⟨rfl, hb36⟩
      refine ⟨_, rfl, ?_⟩
      have hB37 := hB31.trans (hb36.mono hB31.size)
      have hS38 := hS32.below hb36
      refine wl_sub rfl rfl rfl ?_
      refine wl_assign rfl rfl ?_
      refine WL.nil ?_
      refine fun a ha => hK27 _ _ ?_ a ha
      refine W.seq fun K40 hK40 => ?_
      refine W.region ?_
      refine wl_move rfl rfl ?_
      refine wl_move rfl rfl ?_
      refine wl_add rfl rfl rfl ?_
      obtain ⟨u41, hu41, hF⟩ := bindE hF
      refine wl_slice (e := ty_93) Try.underlying41 rfl rfl h0_0 hu41 (.inl ⟨rfl, rfl⟩) (.inr ⟨_, _, rfl, rfl⟩) ?_
      intro v42 hv43
      obtain ⟨u44, hu44, hF⟩ := bindE hF
      refine wl_call rfl Try.call99 (C_spec_muCounts w35 u41 v42 (hv43.ro hB37) _ hu44) rfl ?_
      rintro _ w45 ⟨rfl, hb46⟩
      refine ⟨_, rfl, ?_⟩
      have hB47 := hB37.trans (hb46.mono hB37.size)
      have hS48 := hS38.below hb46
      refine wl_assign rfl rfl ?_
      refine WL.nil ?_
      refine fun a ha => hK40 _ _ ?_ a ha
      refine W.seq fun K50 hK50 => ?_
      refine W.region ?_
      refine wl_lit (vs := []) (l := []) fl_56 Try.underlying43 rfl rfl rfl rfl rfl rfl hB47 hS48 ?_
      intro v51 F52 w53 hb54 hB55 hS56
      refine wl_move rfl rfl ?_
      obtain ⟨u57, hu57, hF⟩ := bindE hF
      refine wl_append (i := 0) (S := (· < w53.heap.size)) fl_56 Try.underlying43 rfl rfl rfl hB55 hS56 rfl (h1_0.ro hB55) hu57 ?_
      intro v58 F59 w60 hk61 hB62 hS63
      refine wl_assign rfl rfl ?_
      refine WL.nil ?_
      refine fun a ha => hK50 _ _ ?_ a ha
      refine W.seq fun K64 hK64 => ?_
      refine W.seq fun K65 hK65 => ?_
      refine W.region ?_
      refine wl_move rfl rfl ?_
      refine wl_lenr (e := ty_56) (l := u57) Try.underlying43 rfl rfl (hS63.own_ro (i := 0) rfl) ?_
      refine wl_move rfl rfl ?_
      refine WL.nil ?_
      refine fun a ha => hK65 _ _ ?_ a ha
      refine W.block ?_
      refine W.loopk (fun m a w66 => ∃ (l69 : (List (Int × (List UInt8)))) (y72 : Int) (v70 : Value) (F71 : List Nat), St 68 [(14, (.int .i64 (w64 (u28 - u34)))), (15, (.int .i64 u44)), (16, v70), (46, (.int .i64 (List.length u57 : Int))), (47, (.int .i64 y72))] a ∧ Below w0.heap.size w0 w66 ∧ Sep w0.heap.size w66 [R.own ty_56 F71 v70 l69] ∧ F_spec_CuesAfterRepeat_L1 u57 u44 u28 u34 m l69 y72 = some r) FU ?_ ?_
      ·
        exact fun a ha => ⟨u57, 0, v58, F59, ha.sub ⟨rfl, rfl, rfl, rfl, rfl, trivial⟩, hB62, (hS63.sel [0] rfl), hF⟩
      ·
        rintro m75 a w66 ⟨l69, y72, v70, F71, ha, hB67, hS68, hF⟩ KL74 hKL74
        refine W.at ?_ ha
        cases m75 with
        | zero => exact noneE hF
        | succ m75 =>
          obtain ⟨nx73, hnx73⟩ : ∃ k, k = F_spec_CuesAfterRepeat_L1 u57 u44 u28 u34 m75 := ⟨_, rfl⟩
          rw [F_spec_CuesAfterRepeat_L1, ← hnx73] at hF
          refine W.seq fun K76 hK76 => ?_
          refine W.region ?_
          refine wl_lss rfl rfl rfl ?_
          refine WL.nil ?_
          refine fun a ha => hK76 _ _ ?_ a ha
          refine W.seq fun K77 hK77 => ?_
          refine W.cond rfl (fun h78 => ?_) (fun h78 => ?_)
          · replace hF := ifP h78 hF
            refine W.skip ?_
            refine fun a ha => hK77 _ _ ?_ a ha
            refine W.seq fun K79 hK79 => ?_
            obtain ⟨k86, hk86, hF⟩ := jE1 hF
            have hJ87 : ∀ (l83 : (List (Int × (List UInt8)))) (v84 : Value) (F85 : List Nat) (w80 : World) (_ : k86 l83 = some r) (_ : Below w0.heap.size w0 w80) (_ : Sep w0.heap.size w80 [R.own ty_56 F85 v84 l83]), ∀ a, St 68 [(14, (.int .i64 (w64 (u28 - u34)))), (15, (.int .i64 u44)), (16, v84), (46, (.int .i64 (List.length u57 : Int))), (47, (.int .i64 y72))] a → K79 a w80 := by
              intro l83 v84 F85 w80 hF hB81 hS82
              subst hk86
              refine fun a ha => hK79 _ _ ?_ a ha
              refine W.region ?_
              refine wl_add rfl rfl rfl ?_
              refine wl_move rfl rfl ?_
              refine WL.nil ?_
              rw [hnx73] at hF
              exact fun a ha => hKL74 a _ m75 (Nat.lt_succ_self m75) ⟨l83, (w64 (y72 + 1)), v84, F85, ha.sub ⟨rfl, rfl, rfl, rfl, rfl, trivial⟩, hB81, (hS82.sel [0] rfl), hF⟩
            refine W.block ?_
            refine W.seq fun K88 hK88 => ?_
            refine W.region ?_
            refine wl_move rfl rfl ?_
            refine wl_assign rfl rfl ?_
            refine WL.nil ?_
            refine fun a ha => hK88 _ _ ?_ a ha
            refine W.seq fun K89 hK89 => ?_
            refine W.region ?_
            refine wl_move rfl rfl ?_
            refine wl_move rfl rfl ?_
            obtain ⟨u90, hu90, hF⟩ := bindE hF
            refine wl_indexo (e := ty_56) (i := 0) Try.underlying43 rfl rfl rfl hS68 rfl hu90 ?_
            rintro p91 _ rfl hp92 ho93
            refine wl_fieldp (o := 0) ff_56_0 rfl rfl ?_
            refine wl_load_p (vs := [(.int .i64 u90.1)]) (v := (.int .i64 u90.1)) tf_3 rfl rfl (hp92.add 0) rfl rfl ?_
            refine wl_move rfl rfl ?_
            refine wl_geq rfl rfl rfl ?_
            refine WL.nil ?_
            refine fun a ha => hK89 _ _ ?_ a ha
            refine W.cond rfl (fun h94 => ?_) (fun h94 => ?_)
            · replace hF := ifP h94 hF
              refine W.region ?_
              refine wl_move rfl rfl ?_
              refine wl_move rfl rfl ?_
              obtain ⟨u95, hu95, hF⟩ := bindE hF
              refine wl_indexo (e := ty_56) (i := 0) Try.underlying43 rfl rfl rfl hS68 rfl hu95 ?_
              rintro p96 _ rfl hp97 ho98
              refine wl_fieldp (o := 0) ff_56_0 rfl rfl ?_
              refine wl_load_p (vs := [(.int .i64 u95.1)]) (v := (.int .i64 u95.1)) tf_3 rfl rfl (hp97.add 0) rfl rfl ?_
              refine wl_move rfl rfl ?_
              refine wl_add rfl rfl rfl ?_
              obtain ⟨u99, hu99, hF⟩ := bindE hF
              refine wl_indexo (e := ty_56) (i := 0) Try.underlying43 rfl rfl rfl hS68 rfl hu99 ?_
              rintro p100 _ rfl hp101 ho102
              refine wl_fieldp (o := 0) ff_56_0 rfl rfl ?_
              refine wl_storeo (i := 0) (o := 0) (vs := [(.int .i64 (w64 (u95.1 + (w64 (u28 - u34)))))]) (u' := ((w64 (u95.1 + (w64 (u28 - u34)))), u99.2)) fl_56 tf_3 rfl rfl rfl rfl ho102 hu99 hB67 hS68 rfl rfl ⟨rfl, trivial⟩ rfl ?_
              intro w103 hk106 hB104 hS105
              refine WL.nil ?_
              exact fun a ha => hJ87 ((seti l69 y72 ((w64 (u95.1 + (w64 (u28 - u34)))), u99.2))) (v70) (F71) _ hF hB104 (hS105.sel [0] rfl) a (ha.sub ⟨rfl, rfl, rfl, rfl, rfl, trivial⟩)
            · replace hF := ifN h94 hF
              refine W.skip ?_
              exact fun a ha => hJ87 (l69) (v70) (F71) _ hF hB67 (hS68.sel [0] rfl) a (ha.sub ⟨rfl, rfl, rfl, rfl, rfl, trivial⟩)
          · replace hF := ifN h78 hF
            refine W.exit ?_
            refine fun a ha => hK64 _ _ ?_ a ha
            refine W.seq fun K107 hK107 => ?_
            refine W.region ?_
            refine wl_move rfl rfl ?_
            refine wl_assign rfl rfl ?_
            refine wl_assign rfl rfl ?_
            refine WL.nil ?_
            refine fun a ha => hK107 _ _ ?_ a ha
            refine W.ret ?_
            have hr := Option.some.inj hF
            subst hr
            exact rets (vs := [v70, (.bool true)]) hQ rfl ⟨rv_tmp rfl, rv_tmp rfl, trivial⟩ ⟨v70, F71, rfl, hB67, hS68.sel [0] rfl⟩
theorem C_impl_RepeatMeasures (w0 : World) (x0 : (List (Int × Int))) (v0_0 : Value) (h0_0 : rdS ty_93 (· < w0.heap.size) w0 v0_0 x0) (x1 : Int) (x2 : Int) (x3 : Int) (r : ((List (Int × Int)) × Bool)) (hF : F_impl_RepeatMeasures x0 x1 x2 x3 = some r) :
    Calls Try.prog 100 [v0_0, (.int .i64 x1), (.int .i64 x2), (.int .i64 x3)].toArray w0 fun e w' => ∃ (q0 : Value) (G0 : List Nat), e = .returned (.tuple #[q0, (.bool r.2)]) ∧ Below w0.heap.size w0 w' ∧ Sep w0.heap.size w' [R.own ty_93 G0 q0 r.1] := by
  refine calls_mk' Try.func100 rfl Try.ntmps100 rfl rfl fun Q hQ hP => ?_
  have hB : Below w0.heap.size w0 w0 := Below.refl _ _
  have hS : Sep w0.heap.size w0 [] := Sep.nil _ _
  unfold F_impl_RepeatMeasures at hF
  refine W.seq fun K1 hK1 => ?_
  refine W.region ?_
  refine wl_assign rfl rfl ?_
  refine wl_assign rfl rfl ?_
  refine WL.nil ?_
  refine fun a ha => hK1 _ _ ?_ a ha
  refine W.seq fun K2 hK2 => ?_
  refine W.seq fun K3 hK3 => ?_
  obtain ⟨k8, hk8, hF⟩ := jE1 hF
  have hJ9 : ∀ (y7 : Bool) (w4 : World) (_ : k8 y7 = some r) (_ : Below w0.heap.size w0 w4) (_ : Sep w0.heap.size w4 []), ∀ a, St 62 [(0, v0_0), (1, (.int .i64 x1)), (2, (.int .i64 x2)), (3, (.int .i64 x3)), (34, (.bool y7))] a → K3 a w4 := by
    intro y7 w4 hF hB5 hS6
    subst hk8
    refine fun a ha => hK3 _ _ ?_ a ha
    refine W.cond rfl (fun h10 => ?_) (fun h10 => ?_)
    · replace hF := ifP h10 hF
      refine W.seq fun K11 hK11 => ?_
      refine W.region ?_
      refine wl_assign rfl rfl ?_
      refine wl_assign rfl rfl ?_
      refine WL.nil ?_
      refine fun a ha => hK11 _ _ ?_ a ha
      refine W.ret ?_
      have hS12 := hS6.push0 (r := R.own ty_93 [] (.slice none 0 0) []) rfl fun _ => .inl ⟨rfl, rfl, rfl⟩
      have hr := Option.some.inj hF
      subst hr
      exact rets (vs := [(.slice none 0 0), (.bool false)]) hQ rfl ⟨rv_tmp rfl, rv_tmp rfl, trivial⟩ ⟨(.slice none 0 0), [], rfl, hB5, hS12.sel [0] rfl⟩
    · replace hF := ifN h10 hF
      refine W.skip ?_
      refine fun a ha => hK2 _ _ ?_ a ha
      refine W.seq fun K13 hK13 => ?_
      refine W.region ?_
      refine wl_lit (vs := []) (l := []) fl_93 Try.underlying41 rfl rfl rfl rfl rfl rfl hB5 hS6 ?_
      intro v14 F15 w16 hb17 hB18 hS19
      refine wl_move rfl rfl ?_
      refine wl_move rfl rfl ?_
      obtain ⟨u20, hu20, hF⟩ := bindE hF
      refine wl_slice (e := ty_93) Try.underlying41 rfl rfl h0_0 hu20 (.inl ⟨rfl, rfl⟩) (.inr ⟨_, _, rfl, rfl⟩) ?_
      intro v21 hv22
      obtain ⟨u23, hu23, hF⟩ := bindE hF
      refine wl_append (i := 0) (S := (· < w16.heap.size)) fl_93 Try.underlying41 rfl rfl rfl hB18 hS19 rfl (hv22.ro hB18) hu23 ?_
      intro v24 F25 w26 hk27 hB28 hS29
      refine wl_assign rfl rfl ?_
      refine WL.nil ?_
      refine fun a ha => hK13 _ _ ?_ a ha
      refine W.seq fun K30 hK30 => ?_
      refine W.seq fun K31 hK31 => ?_
      refine W.region ?_
      refine wl_assign rfl rfl ?_
      refine WL.nil ?_
      refine fun a ha => hK31 _ _ ?_ a ha
      refine W.block ?_
      refine W.loopk (fun m a w32 => ∃ (l35 : (List (Int × Int))) (y38 : Int) (v36 : Value) (F37 : List Nat), St 62 [(0, v0_0), (1, (.int .i64 x1)), (2, (.int .i64 x2)), (3, (.int .i64 x3)), (10, v36), (11, (.int .i64 y38))] a ∧ Below w0.heap.size w0 w32 ∧ Sep w0.heap.size w32 [R.own ty_93 F37 v36 l35] ∧ F_impl_RepeatMeasures_L1 x3 x0 x1 x2 m l35 y38 = some r) FU ?_ ?_
      ·
        exact fun a ha => ⟨u23, 0, v24, F25, ha.sub ⟨rfl, rfl, rfl, rfl, rfl, rfl, trivial⟩, hB28, (hS29.sel [0] rfl), hF⟩
      ·
        rintro m41 a w32 ⟨l35, y38, v36, F37, ha, hB33, hS34, hF⟩ KL40 hKL40
        refine W.at ?_ ha
        cases m41 with
        | zero => exact noneE hF
        | succ m41 =>
          obtain ⟨nx39, hnx39⟩ : ∃ k, k = F_impl_RepeatMeasures_L1 x3 x0 x1 x2 m41 := ⟨_, rfl⟩
          rw [F_impl_RepeatMeasures_L1, ← hnx39] at hF
          refine W.seq fun K42 hK42 => ?_
          refine W.seq fun K43 hK43 => ?_
          refine W.region ?_
          refine wl_move rfl rfl ?_
          refine wl_move rfl rfl ?_
          refine wl_lss rfl rfl rfl ?_
          refine WL.nil ?_
          refine fun a ha => hK43 _ _ ?_ a ha
          refine W.cond rfl (fun h44 => ?_) (fun h44 => ?_)
          · replace hF := ifP h44 hF
            refine W.skip ?_
            refine fun a ha => hK42 _ _ ?_ a ha
            refine W.seq fun K45 hK45 => ?_
            refine W.block ?_
            refine W.region ?_
            refine wl_move rfl rfl ?_
            refine wl_move rfl rfl ?_
            refine wl_move rfl rfl ?_
            refine wl_move rfl rfl ?_
            refine wl_add rfl rfl rfl ?_
            obtain ⟨u46, hu46, hF⟩ := bindE hF
            refine wl_slice (e := ty_93) Try.underlying41 rfl rfl h0_0 hu46 (.inr ⟨_, _, rfl, rfl⟩) (.inr ⟨_, _, rfl, rfl⟩) ?_
            intro v47 hv48
            obtain ⟨u49, hu49, hF⟩ := bindE hF
            refine wl_append (i := 0) (S := (· < w32.heap.size)) fl_93 Try.underlying41 rfl rfl rfl hB33 hS34 rfl (hv48.ro hB33) hu49 ?_
            intro v50 F51 w52 hk53 hB54 hS55
            refine wl_assign rfl rfl ?_
            refine WL.nil ?_
            refine fun a ha => hK45 _ _ ?_ a ha
            refine W.region ?_
            refine wl_move rfl rfl ?_
            refine wl_add rfl rfl rfl ?_
            refine wl_assign rfl rfl ?_
            refine WL.nil ?_
            rw [hnx39] at hF
            exact fun a ha => hKL40 a _ m41 (Nat.lt_succ_self m41) ⟨u49, (w64 (y38 + 1)), v50, F51, ha.sub ⟨rfl, rfl, rfl, rfl, rfl, rfl, trivial⟩, hB54, (hS55.sel [0] rfl), hF⟩
          · replace hF := ifN h44 hF
            refine W.exit ?_
            refine fun a ha => hK30 _ _ ?_ a ha
            refine W.seq fun K56 hK56 => ?_
            refine W.region ?_
            refine wl_move rfl rfl ?_
            refine wl_move rfl rfl ?_
            refine wl_move rfl rfl ?_
            refine wl_add rfl rfl rfl ?_
            obtain ⟨u57, hu57, hF⟩ := bindE hF
            refine wl_slice (e := ty_93) Try.underlying41 rfl rfl h0_0 hu57 (.inr ⟨_, _, rfl, rfl⟩) (.inl ⟨rfl, rfl⟩) ?_
            intro v58 hv59
            obtain ⟨u60, hu60, hF⟩ := bindE hF
            refine wl_append (i := 0) (S := (· < w32.heap.size)) fl_93 Try.underlying41 rfl rfl rfl hB33 hS34 rfl (hv59.ro hB33) hu60 ?_
            intro v61 F62 w63 hk64 hB65 hS66
            refine wl_assign rfl rfl ?_
            refine WL.nil ?_
            refine fun a ha => hK56 _ _ ?_ a ha
            refine W.seq fun K67 hK67 => ?_
            refine W.seq fun K68 hK68 => ?_
            refine W.region ?_
            refine wl_move rfl rfl ?_
            obtain ⟨u69, hu69, hF⟩ := bindE hF
            refine wl_call rfl Try.call113 (C_impl_IsMusic w63 u60 v61 (hS66.own_ro (i := 0) rfl) _ hu69) rfl ?_
            rintro _ w70 ⟨rfl, hb71⟩
            refine ⟨_, rfl, ?_⟩
            have hB72 := hB65.trans (hb71.mono hB65.size)
            have hS73 := hS66.below hb71
            refine wl_not rfl rfl ?_
            refine WL.nil ?_
            refine fun a ha => hK68 _ _ ?_ a ha
            refine W.cond rfl (fun h75 => ?_) (fun h75 => ?_)
            · replace hF := ifP h75 hF
              refine W.seq fun K76 hK76 => ?_
              refine W.region ?_
              refine wl_assign rfl rfl ?_
              refine wl_assign rfl rfl ?_
              refine WL.nil ?_
              refine fun a ha => hK76 _ _ ?_ a ha
              refine W.ret ?_
              have hS77 := hS73.push0 (r := R.own ty_93 [] (.slice none 0 0) []) rfl fun _ => .inl ⟨rfl, rfl, rfl⟩
              have hr := Option.some.inj hF
              subst hr
              exact rets (vs := [(.slice none 0 0), (.bool false)]) hQ rfl ⟨rv_tmp rfl, rv_tmp rfl, trivial⟩ ⟨(.slice none 0 0), [], rfl, hB72, hS77.sel [0] rfl⟩
            · replace hF := ifN h75 hF
              refine W.skip ?_
              refine fun a ha => hK67 _ _ ?_ a ha
              refine W.seq fun K78 hK78 => ?_
              refine W.region ?_
              refine wl_move rfl rfl ?_
              refine wl_assign rfl rfl ?_
              refine wl_assign rfl rfl ?_
              refine WL.nil ?_
              refine fun a ha => hK78 _ _ ?_ a ha
              refine W.ret ?_
              have hr := Option.some.inj hF
              subst hr
              exact rets (vs := [v61, (.bool true)]) hQ rfl ⟨rv_tmp rfl, rv_tmp rfl, trivial⟩ ⟨v61, F62, rfl, hB72, hS73.sel [0] rfl⟩
  refine W.region ?_
  refine wl_move rfl rfl ?_
  obtain ⟨u79, hu79, hF⟩ := bindE hF
  refine wl_call rfl Try.call113 (C_impl_IsMusic w0 x0 v0_0 (h0_0.ro hB) _ hu79) rfl ?_
  rintro _ w80 ⟨rfl, hb81⟩
  refine ⟨_, rfl, ?_⟩
  have hB82 := hB.trans (hb81.mono hB.size)
  have hS83 := hS.below hb81
  refine wl_not rfl rfl ?_
  refine wl_move rfl rfl ?_
  rcases bE (!u79) with h85 | h85
  · replace hF := ifP h85 hF
    refine wl_off rfl rfl rfl h85 ?_
    refine wl_off rfl rfl rfl h85 ?_
    refine wl_pick_t rfl rfl h85 rfl ?_
    refine wl_move rfl rfl ?_
    refine wl_off rfl rfl rfl rfl ?_
    refine wl_off rfl rfl rfl rfl ?_
    refine wl_off rfl rfl rfl rfl ?_
    refine wl_pick_t rfl rfl rfl rfl ?_
    refine wl_move rfl rfl ?_
    refine wl_off rfl rfl rfl rfl ?_
    refine wl_off rfl rfl rfl rfl ?_
    refine wl_off rfl rfl rfl rfl ?_
    refine wl_off rfl rfl rfl rfl ?_
    refine wl_pick_t rfl rfl rfl rfl ?_
    refine wl_move rfl rfl ?_
    refine wl_off rfl rfl rfl rfl ?_
    refine wl_off rfl rfl rfl rfl ?_
    refine wl_off rfl rfl rfl rfl ?_
    refine wl_pick_t rfl rfl rfl rfl ?_
    refine WL.nil ?_
    exact fun a ha => hJ9 (true) _ hF hB82 (hS83.sel [] rfl) a (ha.sub ⟨rfl, rfl, rfl, rfl, rfl, trivial⟩)
  · replace hF := ifN h85 hF
    refine wl_on rfl rfl h85 ?_
    refine wl_move rfl rfl ?_
    refine wl_on rfl rfl h85 ?_
    refine wl_lss rfl rfl rfl ?_
    refine wl_pick_f rfl rfl h85 rfl ?_
    refine wl_move rfl rfl ?_
    rcases bE (decide (x1 < 0)) with h86 | h86
    · replace hF := ifP h86 hF
      refine wl_off rfl rfl rfl h86 ?_
      refine wl_off rfl rfl rfl h86 ?_
      refine wl_off rfl rfl rfl h86 ?_
      refine wl_pick_t rfl rfl h86 rfl ?_
      refine wl_move rfl rfl ?_
      refine wl_off rfl rfl rfl rfl ?_
      refine wl_off rfl rfl rfl rfl ?_
      refine wl_off rfl rfl rfl rfl ?_
      refine wl_off rfl rfl rfl rfl ?_
      refine wl_pick_t rfl rfl rfl rfl ?_
      refine wl_move rfl rfl ?_
      refine wl_off rfl rfl rfl rfl ?_
      refine wl_off rfl rfl rfl rfl ?_
      refine wl_off rfl rfl rfl rfl ?_
      refine wl_pick_t rfl rfl rfl rfl ?_
      refine WL.nil ?_
      exact fun a ha => hJ9 (true) _ hF hB82 (hS83.sel [] rfl) a (ha.sub ⟨rfl, rfl, rfl, rfl, rfl, trivial⟩)
    · replace hF := ifN h86 hF
      refine wl_on rfl rfl h86 ?_
      refine wl_move rfl rfl ?_
      refine wl_on rfl rfl h86 ?_
      refine wl_move rfl rfl ?_
      refine wl_on rfl rfl h86 ?_
      refine wl_gtr rfl rfl rfl ?_
      refine wl_pick_f rfl rfl h86 rfl ?_
      refine wl_move rfl rfl ?_
      rcases bE (decide (x2 < x1)) with h87 | h87
      · replace hF := ifP h87 hF
        refine wl_off rfl rfl rfl h87 ?_
        refine wl_off rfl rfl rfl h87 ?_
        refine wl_off rfl rfl rfl h87 ?_
        refine wl_off rfl rfl rfl h87 ?_
        refine wl_pick_t rfl rfl h87 rfl ?_
        refine wl_move rfl rfl ?_
        refine wl_off rfl rfl rfl rfl ?_
        refine wl_off rfl rfl rfl rfl ?_
        refine wl_off rfl rfl rfl rfl ?_
        refine wl_pick_t rfl rfl rfl rfl ?_
        refine WL.nil ?_
        exact fun a ha => hJ9 (true) _ hF hB82 (hS83.sel [] rfl) a (ha.sub ⟨rfl, rfl, rfl, rfl, rfl, trivial⟩)
      · replace hF := ifN h87 hF
        refine wl_on rfl rfl h87 ?_
        refine wl_move rfl rfl ?_
        refine wl_on rfl rfl h87 ?_
        refine wl_move rfl rfl ?_
        refine wl_on rfl rfl h87 ?_
        refine wl_lenr (e := ty_93) (l := x0) Try.underlying41 rfl rfl h0_0 ?_
        refine wl_on rfl rfl h87 ?_
        refine wl_geq rfl rfl rfl ?_
        refine wl_pick_f rfl rfl h87 rfl ?_
        refine wl_move rfl rfl ?_
        rcases bE (decide ((List.length x0 : Int) ≤ x2)) with h88 | h88
        · replace hF := ifP h88 hF
          refine wl_off rfl rfl rfl h88 ?_
          refine wl_off rfl rfl rfl h88 ?_
          refine wl_off rfl rfl rfl h88 ?_
          refine wl_pick_t rfl rfl h88 rfl ?_
          refine WL.nil ?_
          exact fun a ha => hJ9 (true) _ hF hB82 (hS83.sel [] rfl) a (ha.sub ⟨rfl, rfl, rfl, rfl, rfl, trivial⟩)
        · replace hF := ifN h88 hF
          refine wl_on rfl rfl h88 ?_
          refine wl_move rfl rfl ?_
          refine wl_on rfl rfl h88 ?_
          obtain ⟨u89, hu89, hF⟩ := bindE hF
          refine wl_call rfl Try.call65 (C_impl_within w80 x3 1 10 _ hu89) rfl ?_
          rintro _ w90 ⟨rfl, hb91⟩
          refine ⟨_, rfl, ?_⟩
          have hB92 := hB82.trans (hb91.mono hB82.size)
          have hS93 := hS83.below hb91
          refine wl_on rfl rfl h88 ?_
          refine wl_not rfl rfl ?_
          refine wl_pick_f rfl rfl h88 rfl ?_
          refine WL.nil ?_
          exact fun a ha => hJ9 ((!u89)) _ hF hB92 (hS93.sel [] rfl) a (ha.sub ⟨rfl, rfl, rfl, rfl, rfl, trivial⟩)
theorem C_impl_CuesAfterRepeat (w0 : World) (x0 : (List (Int × Int))) (v0_0 : Value) (h0_0 : rdS ty_93 (· < w0.heap.size) w0 v0_0 x0) (x1 : (List (Int × (List UInt8)))) (v1_0 : Value) (h1_0 : rdS ty_56 (· < w0.heap.size) w0 v1_0 x1) (x2 : Int) (x3 : Int) (x4 : Int) (r : ((List (Int × (List UInt8))) × Bool)) (hF : F_impl_CuesAfterRepeat x0 x1 x2 x3 x4 = some r) :
    Calls Try.prog 59 [v0_0, v1_0, (.int .i64 x2), (.int .i64 x3), (.int .i64 x4)].toArray w0 fun e w' => ∃ (q0 : Value) (G0 : List Nat), e = .returned (.tuple #[q0, (.bool r.2)]) ∧ Below w0.heap.size w0 w' ∧ Sep w0.heap.size w' [R.own ty_56 G0 q0 r.1] := by
  refine calls_mk' Try.func59 rfl Try.ntmps59 rfl rfl fun Q hQ hP => ?_
  have hB : Below w0.heap.size w0 w0 := Below.refl _ _
  have hS : Sep w0.heap.size w0 [] := Sep.nil _ _
  unfold F_impl_CuesAfterRepeat at hF
  refine W.seq fun K1 hK1 => ?_
  refine W.region ?_
  refine wl_assign rfl rfl ?_
  refine wl_assign rfl rfl ?_
  refine WL.nil ?_
  refine fun a ha => hK1 _ _ ?_ a ha
  refine W.seq fun K2 hK2 => ?_
  refine W.seq fun K3 hK3 => ?_
  refine W.region ?_
  refine wl_move rfl rfl ?_
  refine wl_move rfl rfl ?_
  obtain ⟨u4, hu4, hF⟩ := bindE hF
  refine wl_call rfl Try.call75 (C_impl_haveCues w0 x0 v0_0 (h0_0.ro hB) x1 v1_0 (h1_0.ro hB) _ hu4) rfl ?_
  rintro _ w5 ⟨rfl, hb6⟩
  refine ⟨_, rfl, ?_⟩
  have hB7 := hB.trans (hb6.mono hB.size)
  have hS8 := hS.below hb6
  refine wl_not rfl rfl ?_
  refine WL.nil ?_
  refine fun a ha => hK3 _ _ ?_ a ha
  refine W.cond rfl (fun h10 => ?_) (fun h10 => ?_)
  · replace hF := ifP h10 hF
    refine W.seq fun K11 hK11 => ?_
    refine W.region ?_
    refine wl_assign rfl rfl ?_
    refine wl_assign rfl rfl ?_
    refine WL.nil ?_
    refine fun a ha => hK11 _ _ ?_ a ha
    refine W.ret ?_
    have hS12 := hS8.push0 (r := R.own ty_56 [] (.slice none 0 0) []) rfl fun _ => .inl ⟨rfl, rfl, rfl⟩
    have hr := Option.some.inj hF
    subst hr
    exact rets (vs := [(.slice none 0 0), (.bool false)]) hQ rfl ⟨rv_tmp rfl, rv_tmp rfl, trivial⟩ ⟨(.slice none 0 0), [], rfl, hB7, hS12.sel [0] rfl⟩
  · replace hF := ifN h10 hF
    refine W.skip ?_
    refine fun a ha => hK2 _ _ ?_ a ha
    refine W.seq fun K13 hK13 => ?_
    refine W.seq fun K14 hK14 => ?_
    refine W.region ?_
    refine wl_move rfl rfl ?_
    refine wl_move rfl rfl ?_
    refine wl_move rfl rfl ?_
    refine wl_move rfl rfl ?_
    obtain ⟨u15, hu15, hF⟩ := bindE hF
    refine wl_call rfl Try.call100 (C_impl_RepeatMeasures w5 x0 v0_0 (h0_0.ro hB7) x2 x3 x4 _ hu15) rfl ?_
    rintro _ w18 ⟨v16, F17, rfl, hb19, hM22⟩
    refine ⟨_, rfl, ?_⟩
    have hB20 := hB7.trans (hb19.mono hB7.size)
    have hS21 := hS8.join hb19 hM22 hB7.size
    refine wl_move rfl rfl ?_
    refine wl_extract rfl rfl rfl ?_
    refine wl_extract rfl rfl rfl ?_
    refine wl_assign rfl rfl ?_
    refine wl_assign rfl rfl ?_
    refine WL.nil ?_
    refine fun a ha => hK14 _ _ ?_ a ha
    refine W.seq fun K23 hK23 => ?_
    refine W.region ?_
    refine wl_move rfl rfl ?_
    refine wl_not rfl rfl ?_
    refine WL.nil ?_
    refine fun a ha => hK23 _ _ ?_ a ha
    refine W.cond rfl (fun h24 => ?_) (fun h24 => ?_)
    · replace hF := ifP h24 hF
      refine W.seq fun K25 hK25 => ?_
      refine W.region ?_
      refine wl_assign rfl rfl ?_
      refine wl_assign rfl rfl ?_
      refine WL.nil ?_
      refine fun a ha => hK25 _ _ ?_ a ha
      refine W.ret ?_
      have hS26 := hS21.push0 (r := R.own ty_56 [] (.slice none 0 0) []) rfl fun _ => .inl ⟨rfl, rfl, rfl⟩
      have hr := Option.some.inj hF
      subst hr
      exact rets (vs := [(.slice none 0 0), (.bool false)]) hQ rfl ⟨rv_tmp rfl, rv_tmp rfl, trivial⟩ ⟨(.slice none 0 0), [], rfl, hB20, hS26.sel [0] rfl⟩
    · replace hF := ifN h24 hF
      refine W.skip ?_
      refine fun a ha => hK13 _ _ ?_ a ha
      refine W.seq fun K27 hK27 => ?_
      refine W.regionH mixed_ [] hB20 hS21 ?_
      intro w28 hb29 hB30 hS31
      have hSW32 := KeepX.refl w28 []
      refine WH.takex (i := 0) rfl (by kernel_rfl) (by kernel_rfl) (by kernel_rfl) hP hSW32 ?_
      refine pr_move rfl rfl ?_
      refine WH.takex (i := 1) rfl (by kernel_rfl) (by kernel_rfl) (by kernel_rfl) hP hSW32 ?_
      refine pr_move rfl rfl ?_
      refine WH.takex (i := 2) rfl (by kernel_rfl) (by kernel_rfl) (by kernel_rfl) hP hSW32 ?_
      refine pr_add rfl rfl rfl ?_
      obtain ⟨u33, hu33, hF⟩ := bindE hF
      refine WH.takex (i := 3) rfl (by kernel_rfl) (by kernel_rfl) (by kernel_rfl) hP hSW32 ?_
      refine pr_slice (e := ty_93) Try.underlying41 rfl rfl h0_0 hu33 (.inl ⟨rfl, rfl⟩) (.inr ⟨_, _, rfl, rfl⟩) ?_
      intro v34 hv35
      refine WH.takex (i := 5) rfl (by kernel_rfl) (by kernel_rfl) (by kernel_rfl) hP hSW32 ?_
      refine pr_move rfl rfl ?_
      refine WH.takex (i := 6) rfl (by kernel_rfl) (by kernel_rfl) (by kernel_rfl) hP hSW32 ?_
      refine pr_sub rfl rfl rfl ?_
      refine WH.takex (i := 7) rfl (by kernel_rfl) (by kernel_rfl) (by kernel_rfl) hP hSW32 ?_
      refine pr_move rfl rfl ?_
      refine WH.takex (i := 8) rfl (by kernel_rfl) (by kernel_rfl) (by kernel_rfl) hP hSW32 ?_
      refine pr_move rfl rfl ?_
      refine WH.takex (i := 9) rfl (by kernel_rfl) (by kernel_rfl) (by kernel_rfl) hP hSW32 ?_
      refine pr_move rfl rfl ?_
      refine WH.takex (i := 10) rfl (by kernel_rfl) (by kernel_rfl) (by kernel_rfl) hP hSW32 ?_
      refine pr_add rfl rfl rfl ?_
      obtain ⟨u36, hu36, hF⟩ := bindE hF
      refine WH.takex (i := 11) rfl (by kernel_rfl) (by kernel_rfl) (by kernel_rfl) hP hSW32 ?_
      refine pr_slice (e := ty_93) Try.underlying41 rfl rfl h0_0 hu36 (.inr ⟨_, _, rfl, rfl⟩) (.inr ⟨_, _, rfl, rfl⟩) ?_
      intro v37 hv38
      refine WH.one (i := 4) (by kernel_rfl) rfl ?_
      obtain ⟨u39, hu39, hF⟩ := bindE hF
      refine wl_call rfl Try.call101 (C_impl_countsOf w28 u33 v34 (hv35.ro hB30) _ hu39) rfl ?_
      rintro _ w40 ⟨rfl, hb41⟩
      refine ⟨_, rfl, ?_⟩
      have hB42 := hB30.trans (hb41.mono hB30.size)
      have hS43 := hS31.below hb41
      have hSW45 := hSW32.ext hb41
      refine WL.nil (WH.ret hSW45 ?_)
      refine WH.one (i := 12) (by kernel_rfl) rfl ?_
      obtain ⟨u46, hu46, hF⟩ := bindE hF
      refine wl_call rfl Try.call101 (C_impl_countsOf w40 u36 v37 (hv38.ro hB42) _ hu46) rfl ?_
      rintro _ w47 ⟨rfl, hb48⟩
      refine ⟨_, rfl, ?_⟩
      have hB49 := hB42.trans (hb48.mono hB42.size)
      have hS50 := hS43.below hb48
      have hSW52 := hSW45.ext hb48
      refine WL.nil (WH.ret hSW52 ?_)
      refine WH.takex (i := 13) rfl (by kernel_rfl) (by kernel_rfl) (by kernel_rfl) hP hSW52 ?_
      refine pr_mul rfl rfl rfl ?_
      refine WH.takex (i := 14) rfl (by kernel_rfl) (by kernel_rfl) (by kernel_rfl) hP hSW52 ?_
      refine pr_assign rfl rfl ?_
      refine WH.takex (i := 15) rfl (by kernel_rfl) (by kernel_rfl) (by kernel_rfl) hP hSW52 ?_
      refine pr_assign rfl rfl ?_
      refine WH.done (by kernel_rfl) ?_
      refine fun a ha => hK27 _ _ ?_ a ha
      refine W.seq fun K53 hK53 => ?_
      refine W.region ?_
      refine wl_lit (vs := []) (l := []) fl_56 Try.underlying43 rfl rfl rfl rfl rfl rfl hB49 hS50 ?_
      intro v54 F55 w56 hb57 hB58 hS59
      refine wl_assign rfl rfl ?_
      refine WL.nil ?_
      refine fun a ha => hK53 _ _ ?_ a ha
      refine W.seq fun K60 hK60 => ?_
      refine W.seq fun K61 hK61 => ?_
      refine W.region ?_
      refine wl_move rfl rfl ?_
      refine wl_lenr (e := ty_56) (l := x1) Try.underlying43 rfl rfl h1_0 ?_
      refine wl_move rfl rfl ?_
      refine WL.nil ?_
      refine fun a ha => hK61 _ _ ?_ a ha
      refine W.block ?_
      refine W.loopk (fun m a w62 => ∃ (l65 : (List (Int × (List UInt8)))) (y68 : Int) (v66 : Value) (F67 : List Nat), St 69 [(14, (.int .i64 u39)), (15, (.int .i64 (w64 ((w64 (x4 - 1)) * u46)))), (16, v66), (48, v1_0), (49, (.int .i64 (List.length x1 : Int))), (50, (.int .i64 y68))] a ∧ Below w0.heap.size w0 w62 ∧ Sep w0.heap.size w62 [R.own ty_56 F67 v66 l65] ∧ F_impl_CuesAfterRepeat_L1 x1 u39 x4 u46 m l65 y68 = some r) FU ?_ ?_
      ·
        exact fun a ha => ⟨[], 0, v54, F55, ha.sub ⟨rfl, rfl, rfl, rfl, rfl, rfl, trivial⟩, hB58, (hS59.sel [0] rfl), hF⟩
      ·
        rintro m71 a w62 ⟨l65, y68, v66, F67, ha, hB63, hS64, hF⟩ KL70 hKL70
        refine W.at ?_ ha
        cases m71 with
        | zero => exact noneE hF
        | succ m71 =>
          obtain ⟨nx69, hnx69⟩ : ∃ k, k = F_impl_CuesAfterRepeat_L1 x1 u39 x4 u46 m71 := ⟨_, rfl⟩
          rw [F_impl_CuesAfterRepeat_L1, ← hnx69] at hF
          refine W.seq fun K72 hK72 => ?_
          refine W.region ?_
          refine wl_lss rfl rfl rfl ?_
          refine WL.nil ?_
          refine fun a ha => hK72 _ _ ?_ a ha
          refine W.seq fun K73 hK73 => ?_
          refine W.cond rfl (fun h74 => ?_) (fun h74 => ?_)
          · replace hF := ifP h74 hF
            refine W.skip ?_
            refine fun a ha => hK73 _ _ ?_ a ha
            refine W.seq fun K75 hK75 => ?_
            refine W.block ?_
            refine W.seq fun K76 hK76 => ?_
            refine W.region ?_
            obtain ⟨u77, hu77, hF⟩ := bindE hF
            refine wl_index (e := ty_56) Try.underlying43 rfl rfl rfl h1_0 hu77 ?_
            rintro p78 _ rfl hp79
            refine wl_load_p (vs := [(.int .i64 u77.1), (.string (mkS u77.2))]) (v := (.agg #[(.int .i64 u77.1), (.string (mkS u77.2))])) tf_56 rfl rfl (hp79.ro hB63) rfl rfl ?_
            refine wl_alloc (cs := [(.int .i64 0), (.string (mkS []))]) tf_56 rfl rfl hB63 hS64 ?_
            intro b80 w81 hb82 hB83 hS84
            refine wl_store_blk (i := 0) (vs := [(.int .i64 u77.1), (.string (mkS u77.2))]) (cs' := [(.int .i64 u77.1), (.string (mkS u77.2))]) tf_56 rfl rfl rfl rfl hB83 hS84 rfl rfl ⟨rfl, rfl, trivial⟩ rfl ?_
            intro w85 hk88 hB86 hS87
            refine WL.nil ?_
            refine fun a ha => hK76 _ _ ?_ a ha
            refine W.seq fun K89 hK89 => ?_
            obtain ⟨k94, hk94, hF⟩ := jE1 hF
            have hJ95 : ∀ (y93 : Int) (w90 : World) (_ : k94 y93 = some r) (_ : Below w0.heap.size w0 w90) (_ : Sep w0.heap.size w90 [R.own ty_56 F67 v66 l65, R.blk b80 56 [(.int .i64 y93), (.string (mkS u77.2))]]), ∀ a, St 69 [(14, (.int .i64 u39)), (15, (.int .i64 (w64 ((w64 (x4 - 1)) * u46)))), (16, v66), (18, (.pointer (some ⟨b80, 0, none⟩))), (48, v1_0), (49, (.int .i64 (List.length x1 : Int))), (50, (.int .i64 y68))] a → K89 a w90 := by
              intro y93 w90 hF hB91 hS92
              subst hk94
              refine fun a ha => hK89 _ _ ?_ a ha
              refine W.region ?_
              refine wl_move rfl rfl ?_
              refine wl_load_blk (i := 1) (vs := [(.int .i64 y93), (.string (mkS u77.2))]) (v := (.agg #[(.int .i64 y93), (.string (mkS u77.2))])) tf_56 rfl rfl hS92 rfl rfl rfl ?_
              refine wl_lit (vs := [(.agg #[(.int .i64 y93), (.string (mkS u77.2))])]) (l := [(y93, u77.2)]) fl_56 Try.underlying43 rfl rfl rfl rfl rfl rfl hB91 hS92 ?_
              intro v96 F97 w98 hb99 hB100 hS101
              obtain ⟨u102, hu102, hF⟩ := bindE hF
              refine wl_append (i := 1) (S := (· < w98.heap.size)) fl_56 Try.underlying43 rfl rfl rfl hB100 hS101 rfl (hS101.own_ro (i := 0) rfl) hu102 ?_
              intro v103 F104 w105 hk106 hB107 hS108
              refine wl_assign rfl rfl ?_
              refine WL.nil ?_
              refine fun a ha => hK75 _ _ ?_ a ha
              refine W.region ?_
              refine wl_add rfl rfl rfl ?_
              refine wl_move rfl rfl ?_
              refine WL.nil ?_
              rw [hnx69] at hF
              exact fun a ha => hKL70 a _ m71 (Nat.lt_succ_self m71) ⟨u102, (w64 (y68 + 1)), v103, F104, ha.sub ⟨rfl, rfl, rfl, rfl, rfl, rfl, trivial⟩, hB107, (hS108.sel [1] rfl), hF⟩
            refine W.seq fun K109 hK109 => ?_
            refine W.region ?_
            refine wl_field (o := 0) (off' := 0) ff_56_0 rfl rfl rfl ?_
            refine wl_load_blk (i := 0) (vs := [(.int .i64 u77.1)]) (v := (.int .i64 u77.1)) tf_3 rfl rfl hS87 rfl rfl rfl ?_
            refine wl_move rfl rfl ?_
            refine wl_geq rfl rfl rfl ?_
            refine WL.nil ?_
            refine fun a ha => hK109 _ _ ?_ a ha
            refine W.cond rfl (fun h110 => ?_) (fun h110 => ?_)
            · replace hF := ifP h110 hF
              refine W.region ?_
              refine wl_field (o := 0) (off' := 0) ff_56_0 rfl rfl rfl ?_
              refine wl_load_blk (i := 0) (vs := [(.int .i64 u77.1)]) (v := (.int .i64 u77.1)) tf_3 rfl rfl hS87 rfl rfl rfl ?_
              refine wl_move rfl rfl ?_
              refine wl_add rfl rfl rfl ?_
              refine wl_field (o := 0) (off' := 0) ff_56_0 rfl rfl rfl ?_
              refine wl_store_blk (i := 0) (vs := [(.int .i64 (w64 (u77.1 + (w64 ((w64 (x4 - 1)) * u46)))))]) (cs' := [(.int .i64 (w64 (u77.1 + (w64 ((w64 (x4 - 1)) * u46))))), (.string (mkS u77.2))]) tf_3 rfl rfl rfl rfl hB86 hS87 rfl rfl ⟨rfl, trivial⟩ rfl ?_
              intro w111 hk114 hB112 hS113
              refine WL.nil ?_
              exact fun a ha => hJ95 ((w64 (u77.1 + (w64 ((w64 (x4 - 1)) * u46))))) _ hF hB112 (hS113.sel [1, 0] rfl) a (ha.sub ⟨rfl, rfl, rfl, rfl, rfl, rfl, rfl, trivial⟩)
            · replace hF := ifN h110 hF
              refine W.skip ?_
              exact fun a ha => hJ95 (u77.1) _ hF hB86 (hS87.sel [1, 0] rfl) a (ha.sub ⟨rfl, rfl, rfl, rfl, rfl, rfl, rfl, trivial⟩)
          · replace hF := ifN h74 hF
            refine W.exit ?_
            refine fun a ha => hK60 _ _ ?_ a ha
            refine W.seq fun K115 hK115 => ?_
            refine W.region ?_
            refine wl_move rfl rfl ?_
            refine wl_assign rfl rfl ?_
            refine wl_assign rfl rfl ?_
            refine WL.nil ?_
            refine fun a ha => hK115 _ _ ?_ a ha
            refine W.ret ?_
            have hr := Option.some.inj hF
            subst hr
            exact rets (vs := [v66, (.bool true)]) hQ rfl ⟨rv_tmp rfl, rv_tmp rfl, trivial⟩ ⟨v66, F67, rfl, hB63, hS64.sel [0] rfl⟩
theorem C_laws_FnExactCuesAfterRepeat (w0 : World) (x0 : (List (Int × Int))) (v0_0 : Value) (h0_0 : rdS ty_95 (· < w0.heap.size) w0 v0_0 x0) (x1 : (List (Int × (List UInt8)))) (v1_0 : Value) (h1_0 : rdS ty_53 (· < w0.heap.size) w0 v1_0 x1) (x2 : Int) (x3 : Int) (x4 : Int) (r : Bool) (hF : F_laws_FnExactCuesAfterRepeat x0 x1 x2 x3 x4 = some r) :
    Calls Try.prog 14 [v0_0, v1_0, (.int .i64 x2), (.int .i64 x3), (.int .i64 x4)].toArray w0 fun e w' => e = .returned (.bool r) ∧ Below w0.heap.size w0 w' := by
  refine calls_mk' Try.func14 rfl Try.ntmps14 rfl rfl fun Q hQ hP => ?_
  have hB : Below w0.heap.size w0 w0 := Below.refl _ _
  have hS : Sep w0.heap.size w0 [] := Sep.nil _ _
  unfold F_laws_FnExactCuesAfterRepeat at hF
  refine W.seq fun K1 hK1 => ?_
  refine W.region ?_
  refine wl_assign rfl rfl ?_
  refine WL.nil ?_
  refine fun a ha => hK1 _ _ ?_ a ha
  refine W.seq fun K2 hK2 => ?_
  refine W.region ?_
  refine wl_assign rfl rfl ?_
  refine WL.nil ?_
  refine fun a ha => hK2 _ _ ?_ a ha
  refine W.seq fun K3 hK3 => ?_
  refine W.region ?_
  refine wl_move rfl rfl ?_
  refine wl_move rfl rfl ?_
  obtain ⟨u4, hu4, hF⟩ := bindE hF
  refine wl_call rfl Try.call22 (C_laws_szMeasureS w0 x0 v0_0 (h0_0.ro hB) 1048576 _ hu4) rfl ?_
  rintro _ w5 ⟨rfl, hb6⟩
  refine ⟨_, rfl, ?_⟩
  have hB7 := hB.trans (hb6.mono hB.size)
  have hS8 := hS.below hb6
  refine wl_assign rfl rfl ?_
  refine WL.nil ?_
  refine fun a ha => hK3 _ _ ?_ a ha
  refine W.seq fun K10 hK10 => ?_
  refine W.seq fun K11 hK11 => ?_
  refine W.region ?_
  refine wl_move rfl rfl ?_
  refine wl_lss rfl rfl rfl ?_
  refine WL.nil ?_
  refine fun a ha => hK11 _ _ ?_ a ha
  refine W.cond rfl (fun h12 => ?_) (fun h12 => ?_)
  · replace hF := ifP h12 hF
    refine W.seq fun K13 hK13 => ?_
    refine W.region ?_
    refine wl_assign rfl rfl ?_
    refine WL.nil ?_
    refine fun a ha => hK13 _ _ ?_ a ha
    refine W.ret ?_
    have hr := Option.some.inj hF
    subst hr
    exact rets (vs := [(.bool true)]) hQ rfl ⟨rv_tmp rfl, trivial⟩ ⟨rfl, hB7⟩
  · replace hF := ifN h12 hF
    refine W.skip ?_
    refine fun a ha => hK10 _ _ ?_ a ha
    refine W.seq fun K14 hK14 => ?_
    refine W.region ?_
    refine wl_move rfl rfl ?_
    refine wl_move rfl rfl ?_
    obtain ⟨u15, hu15, hF⟩ := bindE hF
    refine wl_call rfl Try.call23 (C_laws_szCueS w5 x1 v1_0 (h1_0.ro hB7) u4 _ hu15) rfl ?_
    rintro _ w16 ⟨rfl, hb17⟩
    refine ⟨_, rfl, ?_⟩
    have hB18 := hB7.trans (hb17.mono hB7.size)
    have hS19 := hS8.below hb17
    refine wl_assign rfl rfl ?_
    refine WL.nil ?_
    refine fun a ha => hK14 _ _ ?_ a ha
    refine W.seq fun K21 hK21 => ?_
    refine W.seq fun K22 hK22 => ?_
    refine W.region ?_
    refine wl_move rfl rfl ?_
    refine wl_lss rfl rfl rfl ?_
    refine WL.nil ?_
    refine fun a ha => hK22 _ _ ?_ a ha
    refine W.cond rfl (fun h23 => ?_) (fun h23 => ?_)
    · replace hF := ifP h23 hF
      refine W.seq fun K24 hK24 => ?_
      refine W.region ?_
      refine wl_assign rfl rfl ?_
      refine WL.nil ?_
      refine fun a ha => hK24 _ _ ?_ a ha
      refine W.ret ?_
      have hr := Option.some.inj hF
      subst hr
      exact rets (vs := [(.bool true)]) hQ rfl ⟨rv_tmp rfl, trivial⟩ ⟨rfl, hB18⟩
    · replace hF := ifN h23 hF
      refine W.skip ?_
      refine fun a ha => hK21 _ _ ?_ a ha
      refine W.seq fun K25 hK25 => ?_
      refine W.region ?_
      refine wl_move rfl rfl ?_
      obtain ⟨u26, hu26, hF⟩ := bindE hF
      refine wl_call rfl Try.call25 (C_laws_toMeasureS w16 x0 v0_0 (h0_0.ro hB18) _ hu26) rfl ?_
      rintro _ w29 ⟨v27, F28, rfl, hb30, hM33⟩
      refine ⟨_, rfl, ?_⟩
      have hB31 := hB18.trans (hb30.mono hB18.size)
      have hS32 := hS19.join hb30 hM33 hB18.size
      refine wl_move rfl rfl ?_
      obtain ⟨u34, hu34, hF⟩ := bindE hF
      refine wl_call rfl Try.call26 (C_laws_toCueS w29 x1 v1_0 (h1_0.ro hB31) _ hu34) rfl ?_
      rintro _ w37 ⟨v35, F36, rfl, hb38, hM41⟩
      refine ⟨_, rfl, ?_⟩
      have hB39 := hB31.trans (hb38.mono hB31.size)
      have hS40 := hS32.join hb38 hM41 hB31.size
      refine wl_move rfl rfl ?_
      refine wl_move rfl rfl ?_
      refine wl_move rfl rfl ?_
      obtain ⟨u42, hu42, hF⟩ := bindE hF
      refine wl_call rfl Try.call58 (C_spec_CuesAfterRepeat w37 u26 v27 (hS40.own_ro (i := 1) rfl) u34 v35 (hS40.own_ro (i := 0) rfl) x2 x3 x4 _ hu42) rfl ?_
      rintro _ w45 ⟨v43, F44, rfl, hb46, hM49⟩
      refine ⟨_, rfl, ?_⟩
      have hB47 := hB39.trans (hb46.mono hB39.size)
      have hS48 := hS40.join hb46 hM49 hB39.size
      refine wl_move rfl rfl ?_
      refine wl_extract rfl rfl rfl ?_
      refine wl_extract rfl rfl rfl ?_
      refine wl_assign rfl rfl ?_
      refine wl_assign rfl rfl ?_
      refine WL.nil ?_
      refine fun a ha => hK25 _ _ ?_ a ha
      refine W.seq fun K50 hK50 => ?_
      refine W.region ?_
      refine wl_move rfl rfl ?_
      obtain ⟨u51, hu51, hF⟩ := bindE hF
      refine wl_call rfl Try.call25 (C_laws_toMeasureS w45 x0 v0_0 (h0_0.ro hB47) _ hu51) rfl ?_
      rintro _ w54 ⟨v52, F53, rfl, hb55, hM58⟩
      refine ⟨_, rfl, ?_⟩
      have hB56 := hB47.trans (hb55.mono hB47.size)
      have hS57 := hS48.join hb55 hM58 hB47.size
      refine wl_assign rfl rfl ?_
      refine WL.nil ?_
      refine fun a ha => hK50 _ _ ?_ a ha
      refine W.seq fun K59 hK59 => ?_
      refine W.region ?_
      refine wl_move rfl rfl ?_
      obtain ⟨u60, hu60, hF⟩ := bindE hF
      refine wl_call rfl Try.call26 (C_laws_toCueS w54 x1 v1_0 (h1_0.ro hB56) _ hu60) rfl ?_
      rintro _ w63 ⟨v61, F62, rfl, hb64, hM67⟩
      refine ⟨_, rfl, ?_⟩
      have hB65 := hB56.trans (hb64.mono hB56.size)
      have hS66 := hS57.join hb64 hM67 hB56.size
      refine wl_assign rfl rfl ?_
      refine WL.nil ?_
      refine fun a ha => hK59 _ _ ?_ a ha
      refine W.seq fun K68 hK68 => ?_
      refine W.region ?_
      refine wl_move rfl rfl ?_
      refine wl_move rfl rfl ?_
      refine wl_move rfl rfl ?_
      refine wl_move rfl rfl ?_
      refine wl_move rfl rfl ?_
      obtain ⟨u69, hu69, hF⟩ := bindE hF
      refine wl_call rfl Try.call59 (C_impl_CuesAfterRepeat w63 u51 v52 (hS66.own_ro (i := 1) rfl) u60 v61 (hS66.own_ro (i := 0) rfl) x2 x3 x4 _ hu69) rfl ?_
      rintro _ w72 ⟨v70, F71, rfl, hb73, hM76⟩
      refine ⟨_, rfl, ?_⟩
      have hB74 := hB65.trans (hb73.mono hB65.size)
      have hS75 := hS66.join hb73 hM76 hB65.size
      refine wl_move rfl rfl ?_
      refine wl_extract rfl rfl rfl ?_
      refine wl_extract rfl rfl rfl ?_
      refine wl_assign rfl rfl ?_
      refine wl_assign rfl rfl ?_
      refine WL.nil ?_
      refine fun a ha => hK68 _ _ ?_ a ha
      refine W.seq fun K77 hK77 => ?_
      refine W.seq fun K78 hK78 => ?_
      obtain ⟨k83, hk83, hF⟩ := jE1 hF
      have hJ84 : ∀ (y82 : Bool) (w79 : World) (_ : k83 y82 = some r) (_ : Below w0.heap.size w0 w79) (_ : Sep w0.heap.size w79 [R.own ty_56 F44 v43 u42.1, R.own ty_93 F53 v52 u51, R.own ty_56 F62 v61 u60, R.own ty_56 F71 v70 u69.1]), ∀ a, St 134 [(0, v0_0), (1, v1_0), (2, (.int .i64 x2)), (3, (.int .i64 x3)), (4, (.int .i64 x4)), (12, v43), (13, (.bool u42.2)), (14, v52), (15, v61), (16, v70), (17, (.bool u69.2)), (65, (.bool y82))] a → K78 a w79 := by
        intro y82 w79 hF hB80 hS81
        subst hk83
        refine fun a ha => hK78 _ _ ?_ a ha
        refine W.cond rfl (fun h85 => ?_) (fun h85 => ?_)
        · replace hF := ifP h85 hF
          refine W.seq fun K86 hK86 => ?_
          refine W.region ?_
          refine wl_assign rfl rfl ?_
          refine WL.nil ?_
          refine fun a ha => hK86 _ _ ?_ a ha
          refine W.ret ?_
          have hr := Option.some.inj hF
          subst hr
          exact rets (vs := [(.bool false)]) hQ rfl ⟨rv_tmp rfl, trivial⟩ ⟨rfl, hB80⟩
        · replace hF := ifN h85 hF
          refine W.skip ?_
          refine fun a ha => hK77 _ _ ?_ a ha
          refine W.seq fun K87 hK87 => ?_
          refine W.seq fun K88 hK88 => ?_
          refine W.region ?_
          refine wl_move rfl rfl ?_
          refine wl_move rfl rfl ?_
          obtain ⟨u89, hu89, hF⟩ := bindE hF
          refine wl_call rfl Try.call25 (C_laws_toMeasureS w79 x0 v0_0 (h0_0.ro hB80) _ hu89) rfl ?_
          rintro _ w92 ⟨v90, F91, rfl, hb93, hM96⟩
          refine ⟨_, rfl, ?_⟩
          have hB94 := hB80.trans (hb93.mono hB80.size)
          have hS95 := hS81.join hb93 hM96 hB80.size
          obtain ⟨u97, hu97, hF⟩ := bindE hF
          refine wl_call rfl Try.call28 (C_laws_eqMeasureS w92 u51 v52 (hS95.own_ro (i := 2) rfl) u89 v90 (hS95.own_ro (i := 0) rfl) _ hu97) rfl ?_
          rintro _ w98 ⟨rfl, hb99⟩
          refine ⟨_, rfl, ?_⟩
          have hB100 := hB94.trans (hb99.mono hB94.size)
          have hS101 := hS95.below hb99
          refine wl_not rfl rfl ?_
          refine WL.nil ?_
          refine fun a ha => hK88 _ _ ?_ a ha
          refine W.cond rfl (fun h103 => ?_) (fun h103 => ?_)
          · replace hF := ifP h103 hF
            refine W.seq fun K104 hK104 => ?_
            refine W.region ?_
            refine wl_assign rfl rfl ?_
            refine WL.nil ?_
            refine fun a ha => hK104 _ _ ?_ a ha
            refine W.ret ?_
            have hr := Option.some.inj hF
            subst hr
            exact rets (vs := [(.bool false)]) hQ rfl ⟨rv_tmp rfl, trivial⟩ ⟨rfl, hB100⟩
          · replace hF := ifN h103 hF
            refine W.skip ?_
            refine fun a ha => hK87 _ _ ?_ a ha
            refine W.seq fun K105 hK105 => ?_
            refine W.seq fun K106 hK106 => ?_
            refine W.region ?_
            refine wl_move rfl rfl ?_
            refine wl_move rfl rfl ?_
            obtain ⟨u107, hu107, hF⟩ := bindE hF
            refine wl_call rfl Try.call26 (C_laws_toCueS w98 x1 v1_0 (h1_0.ro hB100) _ hu107) rfl ?_
            rintro _ w110 ⟨v108, F109, rfl, hb111, hM114⟩
            refine ⟨_, rfl, ?_⟩
            have hB112 := hB100.trans (hb111.mono hB100.size)
            have hS113 := hS101.join hb111 hM114 hB100.size
            obtain ⟨u115, hu115, hF⟩ := bindE hF
            refine wl_call rfl Try.call29 (C_laws_eqCueS w110 u60 v61 (hS113.own_ro (i := 4) rfl) u107 v108 (hS113.own_ro (i := 0) rfl) _ hu115) rfl ?_
            rintro _ w116 ⟨rfl, hb117⟩
            refine ⟨_, rfl, ?_⟩
            have hB118 := hB112.trans (hb117.mono hB112.size)
            have hS119 := hS113.below hb117
            refine wl_not rfl rfl ?_
            refine WL.nil ?_
            refine fun a ha => hK106 _ _ ?_ a ha
            refine W.cond rfl (fun h121 => ?_) (fun h121 => ?_)
            · replace hF := ifP h121 hF
              refine W.seq fun K122 hK122 => ?_
              refine W.region ?_
              refine wl_assign rfl rfl ?_
              refine WL.nil ?_
              refine fun a ha => hK122 _ _ ?_ a ha
              refine W.ret ?_
              have hr := Option.some.inj hF
              subst hr
              exact rets (vs := [(.bool false)]) hQ rfl ⟨rv_tmp rfl, trivial⟩ ⟨rfl, hB118⟩
            · replace hF := ifN h121 hF
              refine W.skip ?_
              refine fun a ha => hK105 _ _ ?_ a ha
              refine W.seq fun K123 hK123 => ?_
              refine W.region ?_
              refine wl_assign rfl rfl ?_
              refine WL.nil ?_
              refine fun a ha => hK123 _ _ ?_ a ha
              refine W.seq fun K124 hK124 => ?_
              refine W.region ?_
              refine wl_move rfl rfl ?_
              refine wl_move rfl rfl ?_
              obtain ⟨u125, hu125, hF⟩ := bindE hF
              refine wl_call rfl Try.call32 (C_laws_markMeasureS w116 u51 v52 F53 1 (hS119.sel [3] rfl).base0 _ hu125) rfl ?_
              rintro _ w126 ⟨rfl, hE127, hM128⟩
              refine ⟨_, rfl, ?_⟩
              have hB129 := hS119.mutB [3] rfl (M := [R.own ty_93 F53 v52 u51]) rfl (M' := [R.own ty_93 F53 v52 u125.2]) rfl hB118 hB118.size hE127 hM128
              have hS130 : Sep w0.heap.size w126 [R.own ty_93 F53 v52 u125.2, R.own ty_56 F109 v108 u107, R.own ty_93 F91 v90 u89, R.own ty_56 F44 v43 u42.1, R.own ty_56 F62 v61 u60, R.own ty_56 F71 v70 u69.1] := hS119.mut [3] [0, 1, 2, 4, 5] rfl (M := [R.own ty_93 F53 v52 u51]) rfl (M' := [R.own ty_93 F53 v52 u125.2]) rfl hM128
              refine wl_assign rfl rfl ?_
              refine WL.nil ?_
              refine fun a ha => hK124 _ _ ?_ a ha
              refine W.seq fun K131 hK131 => ?_
              refine W.region ?_
              refine wl_move rfl rfl ?_
              refine wl_move rfl rfl ?_
              obtain ⟨u132, hu132, hF⟩ := bindE hF
              refine wl_call rfl Try.call33 (C_laws_markCueS w126 u60 v61 F62 u125.1 (hS130.sel [4] rfl).base0 _ hu132) rfl ?_
              rintro _ w133 ⟨rfl, hE134, hM135⟩
              refine ⟨_, rfl, ?_⟩
              have hB136 := hS130.mutB [4] rfl (M := [R.own ty_56 F62 v61 u60]) rfl (M' := [R.own ty_56 F62 v61 u132.2]) rfl hB129 hB129.size hE134 hM135
              have hS137 : Sep w0.heap.size w133 [R.own ty_56 F62 v61 u132.2, R.own ty_93 F53 v52 u125.2, R.own ty_56 F109 v108 u107, R.own ty_93 F91 v90 u89, R.own ty_56 F44 v43 u42.1, R.own ty_56 F71 v70 u69.1] := hS130.mut [4] [0, 1, 2, 3, 5] rfl (M := [R.own ty_56 F62 v61 u60]) rfl (M' := [R.own ty_56 F62 v61 u132.2]) rfl hM135
              refine wl_assign rfl rfl ?_
              refine WL.nil ?_
              refine fun a ha => hK131 _ _ ?_ a ha
              refine W.seq fun K138 hK138 => ?_
              refine W.seq fun K139 hK139 => ?_
              obtain ⟨k144, hk144, hF⟩ := jE1 hF
              have hJ145 : ∀ (y143 : Bool) (w140 : World) (_ : k144 y143 = some r) (_ : Below w0.heap.size w0 w140) (_ : Sep w0.heap.size w140 [R.own ty_56 F44 v43 u42.1, R.own ty_56 F71 v70 u69.1]), ∀ a, St 134 [(0, v0_0), (1, v1_0), (2, (.int .i64 x2)), (3, (.int .i64 x3)), (4, (.int .i64 x4)), (12, v43), (13, (.bool u42.2)), (16, v70), (94, (.bool y143))] a → K139 a w140 := by
                intro y143 w140 hF hB141 hS142
                subst hk144
                refine fun a ha => hK139 _ _ ?_ a ha
                refine W.cond rfl (fun h146 => ?_) (fun h146 => ?_)
                · replace hF := ifP h146 hF
                  refine W.seq fun K147 hK147 => ?_
                  refine W.region ?_
                  refine wl_assign rfl rfl ?_
                  refine WL.nil ?_
                  refine fun a ha => hK147 _ _ ?_ a ha
                  refine W.ret ?_
                  have hr := Option.some.inj hF
                  subst hr
                  exact rets (vs := [(.bool false)]) hQ rfl ⟨rv_tmp rfl, trivial⟩ ⟨rfl, hB141⟩
                · replace hF := ifN h146 hF
                  refine W.skip ?_
                  refine fun a ha => hK138 _ _ ?_ a ha
                  refine W.seq fun K148 hK148 => ?_
                  refine W.region ?_
                  refine wl_assign rfl rfl ?_
                  refine WL.nil ?_
                  refine fun a ha => hK148 _ _ ?_ a ha
                  refine W.seq fun K149 hK149 => ?_
                  refine W.region ?_
                  refine wl_move rfl rfl ?_
                  refine wl_move rfl rfl ?_
                  obtain ⟨u150, hu150, hF⟩ := bindE hF
                  refine wl_call rfl Try.call33 (C_laws_markCueS w140 u69.1 v70 F71 1 (hS142.sel [1] rfl).base0 _ hu150) rfl ?_
                  rintro _ w151 ⟨rfl, hE152, hM153⟩
                  refine ⟨_, rfl, ?_⟩
                  have hB154 := hS142.mutB [1] rfl (M := [R.own ty_56 F71 v70 u69.1]) rfl (M' := [R.own ty_56 F71 v70 u150.2]) rfl hB141 hB141.size hE152 hM153
                  have hS155 : Sep w0.heap.size w151 [R.own ty_56 F71 v70 u150.2, R.own ty_56 F44 v43 u42.1] := hS142.mut [1] [0] rfl (M := [R.own ty_56 F71 v70 u69.1]) rfl (M' := [R.own ty_56 F71 v70 u150.2]) rfl hM153
                  refine wl_assign rfl rfl ?_
                  refine WL.nil ?_
                  refine fun a ha => hK149 _ _ ?_ a ha
                  refine W.seq fun K156 hK156 => ?_
                  refine W.region ?_
                  refine wl_assign rfl rfl ?_
                  refine WL.nil ?_
                  refine fun a ha => hK156 _ _ ?_ a ha
                  refine W.seq fun K157 hK157 => ?_
                  refine W.region ?_
                  refine wl_move rfl rfl ?_
                  refine wl_move rfl rfl ?_
                  obtain ⟨u158, hu158, hF⟩ := bindE hF
                  refine wl_call rfl Try.call34 (C_laws_heldCueS w151 u150.2 v70 (hS155.own_ro (i := 0) rfl) 1 _ hu158) rfl ?_
                  rintro _ w159 ⟨rfl, hb160⟩
                  refine ⟨_, rfl, ?_⟩
                  have hB161 := hB154.trans (hb160.mono hB154.size)
                  have hS162 := hS155.below hb160
                  refine wl_assign rfl rfl ?_
                  refine WL.nil ?_
                  refine fun a ha => hK157 _ _ ?_ a ha
                  refine W.seq fun K164 hK164 => ?_
                  refine W.seq fun K165 hK165 => ?_
                  refine W.region ?_
                  refine wl_move rfl rfl ?_
                  refine wl_lss rfl rfl rfl ?_
                  refine WL.nil ?_
                  refine fun a ha => hK165 _ _ ?_ a ha
                  refine W.cond rfl (fun h166 => ?_) (fun h166 => ?_)
                  · replace hF := ifP h166 hF
                    refine W.seq fun K167 hK167 => ?_
                    refine W.region ?_
                    refine wl_assign rfl rfl ?_
                    refine WL.nil ?_
                    refine fun a ha => hK167 _ _ ?_ a ha
                    refine W.ret ?_
                    have hr := Option.some.inj hF
                    subst hr
                    exact rets (vs := [(.bool false)]) hQ rfl ⟨rv_tmp rfl, trivial⟩ ⟨rfl, hB161⟩
                  · replace hF := ifN h166 hF
                    refine W.skip ?_
                    refine fun a ha => hK164 _ _ ?_ a ha
                    refine W.seq fun K168 hK168 => ?_
                    refine W.seq fun K169 hK169 => ?_
                    refine W.region ?_
                    refine wl_move rfl rfl ?_
                    refine wl_move rfl rfl ?_
                    refine wl_neq rfl rfl rfl ?_
                    refine WL.nil ?_
                    refine fun a ha => hK169 _ _ ?_ a ha
                    refine W.cond rfl (fun h170 => ?_) (fun h170 => ?_)
                    · replace hF := ifP h170 hF
                      refine W.seq fun K171 hK171 => ?_
                      refine W.region ?_
                      refine wl_assign rfl rfl ?_
                      refine WL.nil ?_
                      refine fun a ha => hK171 _ _ ?_ a ha
                      refine W.ret ?_
                      have hr := Option.some.inj hF
                      subst hr
                      exact rets (vs := [(.bool false)]) hQ rfl ⟨rv_tmp rfl, trivial⟩ ⟨rfl, hB161⟩
                    · replace hF := ifN h170 hF
                      refine W.skip ?_
                      refine fun a ha => hK168 _ _ ?_ a ha
                      refine W.seq fun K172 hK172 => ?_
                      refine W.region ?_
                      refine wl_move rfl rfl ?_
                      obtain ⟨u173, hu173, hF⟩ := bindE hF
                      refine wl_call rfl Try.call25 (C_laws_toMeasureS w159 x0 v0_0 (h0_0.ro hB161) _ hu173) rfl ?_
                      rintro _ w176 ⟨v174, F175, rfl, hb177, hM180⟩
                      refine ⟨_, rfl, ?_⟩
                      have hB178 := hB161.trans (hb177.mono hB161.size)
                      have hS179 := hS162.join hb177 hM180 hB161.size
                      refine wl_move rfl rfl ?_
                      obtain ⟨u181, hu181, hF⟩ := bindE hF
                      refine wl_call rfl Try.call26 (C_laws_toCueS w176 x1 v1_0 (h1_0.ro hB178) _ hu181) rfl ?_
                      rintro _ w184 ⟨v182, F183, rfl, hb185, hM188⟩
                      refine ⟨_, rfl, ?_⟩
                      have hB186 := hB178.trans (hb185.mono hB178.size)
                      have hS187 := hS179.join hb185 hM188 hB178.size
                      refine wl_move rfl rfl ?_
                      refine wl_move rfl rfl ?_
                      refine wl_move rfl rfl ?_
                      obtain ⟨u189, hu189, hF⟩ := bindE hF
                      refine wl_call rfl Try.call59 (C_impl_CuesAfterRepeat w184 u173 v174 (hS187.own_ro (i := 1) rfl) u181 v182 (hS187.own_ro (i := 0) rfl) x2 x3 x4 _ hu189) rfl ?_
                      rintro _ w192 ⟨v190, F191, rfl, hb193, hM196⟩
                      refine ⟨_, rfl, ?_⟩
                      have hB194 := hB186.trans (hb193.mono hB186.size)
                      have hS195 := hS187.join hb193 hM196 hB186.size
                      refine wl_move rfl rfl ?_
                      refine wl_extract rfl rfl rfl ?_
                      refine wl_extract rfl rfl rfl ?_
                      refine wl_assign rfl rfl ?_
                      refine wl_assign rfl rfl ?_
                      refine WL.nil ?_
                      refine fun a ha => hK172 _ _ ?_ a ha
                      refine W.seq fun K197 hK197 => ?_
                      refine W.seq fun K198 hK198 => ?_
                      obtain ⟨k203, hk203, hF⟩ := jE1 hF
                      have hJ204 : ∀ (y202 : Bool) (w199 : World) (_ : k203 y202 = some r) (_ : Below w0.heap.size w0 w199) (_ : Sep w0.heap.size w199 [R.own ty_56 F71 v70 u150.2]), ∀ a, St 134 [(16, v70), (19, (.int .i64 u150.1)), (125, (.bool y202))] a → K198 a w199 := by
                        intro y202 w199 hF hB200 hS201
                        subst hk203
                        refine fun a ha => hK198 _ _ ?_ a ha
                        refine W.cond rfl (fun h205 => ?_) (fun h205 => ?_)
                        · replace hF := ifP h205 hF
                          refine W.seq fun K206 hK206 => ?_
                          refine W.region ?_
                          refine wl_assign rfl rfl ?_
                          refine WL.nil ?_
                          refine fun a ha => hK206 _ _ ?_ a ha
                          refine W.ret ?_
                          have hr := Option.some.inj hF
                          subst hr
                          exact rets (vs := [(.bool false)]) hQ rfl ⟨rv_tmp rfl, trivial⟩ ⟨rfl, hB200⟩
                        · replace hF := ifN h205 hF
                          refine W.skip ?_
                          refine fun a ha => hK197 _ _ ?_ a ha
                          refine W.seq fun K207 hK207 => ?_
                          refine W.region ?_
                          refine wl_assign rfl rfl ?_
                          refine WL.nil ?_
                          refine fun a ha => hK207 _ _ ?_ a ha
                          refine W.seq fun K208 hK208 => ?_
                          refine W.region ?_
                          refine wl_move rfl rfl ?_
                          refine wl_move rfl rfl ?_
                          obtain ⟨u209, hu209, hF⟩ := bindE hF
                          refine wl_call rfl Try.call34 (C_laws_heldCueS w199 u150.2 v70 (hS201.own_ro (i := 0) rfl) 1 _ hu209) rfl ?_
                          rintro _ w210 ⟨rfl, hb211⟩
                          refine ⟨_, rfl, ?_⟩
                          have hB212 := hB200.trans (hb211.mono hB200.size)
                          have hS213 := hS201.below hb211
                          refine wl_assign rfl rfl ?_
                          refine WL.nil ?_
                          refine fun a ha => hK208 _ _ ?_ a ha
                          refine W.seq fun K215 hK215 => ?_
                          refine W.seq fun K216 hK216 => ?_
                          refine W.region ?_
                          refine wl_move rfl rfl ?_
                          refine wl_lss rfl rfl rfl ?_
                          refine WL.nil ?_
                          refine fun a ha => hK216 _ _ ?_ a ha
                          refine W.cond rfl (fun h217 => ?_) (fun h217 => ?_)
                          · replace hF := ifP h217 hF
                            refine W.seq fun K218 hK218 => ?_
                            refine W.region ?_
                            refine wl_assign rfl rfl ?_
                            refine WL.nil ?_
                            refine fun a ha => hK218 _ _ ?_ a ha
                            refine W.ret ?_
                            have hr := Option.some.inj hF
                            subst hr
                            exact rets (vs := [(.bool false)]) hQ rfl ⟨rv_tmp rfl, trivial⟩ ⟨rfl, hB212⟩
                          · replace hF := ifN h217 hF
                            refine W.skip ?_
                            refine fun a ha => hK215 _ _ ?_ a ha
                            refine W.seq fun K219 hK219 => ?_
                            refine W.seq fun K220 hK220 => ?_
                            refine W.region ?_
                            refine wl_move rfl rfl ?_
                            refine wl_move rfl rfl ?_
                            refine wl_neq rfl rfl rfl ?_
                            refine WL.nil ?_
                            refine fun a ha => hK220 _ _ ?_ a ha
                            refine W.cond rfl (fun h221 => ?_) (fun h221 => ?_)
                            · replace hF := ifP h221 hF
                              refine W.seq fun K222 hK222 => ?_
                              refine W.region ?_
                              refine wl_assign rfl rfl ?_
                              refine WL.nil ?_
                              refine fun a ha => hK222 _ _ ?_ a ha
                              refine W.ret ?_
                              have hr := Option.some.inj hF
                              subst hr
                              exact rets (vs := [(.bool false)]) hQ rfl ⟨rv_tmp rfl, trivial⟩ ⟨rfl, hB212⟩
                            · replace hF := ifN h221 hF
                              refine W.skip ?_
                              refine fun a ha => hK219 _ _ ?_ a ha
                              refine W.seq fun K223 hK223 => ?_
                              refine W.region ?_
                              refine wl_assign rfl rfl ?_
                              refine WL.nil ?_
                              refine fun a ha => hK223 _ _ ?_ a ha
                              refine W.ret ?_
                              have hr := Option.some.inj hF
                              subst hr
                              exact rets (vs := [(.bool true)]) hQ rfl ⟨rv_tmp rfl, trivial⟩ ⟨rfl, hB212⟩
                      refine W.region ?_
                      refine wl_move rfl rfl ?_
                      refine wl_move rfl rfl ?_
                      obtain ⟨u224, hu224, hF⟩ := bindE hF
                      refine wl_call rfl Try.call29 (C_laws_eqCueS w192 u189.1 v190 (hS195.own_ro (i := 0) rfl) u42.1 v43 (hS195.own_ro (i := 4) rfl) _ hu224) rfl ?_
                      rintro _ w225 ⟨rfl, hb226⟩
                      refine ⟨_, rfl, ?_⟩
                      have hB227 := hB194.trans (hb226.mono hB194.size)
                      have hS228 := hS195.below hb226
                      refine wl_not rfl rfl ?_
                      refine wl_move rfl rfl ?_
                      rcases bE (!u224) with h230 | h230
                      · replace hF := ifP h230 hF
                        refine wl_off rfl rfl rfl h230 ?_
                        refine wl_off rfl rfl rfl h230 ?_
                        refine wl_off rfl rfl rfl h230 ?_
                        refine wl_pick_t rfl rfl h230 rfl ?_
                        refine WL.nil ?_
                        exact fun a ha => hJ204 (true) _ hF hB227 (hS228.sel [3] rfl) a (ha.sub ⟨rfl, rfl, rfl, trivial⟩)
                      · replace hF := ifN h230 hF
                        refine wl_on rfl rfl h230 ?_
                        refine wl_move rfl rfl ?_
                        refine wl_on rfl rfl h230 ?_
                        refine wl_move rfl rfl ?_
                        refine wl_on rfl rfl h230 ?_
                        refine wl_neqb Try.underlying4 rfl rfl rfl ?_
                        refine wl_pick_f rfl rfl h230 rfl ?_
                        refine WL.nil ?_
                        exact fun a ha => hJ204 ((u189.2 != u42.2)) _ hF hB227 (hS228.sel [3] rfl) a (ha.sub ⟨rfl, rfl, rfl, trivial⟩)
              refine W.region ?_
              refine wl_move rfl rfl ?_
              refine wl_lss rfl rfl rfl ?_
              refine wl_move rfl rfl ?_
              rcases bE (decide (u132.1 < 0)) with h231 | h231
              · replace hF := ifP h231 hF
                refine wl_off rfl rfl rfl h231 ?_
                refine wl_off rfl rfl rfl h231 ?_
                refine wl_off rfl rfl rfl h231 ?_
                refine wl_off rfl rfl rfl h231 ?_
                refine wl_pick_t rfl rfl h231 rfl ?_
                refine wl_move rfl rfl ?_
                refine wl_off rfl rfl rfl rfl ?_
                refine wl_off rfl rfl rfl rfl ?_
                refine wl_off rfl rfl rfl rfl ?_
                refine wl_pick_t rfl rfl rfl rfl ?_
                refine WL.nil ?_
                exact fun a ha => hJ145 (true) _ hF hB136 (hS137.sel [4, 5] rfl) a (ha.sub ⟨rfl, rfl, rfl, rfl, rfl, rfl, rfl, rfl, rfl, trivial⟩)
              · replace hF := ifN h231 hF
                refine wl_on rfl rfl h231 ?_
                refine wl_move rfl rfl ?_
                refine wl_on rfl rfl h231 ?_
                refine wl_move rfl rfl ?_
                refine wl_on rfl rfl h231 ?_
                obtain ⟨u232, hu232, hF⟩ := bindE hF
                refine wl_call rfl Try.call29 (C_laws_eqCueS w133 u69.1 v70 (hS137.own_ro (i := 5) rfl) u42.1 v43 (hS137.own_ro (i := 4) rfl) _ hu232) rfl ?_
                rintro _ w233 ⟨rfl, hb234⟩
                refine ⟨_, rfl, ?_⟩
                have hB235 := hB136.trans (hb234.mono hB136.size)
                have hS236 := hS137.below hb234
                refine wl_on rfl rfl h231 ?_
                refine wl_not rfl rfl ?_
                refine wl_pick_f rfl rfl h231 rfl ?_
                refine wl_move rfl rfl ?_
                rcases bE (!u232) with h238 | h238
                · replace hF := ifP h238 hF
                  refine wl_off rfl rfl rfl h238 ?_
                  refine wl_off rfl rfl rfl h238 ?_
                  refine wl_off rfl rfl rfl h238 ?_
                  refine wl_pick_t rfl rfl h238 rfl ?_
                  refine WL.nil ?_
                  exact fun a ha => hJ145 (true) _ hF hB235 (hS236.sel [4, 5] rfl) a (ha.sub ⟨rfl, rfl, rfl, rfl, rfl, rfl, rfl, rfl, rfl, trivial⟩)
                · replace hF := ifN h238 hF
                  refine wl_on rfl rfl h238 ?_
                  refine wl_move rfl rfl ?_
                  refine wl_on rfl rfl h238 ?_
                  refine wl_move rfl rfl ?_
                  refine wl_on rfl rfl h238 ?_
                  refine wl_neqb Try.underlying4 rfl rfl rfl ?_
                  refine wl_pick_f rfl rfl h238 rfl ?_
                  refine WL.nil ?_
                  exact fun a ha => hJ145 ((u69.2 != u42.2)) _ hF hB235 (hS236.sel [4, 5] rfl) a (ha.sub ⟨rfl, rfl, rfl, rfl, rfl, rfl, rfl, rfl, rfl, trivial⟩)
      refine W.region ?_
      refine wl_move rfl rfl ?_
      refine wl_move rfl rfl ?_
      obtain ⟨u239, hu239, hF⟩ := bindE hF
      refine wl_call rfl Try.call29 (C_laws_eqCueS w72 u69.1 v70 (hS75.own_ro (i := 0) rfl) u42.1 v43 (hS75.own_ro (i := 3) rfl) _ hu239) rfl ?_
      rintro _ w240 ⟨rfl, hb241⟩
      refine ⟨_, rfl, ?_⟩
      have hB242 := hB74.trans (hb241.mono hB74.size)
      have hS243 := hS75.below hb241
      refine wl_not rfl rfl ?_
      refine wl_move rfl rfl ?_
      rcases bE (!u239) with h245 | h245
      · replace hF := ifP h245 hF
        refine wl_off rfl rfl rfl h245 ?_
        refine wl_off rfl rfl rfl h245 ?_
        refine wl_off rfl rfl rfl h245 ?_
        refine wl_pick_t rfl rfl h245 rfl ?_
        refine WL.nil ?_
        exact fun a ha => hJ84 (true) _ hF hB242 (hS243.sel [3, 2, 1, 0] rfl) a (ha.sub ⟨rfl, rfl, rfl, rfl, rfl, rfl, rfl, rfl, rfl, rfl, rfl, rfl, trivial⟩)
      · replace hF := ifN h245 hF
        refine wl_on rfl rfl h245 ?_
        refine wl_move rfl rfl ?_
        refine wl_on rfl rfl h245 ?_
        refine wl_move rfl rfl ?_
        refine wl_on rfl rfl h245 ?_
        refine wl_neqb Try.underlying4 rfl rfl rfl ?_
        refine wl_pick_f rfl rfl h245 rfl ?_
        refine WL.nil ?_
        exact fun a ha => hJ84 ((u69.2 != u42.2)) _ hF hB242 (hS243.sel [3, 2, 1, 0] rfl) a (ha.sub ⟨rfl, rfl, rfl, rfl, rfl, rfl, rfl, rfl, rfl, rfl, rfl, rfl, trivial⟩)
end Go.Proofs.Ytmbhdelegdhieaa
