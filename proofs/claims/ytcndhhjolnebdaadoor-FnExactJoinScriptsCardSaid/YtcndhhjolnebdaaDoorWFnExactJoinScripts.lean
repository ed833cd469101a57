/-
  THE WALKS of functions of this seat, by program (gen.py).
-/
import Derived.Test.YtcndhhjolnebdaaDoorH
set_option linter.unusedSimpArgs false
set_option linter.unusedVariables false
set_option maxRecDepth 100000
namespace Go.Proofs.YtcndhhjolnebdaaDoor
open Go Go.RowKit
theorem C_spec_l1Split (w0 : World) (x0 : (List UInt8)) (x1 : Int) (r : (List (List UInt8))) (hF : F_spec_l1Split x0 x1 = some r) :
    Calls Tryd.prog 32 [(.string (mkS x0)), (.int .u8 x1)].toArray w0 fun e w' => ∃ (q0 : Value) (G0 : List Nat), e = .returned q0 ∧ Below w0.heap.size w0 w' ∧ Sep w0.heap.size w' [R.own ty_9 G0 q0 r] := by
  refine calls_mk' Tryd.func32 rfl Tryd.ntmps32 rfl rfl fun Q hQ hP => ?_
  have hB : Below w0.heap.size w0 w0 := Below.refl _ _
  have hS : Sep w0.heap.size w0 [] := Sep.nil _ _
  unfold F_spec_l1Split at hF
  refine W.seq fun K1 hK1 => ?_
  refine W.region ?_
  refine wl_assign rfl rfl ?_
  refine WL.nil ?_
  refine fun a ha => hK1 _ _ ?_ a ha
  refine W.seq fun K2 hK2 => ?_
  refine W.region ?_
  refine wl_assign rfl rfl ?_
  refine WL.nil ?_
  refine fun a ha => hK2 _ _ ?_ a ha
  refine W.seq fun K3 hK3 => ?_
  refine W.region ?_
  refine wl_assign rfl rfl ?_
  refine WL.nil ?_
  refine fun a ha => hK3 _ _ ?_ a ha
  refine W.seq fun K4 hK4 => ?_
  refine W.seq fun K5 hK5 => ?_
  refine W.region ?_
  refine wl_assign rfl rfl ?_
  refine WL.nil ?_
  refine fun a ha => hK5 _ _ ?_ a ha
  refine W.block ?_
  refine W.loopk (fun m a w6 => ∃ (l9 : (List (List UInt8))) (y12 : Int) (y13 : Int) (v10 : Value) (F11 : List Nat), St 34 [(0, (.string (mkS x0))), (1, (.int .u8 x1)), (5, v10), (6, (.int .i64 y12)), (7, (.int .i64 y13))] a ∧ Below w0.heap.size w0 w6 ∧ Sep w0.heap.size w6 [R.own ty_9 F11 v10 l9] ∧ F_spec_l1Split_L1 x0 x1 m l9 y12 y13 = some r) FU ?_ ?_
  ·
    have hS15 := hS.push0 (r := R.own ty_9 [] (.slice none 0 0) []) rfl fun _ => .inl ⟨rfl, rfl, rfl⟩
    exact fun a ha => ⟨[], 0, 0, (.slice none 0 0), [], ha.sub ⟨rfl, rfl, rfl, rfl, rfl, trivial⟩, hB, (hS15.sel [0] rfl), hF⟩
  ·
    rintro m17 a w6 ⟨l9, y12, y13, v10, F11, ha, hB7, hS8, hF⟩ KL16 hKL16
    refine W.at ?_ ha
    cases m17 with
    | zero => exact noneE hF
    | succ m17 =>
      obtain ⟨nx14, hnx14⟩ : ∃ k, k = F_spec_l1Split_L1 x0 x1 m17 := ⟨_, rfl⟩
      rw [F_spec_l1Split_L1, ← hnx14] at hF
      refine W.seq fun K18 hK18 => ?_
      refine W.seq fun K19 hK19 => ?_
      refine W.region ?_
      refine wl_move rfl rfl ?_
      refine wl_move rfl rfl ?_
      refine wl_strlen Tryd.underlying9 rfl rfl ?_
      refine wl_lss rfl rfl rfl ?_
      refine WL.nil ?_
      refine fun a ha => hK19 _ _ ?_ a ha
      refine W.cond rfl (fun h20 => ?_) (fun h20 => ?_)
      · replace hF := ifP h20 hF
        refine W.skip ?_
        refine fun a ha => hK18 _ _ ?_ a ha
        refine W.seq fun K21 hK21 => ?_
        obtain ⟨k29, hk29, hF⟩ := jE2 hF
        have hJ30 : ∀ (l25 : (List (List UInt8))) (y28 : Int) (v26 : Value) (F27 : List Nat) (w22 : World) (_ : k29 l25 y28 = some r) (_ : Below w0.heap.size w0 w22) (_ : Sep w0.heap.size w22 [R.own ty_9 F27 v26 l25]), ∀ a, St 34 [(0, (.string (mkS x0))), (1, (.int .u8 x1)), (5, v26), (6, (.int .i64 y28)), (7, (.int .i64 y13))] a → K21 a w22 := by
          intro l25 y28 v26 F27 w22 hF hB23 hS24
          subst hk29
          refine fun a ha => hK21 _ _ ?_ a ha
          refine W.region ?_
          refine wl_move rfl rfl ?_
          refine wl_add rfl rfl rfl ?_
          refine wl_assign rfl rfl ?_
          refine WL.nil ?_
          rw [hnx14] at hF
          exact fun a ha => hKL16 a _ m17 (Nat.lt_succ_self m17) ⟨l25, y28, (w64 (y13 + 1)), v26, F27, ha.sub ⟨rfl, rfl, rfl, rfl, rfl, trivial⟩, hB23, (hS24.sel [0] rfl), hF⟩
        refine W.block ?_
        refine W.seq fun K31 hK31 => ?_
        refine W.region ?_
        refine wl_move rfl rfl ?_
        refine wl_move rfl rfl ?_
        obtain ⟨u32, hu32, hF⟩ := bindE hF
        refine wl_strindex Tryd.underlying9 rfl rfl rfl hu32 ?_
        refine wl_move rfl rfl ?_
        refine wl_eql rfl rfl rfl ?_
        refine WL.nil ?_
        refine fun a ha => hK31 _ _ ?_ a ha
        refine W.cond rfl (fun h33 => ?_) (fun h33 => ?_)
        · replace hF := ifP h33 hF
          refine W.seq fun K34 hK34 => ?_
          refine W.region ?_
          refine wl_move rfl rfl ?_
          refine wl_move rfl rfl ?_
          refine wl_move rfl rfl ?_
          refine wl_move rfl rfl ?_
          obtain ⟨u35, hu35, hF⟩ := bindE hF
          refine wl_strslice Tryd.underlying9 rfl rfl hu35 (.inr ⟨_, _, rfl, rfl⟩) (.inr ⟨_, _, rfl, rfl⟩) ?_
          refine wl_lit (vs := [(.string (mkS u35))]) (l := [u35]) fl_9 Tryd.underlying37 rfl rfl rfl rfl rfl rfl hB7 hS8 ?_
          intro v36 F37 w38 hb39 hB40 hS41
          obtain ⟨u42, hu42, hF⟩ := bindE hF
          refine wl_append (i := 1) (S := (· < w38.heap.size)) fl_9 Tryd.underlying37 rfl rfl rfl hB40 hS41 rfl (hS41.own_ro (i := 0) rfl) hu42 ?_
          intro v43 F44 w45 hk46 hB47 hS48
          refine wl_assign rfl rfl ?_
          refine WL.nil ?_
          refine fun a ha => hK34 _ _ ?_ a ha
          refine W.region ?_
          refine wl_move rfl rfl ?_
          refine wl_add rfl rfl rfl ?_
          refine wl_assign rfl rfl ?_
          refine WL.nil ?_
          exact fun a ha => hJ30 (u42) ((w64 (y13 + 1))) (v43) (F44) _ hF hB47 (hS48.sel [1] rfl) a (ha.sub ⟨rfl, rfl, rfl, rfl, rfl, trivial⟩)
        · replace hF := ifN h33 hF
          refine W.skip ?_
          exact fun a ha => hJ30 (l9) (y12) (v10) (F11) _ hF hB7 (hS8.sel [0] rfl) a (ha.sub ⟨rfl, rfl, rfl, rfl, rfl, trivial⟩)
      · replace hF := ifN h20 hF
        refine W.exit ?_
        refine fun a ha => hK4 _ _ ?_ a ha
        refine W.seq fun K49 hK49 => ?_
        refine W.region ?_
        refine wl_move rfl rfl ?_
        refine wl_move rfl rfl ?_
        refine wl_move rfl rfl ?_
        obtain ⟨u50, hu50, hF⟩ := bindE hF
        refine wl_strslice Tryd.underlying9 rfl rfl hu50 (.inr ⟨_, _, rfl, rfl⟩) (.inl ⟨rfl, rfl⟩) ?_
        refine wl_lit (vs := [(.string (mkS u50))]) (l := [u50]) fl_9 Tryd.underlying37 rfl rfl rfl rfl rfl rfl hB7 hS8 ?_
        intro v51 F52 w53 hb54 hB55 hS56
        obtain ⟨u57, hu57, hF⟩ := bindE hF
        refine wl_append (i := 1) (S := (· < w53.heap.size)) fl_9 Tryd.underlying37 rfl rfl rfl hB55 hS56 rfl (hS56.own_ro (i := 0) rfl) hu57 ?_
        intro v58 F59 w60 hk61 hB62 hS63
        refine wl_assign rfl rfl ?_
        refine WL.nil ?_
        refine fun a ha => hK49 _ _ ?_ a ha
        refine W.ret ?_
        have hr := Option.some.inj hF
        subst hr
        exact rets (vs := [v58]) hQ rfl ⟨rv_tmp rfl, trivial⟩ ⟨v58, F59, rfl, hB62, hS63.sel [1] rfl⟩
theorem C_spec_csLines (w0 : World) (x0 : (List UInt8)) (r : ((List (List UInt8)) × Bool)) (hF : F_spec_csLines x0 = some r) :
    Calls Tryd.prog 15 [(.string (mkS x0))].toArray w0 fun e w' => ∃ (q0 : Value) (G0 : List Nat), e = .returned (.tuple #[q0, (.bool r.2)]) ∧ Below w0.heap.size w0 w' ∧ Sep w0.heap.size w' [R.own ty_9 G0 q0 r.1] := by
  refine calls_mk' Tryd.func15 rfl Tryd.ntmps15 rfl rfl fun Q hQ hP => ?_
  have hB : Below w0.heap.size w0 w0 := Below.refl _ _
  have hS : Sep w0.heap.size w0 [] := Sep.nil _ _
  unfold F_spec_csLines at hF
  refine W.seq fun K1 hK1 => ?_
  refine W.region ?_
  refine wl_assign rfl rfl ?_
  refine wl_assign rfl rfl ?_
  refine WL.nil ?_
  refine fun a ha => hK1 _ _ ?_ a ha
  refine W.seq fun K2 hK2 => ?_
  refine W.seq fun K3 hK3 => ?_
  obtain ⟨k8, hk8, hF⟩ := jE1 hF
  have hJ9 : ∀ (y7 : Bool) (w4 : World) (_ : k8 y7 = some r) (_ : Below w0.heap.size w0 w4) (_ : Sep w0.heap.size w4 []), ∀ a, St 31 [(0, (.string (mkS x0))), (19, (.bool y7))] a → K3 a w4 := by
    intro y7 w4 hF hB5 hS6
    subst hk8
    refine fun a ha => hK3 _ _ ?_ a ha
    refine W.cond rfl (fun h10 => ?_) (fun h10 => ?_)
    · replace hF := ifP h10 hF
      refine W.seq fun K11 hK11 => ?_
      refine W.region ?_
      refine wl_assign rfl rfl ?_
      refine wl_assign rfl rfl ?_
      refine WL.nil ?_
      refine fun a ha => hK11 _ _ ?_ a ha
      refine W.ret ?_
      have hS12 := hS6.push0 (r := R.own ty_9 [] (.slice none 0 0) []) rfl fun _ => .inl ⟨rfl, rfl, rfl⟩
      have hr := Option.some.inj hF
      subst hr
      exact rets (vs := [(.slice none 0 0), (.bool false)]) hQ rfl ⟨rv_tmp rfl, rv_tmp rfl, trivial⟩ ⟨(.slice none 0 0), [], rfl, hB5, hS12.sel [0] rfl⟩
    · replace hF := ifN h10 hF
      refine W.skip ?_
      refine fun a ha => hK2 _ _ ?_ a ha
      refine W.seq fun K13 hK13 => ?_
      refine W.region ?_
      refine wl_move rfl rfl ?_
      obtain ⟨u14, hu14, hF⟩ := bindE hF
      refine wl_call rfl Tryd.call32 (C_spec_l1Split w4 x0 10 _ hu14) rfl ?_
      rintro _ w17 ⟨v15, F16, rfl, hb18, hM21⟩
      refine ⟨_, rfl, ?_⟩
      have hB19 := hB5.trans (hb18.mono hB5.size)
      have hS20 := hS6.join hb18 hM21 hB5.size
      refine wl_assign rfl rfl ?_
      refine WL.nil ?_
      refine fun a ha => hK13 _ _ ?_ a ha
      refine W.seq fun K22 hK22 => ?_
      refine W.region ?_
      refine wl_move rfl rfl ?_
      refine wl_move rfl rfl ?_
      refine wl_lenr (e := ty_9) (l := u14) Tryd.underlying37 rfl rfl (hS20.own_ro (i := 0) rfl) ?_
      refine wl_sub rfl rfl rfl ?_
      obtain ⟨u23, hu23, hF⟩ := bindE hF
      refine wl_sliceof (e := ty_9) Tryd.underlying37 rfl rfl (hS20.ok (i := 0) rfl : ownS ty_9 _ _ _ _).rd hu23 (.inl ⟨rfl, rfl⟩) (.inr ⟨_, _, rfl, rfl⟩) ?_
      intro v24 hv27 hs26
      have hv25 := hv27.mono fun b hb => ((hS20.get (i := 0) rfl).2.1 b hb).2
      refine wl_assign rfl rfl ?_
      refine WL.nil ?_
      refine fun a ha => hK22 _ _ ?_ a ha
      refine W.seq fun K28 hK28 => ?_
      refine W.seq fun K29 hK29 => ?_
      refine W.region ?_
      refine wl_move rfl rfl ?_
      refine wl_lenr (e := ty_9) (l := u23) Tryd.underlying37 rfl rfl hv25 ?_
      refine wl_gtr rfl rfl rfl ?_
      refine WL.nil ?_
      refine fun a ha => hK29 _ _ ?_ a ha
      refine W.cond rfl (fun h30 => ?_) (fun h30 => ?_)
      · replace hF := ifP h30 hF
        refine W.seq fun K31 hK31 => ?_
        refine W.region ?_
        refine wl_assign rfl rfl ?_
        refine wl_assign rfl rfl ?_
        refine WL.nil ?_
        refine fun a ha => hK31 _ _ ?_ a ha
        refine W.ret ?_
        have hS32 := hS20.push0 (r := R.own ty_9 [] (.slice none 0 0) []) rfl fun _ => .inl ⟨rfl, rfl, rfl⟩
        have hr := Option.some.inj hF
        subst hr
        exact rets (vs := [(.slice none 0 0), (.bool false)]) hQ rfl ⟨rv_tmp rfl, rv_tmp rfl, trivial⟩ ⟨(.slice none 0 0), [], rfl, hB19, hS32.sel [0] rfl⟩
      · replace hF := ifN h30 hF
        refine W.skip ?_
        refine fun a ha => hK28 _ _ ?_ a ha
        refine W.seq fun K33 hK33 => ?_
        refine W.region ?_
        refine wl_move rfl rfl ?_
        refine wl_assign rfl rfl ?_
        refine wl_assign rfl rfl ?_
        refine WL.nil ?_
        refine fun a ha => hK33 _ _ ?_ a ha
        refine W.ret ?_
        obtain ⟨F35, hq36, hq37, hq38⟩ := own_pre (hS20.ok (i := 0) rfl : ownS ty_9 _ _ _ _) (hS20.get (i := 0) rfl).1 hs26 (sl_le hu23).1
        rw [show List.take (w64 ((List.length u14 : Int) - 1)).toNat u14 = u23 from (sl_le hu23).2.symm] at hq36
        have hS34 := (hS20.sel [0] rfl).shrink (r' := R.own ty_9 F35 v24 u23) hq37 hq38 fun _ hk => hq36.keep hk
        have hr := Option.some.inj hF
        subst hr
        exact rets (vs := [v24, (.bool true)]) hQ rfl ⟨rv_tmp rfl, rv_tmp rfl, trivial⟩ ⟨v24, F35, rfl, hB19, hS34.sel [0] rfl⟩
  refine W.region ?_
  refine wl_move rfl rfl ?_
  refine wl_strlen Tryd.underlying9 rfl rfl ?_
  refine wl_gtr rfl rfl rfl ?_
  refine wl_move rfl rfl ?_
  rcases bE (decide (2000 < (List.length x0 : Int))) with h40 | h40
  · replace hF := ifP h40 hF
    refine wl_off rfl rfl rfl h40 ?_
    refine wl_off rfl rfl rfl h40 ?_
    refine wl_off rfl rfl rfl h40 ?_
    refine wl_offu rfl rfl rfl ?_
    refine wl_offu rfl rfl rfl ?_
    refine wl_offu rfl rfl rfl ?_
    refine wl_offu rfl rfl rfl ?_
    refine wl_offu rfl rfl rfl ?_
    refine wl_offu rfl rfl rfl ?_
    refine wl_off rfl rfl rfl h40 ?_
    refine wl_pick_t rfl rfl h40 rfl ?_
    refine WL.nil ?_
    exact fun a ha => hJ9 (true) _ hF hB (hS.sel [] rfl) a (ha.sub ⟨rfl, rfl, trivial⟩)
  · replace hF := ifN h40 hF
    refine wl_on rfl rfl h40 ?_
    refine wl_move rfl rfl ?_
    refine wl_on rfl rfl h40 ?_
    refine wl_strneq rfl rfl rfl ?_
    refine wl_on rfl rfl h40 ?_
    refine wl_move rfl rfl ?_
    rcases bE (x0 != []) with h41 | h41
    · replace hF := ifP h41 hF
      refine wl_on rfl rfl h41 ?_
      refine wl_move rfl rfl ?_
      refine wl_on rfl rfl h41 ?_
      refine wl_move rfl rfl ?_
      refine wl_on rfl rfl h41 ?_
      refine wl_strlen Tryd.underlying9 rfl rfl ?_
      refine wl_on rfl rfl h41 ?_
      refine wl_sub rfl rfl rfl ?_
      refine wl_on rfl rfl h41 ?_
      obtain ⟨u42, hu42, hF⟩ := bindE hF
      refine wl_strindex Tryd.underlying9 rfl rfl rfl hu42 ?_
      refine wl_on rfl rfl h41 ?_
      refine wl_neq rfl rfl rfl ?_
      refine wl_on rfl rfl h40 ?_
      refine wl_pick_t rfl rfl h41 rfl ?_
      refine wl_pick_f rfl rfl h40 rfl ?_
      refine WL.nil ?_
      exact fun a ha => hJ9 (((UInt8.toNat u42 : Int) != 10)) _ hF hB (hS.sel [] rfl) a (ha.sub ⟨rfl, rfl, trivial⟩)
    · replace hF := ifN h41 hF
      refine wl_off rfl rfl rfl h41 ?_
      refine wl_off rfl rfl rfl h41 ?_
      refine wl_off rfl rfl rfl h41 ?_
      refine wl_off rfl rfl rfl h41 ?_
      refine wl_off rfl rfl rfl h41 ?_
      refine wl_off rfl rfl rfl h41 ?_
      refine wl_on rfl rfl h40 ?_
      refine wl_pick_f rfl rfl h41 rfl ?_
      refine wl_pick_f rfl rfl h40 rfl ?_
      refine WL.nil ?_
      exact fun a ha => hJ9 (false) _ hF hB (hS.sel [] rfl) a (ha.sub ⟨rfl, rfl, trivial⟩)
theorem C_spec_JoinScripts (w0 : World) (x0 : (List UInt8)) (x1 : (List UInt8)) (r : ((List UInt8) × Bool)) (hF : F_spec_JoinScripts x0 x1 = some r) :
    Calls Tryd.prog 5 [(.string (mkS x0)), (.string (mkS x1))].toArray w0 fun e w' => e = .returned (.tuple #[(.string (mkS r.1)), (.bool r.2)]) ∧ Below w0.heap.size w0 w' := by
  refine calls_mk' Tryd.func5 rfl Tryd.ntmps5 rfl rfl fun Q hQ hP => ?_
  have hB : Below w0.heap.size w0 w0 := Below.refl _ _
  have hS : Sep w0.heap.size w0 [] := Sep.nil _ _
  unfold F_spec_JoinScripts at hF
  refine W.seq fun K1 hK1 => ?_
  refine W.region ?_
  refine wl_assign rfl rfl ?_
  refine wl_assign rfl rfl ?_
  refine WL.nil ?_
  refine fun a ha => hK1 _ _ ?_ a ha
  refine W.seq fun K2 hK2 => ?_
  refine W.region ?_
  refine wl_move rfl rfl ?_
  obtain ⟨u3, hu3, hF⟩ := bindE hF
  refine wl_call rfl Tryd.call15 (C_spec_csLines w0 x0 _ hu3) rfl ?_
  rintro _ w6 ⟨v4, F5, rfl, hb7, hM10⟩
  refine ⟨_, rfl, ?_⟩
  have hB8 := hB.trans (hb7.mono hB.size)
  have hS9 := hS.join hb7 hM10 hB.size
  refine wl_move rfl rfl ?_
  refine wl_extract rfl rfl rfl ?_
  refine wl_extract rfl rfl rfl ?_
  refine wl_assign rfl rfl ?_
  refine wl_assign rfl rfl ?_
  refine WL.nil ?_
  refine fun a ha => hK2 _ _ ?_ a ha
  refine W.seq fun K11 hK11 => ?_
  refine W.region ?_
  refine wl_move rfl rfl ?_
  obtain ⟨u12, hu12, hF⟩ := bindE hF
  refine wl_call rfl Tryd.call15 (C_spec_csLines w6 x1 _ hu12) rfl ?_
  rintro _ w15 ⟨v13, F14, rfl, hb16, hM19⟩
  refine ⟨_, rfl, ?_⟩
  have hB17 := hB8.trans (hb16.mono hB8.size)
  have hS18 := hS9.join hb16 hM19 hB8.size
  refine wl_move rfl rfl ?_
  refine wl_extract rfl rfl rfl ?_
  refine wl_extract rfl rfl rfl ?_
  refine wl_assign rfl rfl ?_
  refine wl_assign rfl rfl ?_
  refine WL.nil ?_
  refine fun a ha => hK11 _ _ ?_ a ha
  refine W.seq fun K20 hK20 => ?_
  refine W.region ?_
  refine wl_move rfl rfl ?_
  refine wl_move rfl rfl ?_
  obtain ⟨u21, hu21, hF⟩ := bindE hF
  refine wl_stradd rfl rfl rfl hu21 ?_
  obtain ⟨u22, hu22, hF⟩ := bindE hF
  refine wl_call rfl Tryd.call15 (C_spec_csLines w15 u21 _ hu22) rfl ?_
  rintro _ w25 ⟨v23, F24, rfl, hb26, hM29⟩
  refine ⟨_, rfl, ?_⟩
  have hB27 := hB17.trans (hb26.mono hB17.size)
  have hS28 := hS18.join hb26 hM29 hB17.size
  refine wl_move rfl rfl ?_
  refine wl_extract rfl rfl rfl ?_
  refine wl_extract rfl rfl rfl ?_
  refine wl_assign rfl rfl ?_
  refine wl_assign rfl rfl ?_
  refine WL.nil ?_
  refine fun a ha => hK20 _ _ ?_ a ha
  refine W.seq fun K30 hK30 => ?_
  refine W.seq fun K31 hK31 => ?_
  obtain ⟨k36, hk36, hF⟩ := jE1 hF
  have hJ37 : ∀ (y35 : Bool) (w32 : World) (_ : k36 y35 = some r) (_ : Below w0.heap.size w0 w32) (_ : Sep w0.heap.size w32 []), ∀ a, St 42 [(0, (.string (mkS x0))), (1, (.string (mkS x1))), (38, (.bool y35))] a → K31 a w32 := by
    intro y35 w32 hF hB33 hS34
    subst hk36
    refine fun a ha => hK31 _ _ ?_ a ha
    refine W.cond rfl (fun h38 => ?_) (fun h38 => ?_)
    · replace hF := ifP h38 hF
      refine W.seq fun K39 hK39 => ?_
      refine W.region ?_
      refine wl_assign rfl rfl ?_
      refine wl_assign rfl rfl ?_
      refine WL.nil ?_
      refine fun a ha => hK39 _ _ ?_ a ha
      refine W.ret ?_
      have hr := Option.some.inj hF
      subst hr
      exact rets (vs := [(.string (mkS [])), (.bool false)]) hQ rfl ⟨rv_tmp rfl, rv_tmp rfl, trivial⟩ ⟨rfl, hB33⟩
    · replace hF := ifN h38 hF
      refine W.skip ?_
      refine fun a ha => hK30 _ _ ?_ a ha
      refine W.seq fun K40 hK40 => ?_
      refine W.region ?_
      refine wl_move rfl rfl ?_
      refine wl_move rfl rfl ?_
      obtain ⟨u41, hu41, hF⟩ := bindE hF
      refine wl_stradd rfl rfl rfl hu41 ?_
      refine wl_assign rfl rfl ?_
      refine wl_assign rfl rfl ?_
      refine WL.nil ?_
      refine fun a ha => hK40 _ _ ?_ a ha
      refine W.ret ?_
      have hr := Option.some.inj hF
      subst hr
      exact rets (vs := [(.string (mkS u41)), (.bool true)]) hQ rfl ⟨rv_tmp rfl, rv_tmp rfl, trivial⟩ ⟨rfl, hB33⟩
  refine W.region ?_
  refine wl_move rfl rfl ?_
  refine wl_not rfl rfl ?_
  refine wl_move rfl rfl ?_
  rcases bE (!u3.2) with h42 | h42
  · replace hF := ifP h42 hF
    refine wl_off rfl rfl rfl h42 ?_
    refine wl_off rfl rfl rfl h42 ?_
    refine wl_pick_t rfl rfl h42 rfl ?_
    refine wl_move rfl rfl ?_
    refine wl_off rfl rfl rfl rfl ?_
    refine wl_off rfl rfl rfl rfl ?_
    refine wl_pick_t rfl rfl rfl rfl ?_
    refine WL.nil ?_
    exact fun a ha => hJ37 (true) _ hF hB27 (hS28.sel [] rfl) a (ha.sub ⟨rfl, rfl, rfl, trivial⟩)
  · replace hF := ifN h42 hF
    refine wl_on rfl rfl h42 ?_
    refine wl_move rfl rfl ?_
    refine wl_on rfl rfl h42 ?_
    refine wl_not rfl rfl ?_
    refine wl_pick_f rfl rfl h42 rfl ?_
    refine wl_move rfl rfl ?_
    rcases bE (!u12.2) with h43 | h43
    · replace hF := ifP h43 hF
      refine wl_off rfl rfl rfl h43 ?_
      refine wl_off rfl rfl rfl h43 ?_
      refine wl_pick_t rfl rfl h43 rfl ?_
      refine WL.nil ?_
      exact fun a ha => hJ37 (true) _ hF hB27 (hS28.sel [] rfl) a (ha.sub ⟨rfl, rfl, rfl, trivial⟩)
    · replace hF := ifN h43 hF
      refine wl_on rfl rfl h43 ?_
      refine wl_move rfl rfl ?_
      refine wl_on rfl rfl h43 ?_
      refine wl_not rfl rfl ?_
      refine wl_pick_f rfl rfl h43 rfl ?_
      refine WL.nil ?_
      exact fun a ha => hJ37 ((!u22.2)) _ hF hB27 (hS28.sel [] rfl) a (ha.sub ⟨rfl, rfl, rfl, trivial⟩)
theorem C_stringslite_IndexByte (w0 : World) (x0 : (List UInt8)) (x1 : Int) (r : Int) (hF : F_stringslite_IndexByte x0 x1 = some r) :
    Calls Tryd.prog 77 [(.string (mkS x0)), (.int .u8 x1)].toArray w0 fun e w' => e = .returned (.int .i64 r) ∧ Below w0.heap.size w0 w' := by
  refine calls_mk' Tryd.func77 rfl Tryd.ntmps77 rfl rfl fun Q hQ hP => ?_
  have hB : Below w0.heap.size w0 w0 := Below.refl _ _
  have hS : Sep w0.heap.size w0 [] := Sep.nil _ _
  unfold F_stringslite_IndexByte at hF
  refine W.seq fun K1 hK1 => ?_
  refine W.region ?_
  refine wl_assign rfl rfl ?_
  refine WL.nil ?_
  refine fun a ha => hK1 _ _ ?_ a ha
  refine W.seq fun K2 hK2 => ?_
  refine W.region ?_
  refine wl_move rfl rfl ?_
  refine wl_move rfl rfl ?_
  refine wl_ext (vs := [(.string (mkS x0)), (.int .u8 x1)]) rfl Tryd.func81 rfl rfl (by kernel_rfl) (by kernel_rfl) rfl (run_idxB x0 x1) ?_
  refine wl_assign rfl rfl ?_
  refine WL.nil ?_
  refine fun a ha => hK2 _ _ ?_ a ha
  refine W.ret ?_
  have hr := Option.some.inj hF
  subst hr
  exact rets (vs := [(.int .i64 (idxB x0 x1))]) hQ rfl ⟨rv_tmp rfl, trivial⟩ ⟨rfl, hB⟩
theorem C_bytealg_Cutover (w0 : World) (x0 : Int) (r : Int) (hF : F_bytealg_Cutover x0 = some r) :
    Calls Tryd.prog 79 [(.int .i64 x0)].toArray w0 fun e w' => e = .returned (.int .i64 r) ∧ Below w0.heap.size w0 w' := by
  refine calls_mk' Tryd.func79 rfl Tryd.ntmps79 rfl rfl fun Q hQ hP => ?_
  have hB : Below w0.heap.size w0 w0 := Below.refl _ _
  have hS : Sep w0.heap.size w0 [] := Sep.nil _ _
  unfold F_bytealg_Cutover at hF
  refine W.seq fun K1 hK1 => ?_
  refine W.region ?_
  refine wl_assign rfl rfl ?_
  refine WL.nil ?_
  refine fun a ha => hK1 _ _ ?_ a ha
  refine W.seq fun K2 hK2 => ?_
  refine W.region ?_
  refine wl_move rfl rfl ?_
  refine wl_add rfl rfl rfl ?_
  refine wl_quo rfl rfl rfl (by decide) ?_
  refine wl_assign rfl rfl ?_
  refine WL.nil ?_
  refine fun a ha => hK2 _ _ ?_ a ha
  refine W.ret ?_
  have hr := Option.some.inj hF
  subst hr
  exact rets (vs := [(.int .i64 (w64 (Int.tdiv (w64 (x0 + 16)) 8)))]) hQ rfl ⟨rv_tmp rfl, trivial⟩ ⟨rfl, hB⟩
theorem C_stringslite_Index (w0 : World) (x0 : (List UInt8)) (x1 : (List UInt8)) (r : Int) (hF : F_stringslite_Index x0 x1 = some r) :
    Calls Tryd.prog 73 [(.string (mkS x0)), (.string (mkS x1))].toArray w0 fun e w' => e = .returned (.int .i64 r) ∧ Below w0.heap.size w0 w' := by
  refine calls_mk' Tryd.func73 rfl Tryd.ntmps73 rfl rfl fun Q hQ hP => ?_
  have hB : Below w0.heap.size w0 w0 := Below.refl _ _
  have hS : Sep w0.heap.size w0 [] := Sep.nil _ _
  unfold F_stringslite_Index at hF
  refine W.seq fun K1 hK1 => ?_
  refine W.region ?_
  refine wl_assign rfl rfl ?_
  refine WL.nil ?_
  refine fun a ha => hK1 _ _ ?_ a ha
  refine W.seq fun K2 hK2 => ?_
  refine W.region ?_
  refine wl_move rfl rfl ?_
  refine wl_strlen Tryd.underlying9 rfl rfl ?_
  refine wl_assign rfl rfl ?_
  refine WL.nil ?_
  refine fun a ha => hK2 _ _ ?_ a ha
  refine W.seq fun K3 hK3 => ?_
  refine W.block ?_
  refine W.seq fun K4 hK4 => ?_
  obtain ⟨k9, hk9, hF⟩ := jE1 hF
  have hJ10 : ∀ (y8 : Bool) (w5 : World) (_ : k9 y8 = some r) (_ : Below w0.heap.size w0 w5) (_ : Sep w0.heap.size w5 []), ∀ a, St 143 [(0, (.string (mkS x0))), (1, (.string (mkS x1))), (5, (.int .i64 (List.length x1 : Int))), (16, (.bool y8))] a → K4 a w5 := by
    intro y8 w5 hF hB6 hS7
    subst hk9
    refine fun a ha => hK4 _ _ ?_ a ha
    refine W.cond rfl (fun h11 => ?_) (fun h11 => ?_)
    · replace hF := ifP h11 hF
      refine W.seq fun K12 hK12 => ?_
      refine W.region ?_
      refine wl_assign rfl rfl ?_
      refine WL.nil ?_
      refine fun a ha => hK12 _ _ ?_ a ha
      refine W.ret ?_
      have hr := Option.some.inj hF
      subst hr
      exact rets (vs := [(.int .i64 0)]) hQ rfl ⟨rv_tmp rfl, trivial⟩ ⟨rfl, hB6⟩
    · replace hF := ifN h11 hF
      refine W.seq fun K13 hK13 => ?_
      refine W.region ?_
      refine wl_move rfl rfl ?_
      refine wl_eql rfl rfl rfl ?_
      refine wl_assign rfl rfl ?_
      refine WL.nil ?_
      refine fun a ha => hK13 _ _ ?_ a ha
      refine W.cond rfl (fun h14 => ?_) (fun h14 => ?_)
      · replace hF := ifP h14 hF
        refine W.seq fun K15 hK15 => ?_
        refine W.region ?_
        refine wl_move rfl rfl ?_
        refine wl_move rfl rfl ?_
        obtain ⟨u16, hu16, hF⟩ := bindE hF
        refine wl_strindex Tryd.underlying9 rfl rfl rfl hu16 ?_
        obtain ⟨u17, hu17, hF⟩ := bindE hF
        refine wl_call rfl Tryd.call77 (C_stringslite_IndexByte w5 x0 (UInt8.toNat u16 : Int) _ hu17) rfl ?_
        rintro _ w18 ⟨rfl, hb19⟩
        refine ⟨_, rfl, ?_⟩
        have hB20 := hB6.trans (hb19.mono hB6.size)
        have hS21 := hS7.below hb19
        refine wl_assign rfl rfl ?_
        refine WL.nil ?_
        refine fun a ha => hK15 _ _ ?_ a ha
        refine W.ret ?_
        have hr := Option.some.inj hF
        subst hr
        exact rets (vs := [(.int .i64 u17)]) hQ rfl ⟨rv_tmp rfl, trivial⟩ ⟨rfl, hB20⟩
      · replace hF := ifN h14 hF
        refine W.seq fun K23 hK23 => ?_
        refine W.region ?_
        refine wl_move rfl rfl ?_
        refine wl_move rfl rfl ?_
        refine wl_strlen Tryd.underlying9 rfl rfl ?_
        refine wl_geq rfl rfl rfl ?_
        refine wl_assign rfl rfl ?_
        refine WL.nil ?_
        refine fun a ha => hK23 _ _ ?_ a ha
        refine W.cond rfl (fun h24 => ?_) (fun h24 => ?_)
        · replace hF := ifP h24 hF
          refine W.seq fun K25 hK25 => ?_
          refine W.region ?_
          refine wl_assign rfl rfl ?_
          refine WL.nil ?_
          refine fun a ha => hK25 _ _ ?_ a ha
          refine W.ret ?_
          have hr := Option.some.inj hF
          subst hr
          exact rets (vs := [(.int .i64 (-1))]) hQ rfl ⟨rv_tmp rfl, trivial⟩ ⟨rfl, hB6⟩
        · replace hF := ifN h24 hF
          exact noneE hF
  refine W.region ?_
  refine wl_move rfl rfl ?_
  refine wl_eql rfl rfl rfl ?_
  refine wl_move rfl rfl ?_
  rcases bE ((List.length x1 : Int) == 0) with h27 | h27
  · replace hF := ifP h27 hF
    refine wl_off rfl rfl rfl h27 ?_
    refine wl_off rfl rfl rfl h27 ?_
    refine wl_off rfl rfl rfl h27 ?_
    refine wl_pick_t rfl rfl h27 rfl ?_
    refine wl_assign rfl rfl ?_
    refine WL.nil ?_
    exact fun a ha => hJ10 (true) _ hF hB (hS.sel [] rfl) a (ha.sub ⟨rfl, rfl, rfl, rfl, trivial⟩)
  · replace hF := ifN h27 hF
    refine wl_on rfl rfl h27 ?_
    refine wl_move rfl rfl ?_
    refine wl_on rfl rfl h27 ?_
    refine wl_move rfl rfl ?_
    refine wl_on rfl rfl h27 ?_
    refine wl_streql rfl rfl rfl ?_
    refine wl_pick_f rfl rfl h27 rfl ?_
    refine wl_assign rfl rfl ?_
    refine WL.nil ?_
    exact fun a ha => hJ10 ((x1 == x0)) _ hF hB (hS.sel [] rfl) a (ha.sub ⟨rfl, rfl, rfl, rfl, trivial⟩)
theorem C_strings_Index (w0 : World) (x0 : (List UInt8)) (x1 : (List UInt8)) (r : Int) (hF : F_strings_Index x0 x1 = some r) :
    Calls Tryd.prog 64 [(.string (mkS x0)), (.string (mkS x1))].toArray w0 fun e w' => e = .returned (.int .i64 r) ∧ Below w0.heap.size w0 w' := by
  refine calls_mk' Tryd.func64 rfl Tryd.ntmps64 rfl rfl fun Q hQ hP => ?_
  have hB : Below w0.heap.size w0 w0 := Below.refl _ _
  have hS : Sep w0.heap.size w0 [] := Sep.nil _ _
  unfold F_strings_Index at hF
  refine W.seq fun K1 hK1 => ?_
  refine W.region ?_
  refine wl_assign rfl rfl ?_
  refine WL.nil ?_
  refine fun a ha => hK1 _ _ ?_ a ha
  refine W.seq fun K2 hK2 => ?_
  refine W.region ?_
  refine wl_move rfl rfl ?_
  refine wl_move rfl rfl ?_
  obtain ⟨u3, hu3, hF⟩ := bindE hF
  refine wl_call rfl Tryd.call73 (C_stringslite_Index w0 x0 x1 _ hu3) rfl ?_
  rintro _ w4 ⟨rfl, hb5⟩
  refine ⟨_, rfl, ?_⟩
  have hB6 := hB.trans (hb5.mono hB.size)
  have hS7 := hS.below hb5
  refine wl_assign rfl rfl ?_
  refine WL.nil ?_
  refine fun a ha => hK2 _ _ ?_ a ha
  refine W.ret ?_
  have hr := Option.some.inj hF
  subst hr
  exact rets (vs := [(.int .i64 u3)]) hQ rfl ⟨rv_tmp rfl, trivial⟩ ⟨rfl, hB6⟩
theorem C_strings_Count (w0 : World) (x0 : (List UInt8)) (x1 : (List UInt8)) (r : Int) (hF : F_strings_Count x0 x1 = some r) :
    Calls Tryd.prog 63 [(.string (mkS x0)), (.string (mkS x1))].toArray w0 fun e w' => e = .returned (.int .i64 r) ∧ Below w0.heap.size w0 w' := by
  refine calls_mk' Tryd.func63 rfl Tryd.ntmps63 rfl rfl fun Q hQ hP => ?_
  have hB : Below w0.heap.size w0 w0 := Below.refl _ _
  have hS : Sep w0.heap.size w0 [] := Sep.nil _ _
  unfold F_strings_Count at hF
  refine W.seq fun K1 hK1 => ?_
  refine W.region ?_
  refine wl_assign rfl rfl ?_
  refine WL.nil ?_
  refine fun a ha => hK1 _ _ ?_ a ha
  refine W.seq fun K2 hK2 => ?_
  refine W.seq fun K3 hK3 => ?_
  refine W.region ?_
  refine wl_move rfl rfl ?_
  refine wl_strlen Tryd.underlying9 rfl rfl ?_
  refine wl_eql rfl rfl rfl ?_
  refine WL.nil ?_
  refine fun a ha => hK3 _ _ ?_ a ha
  refine W.cond rfl (fun h4 => ?_) (fun h4 => ?_)
  · replace hF := ifP h4 hF
    exact noneE hF
  · replace hF := ifN h4 hF
    refine W.skip ?_
    refine fun a ha => hK2 _ _ ?_ a ha
    refine W.seq fun K6 hK6 => ?_
    refine W.seq fun K7 hK7 => ?_
    refine W.region ?_
    refine wl_move rfl rfl ?_
    refine wl_strlen Tryd.underlying9 rfl rfl ?_
    refine wl_eql rfl rfl rfl ?_
    refine WL.nil ?_
    refine fun a ha => hK7 _ _ ?_ a ha
    refine W.cond rfl (fun h8 => ?_) (fun h8 => ?_)
    · replace hF := ifP h8 hF
      refine W.seq fun K9 hK9 => ?_
      refine W.region ?_
      refine wl_move rfl rfl ?_
      refine wl_move rfl rfl ?_
      obtain ⟨u10, hu10, hF⟩ := bindE hF
      refine wl_strindex Tryd.underlying9 rfl rfl rfl hu10 ?_
      refine wl_ext (vs := [(.string (mkS x0)), (.int .u8 (UInt8.toNat u10 : Int))]) rfl Tryd.func72 rfl rfl (by kernel_rfl) (by kernel_rfl) rfl (run_cntB x0 (UInt8.toNat u10 : Int)) ?_
      refine wl_assign rfl rfl ?_
      refine WL.nil ?_
      refine fun a ha => hK9 _ _ ?_ a ha
      refine W.ret ?_
      have hr := Option.some.inj hF
      subst hr
      exact rets (vs := [(.int .i64 (cntB x0 (UInt8.toNat u10 : Int)))]) hQ rfl ⟨rv_tmp rfl, trivial⟩ ⟨rfl, hB⟩
    · replace hF := ifN h8 hF
      refine W.skip ?_
      refine fun a ha => hK6 _ _ ?_ a ha
      refine W.seq fun K11 hK11 => ?_
      refine W.region ?_
      refine wl_assign rfl rfl ?_
      refine WL.nil ?_
      refine fun a ha => hK11 _ _ ?_ a ha
      refine W.block ?_
      refine W.loopk (fun m a w12 => ∃ (y15 : (List UInt8)) (y16 : Int), St 34 [(0, (.string (mkS y15))), (1, (.string (mkS x1))), (5, (.int .i64 y16))] a ∧ Below w0.heap.size w0 w12 ∧ Sep w0.heap.size w12 [] ∧ F_strings_Count_L1 x1 m y15 y16 = some r) FU ?_ ?_
      ·
        exact fun a ha => ⟨x0, 0, ha.sub ⟨rfl, rfl, rfl, trivial⟩, hB, (hS.sel [] rfl), hF⟩
      ·
        rintro m19 a w12 ⟨y15, y16, ha, hB13, hS14, hF⟩ KL18 hKL18
        refine W.at ?_ ha
        cases m19 with
        | zero => exact noneE hF
        | succ m19 =>
          obtain ⟨nx17, hnx17⟩ : ∃ k, k = F_strings_Count_L1 x1 m19 := ⟨_, rfl⟩
          rw [F_strings_Count_L1] at hF; try rw [← hnx17] at hF
          refine W.block ?_
          refine W.seq fun K20 hK20 => ?_
          refine W.region ?_
          refine wl_move rfl rfl ?_
          refine wl_move rfl rfl ?_
          obtain ⟨u21, hu21, hF⟩ := bindE hF
          refine wl_call rfl Tryd.call64 (C_strings_Index w12 y15 x1 _ hu21) rfl ?_
          rintro _ w22 ⟨rfl, hb23⟩
          refine ⟨_, rfl, ?_⟩
          have hB24 := hB13.trans (hb23.mono hB13.size)
          have hS25 := hS14.below hb23
          refine wl_assign rfl rfl ?_
          refine WL.nil ?_
          refine fun a ha => hK20 _ _ ?_ a ha
          refine W.seq fun K27 hK27 => ?_
          refine W.seq fun K28 hK28 => ?_
          refine W.region ?_
          refine wl_move rfl rfl ?_
          refine wl_eql rfl rfl rfl ?_
          refine WL.nil ?_
          refine fun a ha => hK28 _ _ ?_ a ha
          refine W.cond rfl (fun h29 => ?_) (fun h29 => ?_)
          · replace hF := ifP h29 hF
            refine W.seq fun K30 hK30 => ?_
            refine W.region ?_
            refine wl_move rfl rfl ?_
            refine wl_assign rfl rfl ?_
            refine WL.nil ?_
            refine fun a ha => hK30 _ _ ?_ a ha
            refine W.ret ?_
            have hr := Option.some.inj hF
            subst hr
            exact rets (vs := [(.int .i64 y16)]) hQ rfl ⟨rv_tmp rfl, trivial⟩ ⟨rfl, hB24⟩
          · replace hF := ifN h29 hF
            refine W.skip ?_
            refine fun a ha => hK27 _ _ ?_ a ha
            refine W.seq fun K31 hK31 => ?_
            refine W.region ?_
            refine wl_move rfl rfl ?_
            refine wl_add rfl rfl rfl ?_
            refine wl_assign rfl rfl ?_
            refine WL.nil ?_
            refine fun a ha => hK31 _ _ ?_ a ha
            refine W.region ?_
            refine wl_move rfl rfl ?_
            refine wl_move rfl rfl ?_
            refine wl_move rfl rfl ?_
            refine wl_strlen Tryd.underlying9 rfl rfl ?_
            refine wl_add rfl rfl rfl ?_
            obtain ⟨u32, hu32, hF⟩ := bindE hF
            refine wl_strslice Tryd.underlying9 rfl rfl hu32 (.inr ⟨_, _, rfl, rfl⟩) (.inl ⟨rfl, rfl⟩) ?_
            refine wl_assign rfl rfl ?_
            refine WL.nil ?_
            rw [hnx17] at hF
            exact fun a ha => hKL18 a _ m19 (Nat.lt_succ_self m19) ⟨u32, (w64 (y16 + 1)), ha.sub ⟨rfl, rfl, rfl, trivial⟩, hB24, (hS25.sel [] rfl), hF⟩
theorem C_strings_genSplit (w0 : World) (x0 : (List UInt8)) (x1 : (List UInt8)) (x2 : Int) (x3 : Int) (r : (List (List UInt8))) (hF : F_strings_genSplit x0 x1 x2 x3 = some r) :
    Calls Tryd.prog 56 [(.string (mkS x0)), (.string (mkS x1)), (.int .i64 x2), (.int .i64 x3)].toArray w0 fun e w' => ∃ (q0 : Value) (G0 : List Nat), e = .returned q0 ∧ Below w0.heap.size w0 w' ∧ Sep w0.heap.size w' [R.own ty_9 G0 q0 r] := by
  refine calls_mk' Tryd.func56 rfl Tryd.ntmps56 rfl rfl fun Q hQ hP => ?_
  have hB : Below w0.heap.size w0 w0 := Below.refl _ _
  have hS : Sep w0.heap.size w0 [] := Sep.nil _ _
  unfold F_strings_genSplit at hF
  refine W.seq fun K1 hK1 => ?_
  refine W.region ?_
  refine wl_assign rfl rfl ?_
  refine WL.nil ?_
  refine fun a ha => hK1 _ _ ?_ a ha
  refine W.seq fun K2 hK2 => ?_
  refine W.seq fun K3 hK3 => ?_
  refine W.region ?_
  refine wl_move rfl rfl ?_
  refine wl_eql rfl rfl rfl ?_
  refine WL.nil ?_
  refine fun a ha => hK3 _ _ ?_ a ha
  refine W.cond rfl (fun h4 => ?_) (fun h4 => ?_)
  · replace hF := ifP h4 hF
    refine W.seq fun K5 hK5 => ?_
    refine W.region ?_
    refine wl_assign rfl rfl ?_
    refine WL.nil ?_
    refine fun a ha => hK5 _ _ ?_ a ha
    refine W.ret ?_
    have hS6 := hS.push0 (r := R.own ty_9 [] (.slice none 0 0) []) rfl fun _ => .inl ⟨rfl, rfl, rfl⟩
    have hr := Option.some.inj hF
    subst hr
    exact rets (vs := [(.slice none 0 0)]) hQ rfl ⟨rv_tmp rfl, trivial⟩ ⟨(.slice none 0 0), [], rfl, hB, hS6.sel [0] rfl⟩
  · replace hF := ifN h4 hF
    refine W.skip ?_
    refine fun a ha => hK2 _ _ ?_ a ha
    refine W.seq fun K7 hK7 => ?_
    refine W.seq fun K8 hK8 => ?_
    refine W.region ?_
    refine wl_move rfl rfl ?_
    refine wl_streql rfl rfl rfl ?_
    refine WL.nil ?_
    refine fun a ha => hK8 _ _ ?_ a ha
    refine W.cond rfl (fun h9 => ?_) (fun h9 => ?_)
    · replace hF := ifP h9 hF
      exact noneE hF
    · replace hF := ifN h9 hF
      refine W.skip ?_
      refine fun a ha => hK7 _ _ ?_ a ha
      refine W.seq fun K11 hK11 => ?_
      obtain ⟨k16, hk16, hF⟩ := jE1 hF
      have hJ17 : ∀ (y15 : Int) (w12 : World) (_ : k16 y15 = some r) (_ : Below w0.heap.size w0 w12) (_ : Sep w0.heap.size w12 []), ∀ a, St 66 [(0, (.string (mkS x0))), (1, (.string (mkS x1))), (2, (.int .i64 x2)), (3, (.int .i64 y15))] a → K11 a w12 := by
        intro y15 w12 hF hB13 hS14
        subst hk16
        refine fun a ha => hK11 _ _ ?_ a ha
        refine W.seq fun K18 hK18 => ?_
        refine W.region ?_
        refine wl_move rfl rfl ?_
        refine wl_move rfl rfl ?_
        refine wl_strlen Tryd.underlying9 rfl rfl ?_
        refine wl_add rfl rfl rfl ?_
        refine wl_min rfl rfl rfl ?_
        refine wl_assign rfl rfl ?_
        refine WL.nil ?_
        refine fun a ha => hK18 _ _ ?_ a ha
        refine W.seq fun K19 hK19 => ?_
        refine W.region ?_
        refine wl_move rfl rfl ?_
        obtain ⟨u20, hu20, hF⟩ := bindE hF
        refine wl_make (e := ty_9) Tryd.underlying37 rfl rfl hu20 hB13 hS14 ?_
        intro v21 F22 w23 hb24 hB25 hS26
        refine wl_assign rfl rfl ?_
        refine WL.nil ?_
        refine fun a ha => hK19 _ _ ?_ a ha
        refine W.seq fun K27 hK27 => ?_
        refine W.region ?_
        refine wl_move rfl rfl ?_
        refine wl_sub rfl rfl rfl ?_
        refine wl_assign rfl rfl ?_
        refine WL.nil ?_
        refine fun a ha => hK27 _ _ ?_ a ha
        refine W.seq fun K28 hK28 => ?_
        refine W.region ?_
        refine wl_assign rfl rfl ?_
        refine WL.nil ?_
        refine fun a ha => hK28 _ _ ?_ a ha
        refine W.seq fun K29 hK29 => ?_
        obtain ⟨k38, hk38, hF⟩ := jE3 hF
        have hJ39 : ∀ (y33 : (List UInt8)) (l34 : (List (List UInt8))) (y37 : Int) (v35 : Value) (F36 : List Nat) (w30 : World) (_ : k38 y33 l34 y37 = some r) (_ : Below w0.heap.size w0 w30) (_ : Sep w0.heap.size w30 [R.own ty_9 F36 v35 l34]), ∀ a, St 66 [(0, (.string (mkS y33))), (9, v35), (10, (.int .i64 y37))] a → K29 a w30 := by
          intro y33 l34 y37 v35 F36 w30 hF hB31 hS32
          subst hk38
          refine fun a ha => hK29 _ _ ?_ a ha
          refine W.seq fun K40 hK40 => ?_
          refine W.region ?_
          refine wl_move rfl rfl ?_
          refine wl_move rfl rfl ?_
          refine wl_move rfl rfl ?_
          obtain ⟨u41, hu41, hF⟩ := bindE hF
          refine wl_indexo (e := ty_9) (i := 0) Tryd.underlying37 rfl rfl rfl hS32 rfl hu41 ?_
          rintro p42 _ rfl hp43 ho44
          refine wl_storeo (i := 0) (o := 0) (vs := [(.string (mkS y33))]) (u' := y33) fl_9 tf_9 rfl rfl rfl rfl ho44 hu41 hB31 hS32 rfl rfl ⟨rfl, trivial⟩ rfl ?_
          intro w45 hk48 hB46 hS47
          refine WL.nil ?_
          refine fun a ha => hK40 _ _ ?_ a ha
          refine W.seq fun K49 hK49 => ?_
          refine W.region ?_
          refine wl_move rfl rfl ?_
          refine wl_move rfl rfl ?_
          refine wl_add rfl rfl rfl ?_
          obtain ⟨u50, hu50, hF⟩ := bindE hF
          refine wl_sliceof (e := ty_9) Tryd.underlying37 rfl rfl (hS47.ok (i := 0) rfl : ownS ty_9 _ _ _ _).rd hu50 (.inl ⟨rfl, rfl⟩) (.inr ⟨_, _, rfl, rfl⟩) ?_
          intro v51 hv54 hs53
          have hv52 := hv54.mono fun b hb => ((hS47.get (i := 0) rfl).2.1 b hb).2
          refine wl_assign rfl rfl ?_
          refine WL.nil ?_
          refine fun a ha => hK49 _ _ ?_ a ha
          refine W.ret ?_
          obtain ⟨F56, hq57, hq58, hq59⟩ := own_pre (hS47.ok (i := 0) rfl : ownS ty_9 _ _ _ _) (hS47.get (i := 0) rfl).1 hs53 (sl_le hu50).1
          rw [show List.take (w64 (y37 + 1)).toNat (seti l34 y37 y33) = u50 from (sl_le hu50).2.symm] at hq57
          have hS55 := (hS47.sel [0] rfl).shrink (r' := R.own ty_9 F56 v51 u50) hq58 hq59 fun _ hk => hq57.keep hk
          have hr := Option.some.inj hF
          subst hr
          exact rets (vs := [v51]) hQ rfl ⟨rv_tmp rfl, trivial⟩ ⟨v51, F56, rfl, hB46, hS55.sel [0] rfl⟩
        refine W.block ?_
        refine W.loopk (fun m a w61 => ∃ (y64 : (List UInt8)) (l65 : (List (List UInt8))) (y68 : Int) (v66 : Value) (F67 : List Nat), St 66 [(0, (.string (mkS y64))), (1, (.string (mkS x1))), (2, (.int .i64 x2)), (3, (.int .i64 (w64 ((minI y15 (w64 ((List.length x0 : Int) + 1))) - 1)))), (9, v66), (10, (.int .i64 y68))] a ∧ Below w0.heap.size w0 w61 ∧ Sep w0.heap.size w61 [R.own ty_9 F67 v66 l65] ∧ F_strings_genSplit_L1 y15 x0 x1 k38 x2 m y64 l65 y68 = some r) FU ?_ ?_
        ·
          exact fun a ha => ⟨x0, u20, 0, v21, F22, ha.sub ⟨rfl, rfl, rfl, rfl, rfl, rfl, trivial⟩, hB25, (hS26.sel [0] rfl), hF⟩
        ·
          rintro m71 a w61 ⟨y64, l65, y68, v66, F67, ha, hB62, hS63, hF⟩ KL70 hKL70
          refine W.at ?_ ha
          cases m71 with
          | zero => exact noneE hF
          | succ m71 =>
            obtain ⟨nx69, hnx69⟩ : ∃ k, k = F_strings_genSplit_L1 y15 x0 x1 k38 x2 m71 := ⟨_, rfl⟩
            rw [F_strings_genSplit_L1] at hF; try rw [← hnx69] at hF
            refine W.seq fun K72 hK72 => ?_
            refine W.seq fun K73 hK73 => ?_
            refine W.region ?_
            refine wl_move rfl rfl ?_
            refine wl_move rfl rfl ?_
            refine wl_lss rfl rfl rfl ?_
            refine WL.nil ?_
            refine fun a ha => hK73 _ _ ?_ a ha
            refine W.cond rfl (fun h74 => ?_) (fun h74 => ?_)
            · replace hF := ifP h74 hF
              refine W.skip ?_
              refine fun a ha => hK72 _ _ ?_ a ha
              refine W.block ?_
              refine W.seq fun K75 hK75 => ?_
              refine W.region ?_
              refine wl_move rfl rfl ?_
              refine wl_move rfl rfl ?_
              obtain ⟨u76, hu76, hF⟩ := bindE hF
              refine wl_call rfl Tryd.call64 (C_strings_Index w61 y64 x1 _ hu76) rfl ?_
              rintro _ w77 ⟨rfl, hb78⟩
              refine ⟨_, rfl, ?_⟩
              have hB79 := hB62.trans (hb78.mono hB62.size)
              have hS80 := hS63.below hb78
              refine wl_assign rfl rfl ?_
              refine WL.nil ?_
              refine fun a ha => hK75 _ _ ?_ a ha
              refine W.seq fun K82 hK82 => ?_
              refine W.seq fun K83 hK83 => ?_
              refine W.region ?_
              refine wl_move rfl rfl ?_
              refine wl_lss rfl rfl rfl ?_
              refine WL.nil ?_
              refine fun a ha => hK83 _ _ ?_ a ha
              refine W.cond rfl (fun h84 => ?_) (fun h84 => ?_)
              · replace hF := ifP h84 hF
                refine W.exit ?_
                exact fun a ha => hJ39 (y64) (l65) (y68) (v66) (F67) _ hF hB79 (hS80.sel [0] rfl) a (ha.sub ⟨rfl, rfl, rfl, trivial⟩)
              · replace hF := ifN h84 hF
                refine W.skip ?_
                refine fun a ha => hK82 _ _ ?_ a ha
                refine W.seq fun K85 hK85 => ?_
                refine W.region ?_
                refine wl_move rfl rfl ?_
                refine wl_move rfl rfl ?_
                refine wl_move rfl rfl ?_
                refine wl_move rfl rfl ?_
                refine wl_move rfl rfl ?_
                refine wl_add rfl rfl rfl ?_
                obtain ⟨u86, hu86, hF⟩ := bindE hF
                refine wl_strslice Tryd.underlying9 rfl rfl hu86 (.inl ⟨rfl, rfl⟩) (.inr ⟨_, _, rfl, rfl⟩) ?_
                obtain ⟨u87, hu87, hF⟩ := bindE hF
                refine wl_indexo (e := ty_9) (i := 0) Tryd.underlying37 rfl rfl rfl hS80 rfl hu87 ?_
                rintro p88 _ rfl hp89 ho90
                refine wl_storeo (i := 0) (o := 0) (vs := [(.string (mkS u86))]) (u' := u86) fl_9 tf_9 rfl rfl rfl rfl ho90 hu87 hB79 hS80 rfl rfl ⟨rfl, trivial⟩ rfl ?_
                intro w91 hk94 hB92 hS93
                refine WL.nil ?_
                refine fun a ha => hK85 _ _ ?_ a ha
                refine W.seq fun K95 hK95 => ?_
                refine W.region ?_
                refine wl_move rfl rfl ?_
                refine wl_move rfl rfl ?_
                refine wl_move rfl rfl ?_
                refine wl_strlen Tryd.underlying9 rfl rfl ?_
                refine wl_add rfl rfl rfl ?_
                obtain ⟨u96, hu96, hF⟩ := bindE hF
                refine wl_strslice Tryd.underlying9 rfl rfl hu96 (.inr ⟨_, _, rfl, rfl⟩) (.inl ⟨rfl, rfl⟩) ?_
                refine wl_assign rfl rfl ?_
                refine WL.nil ?_
                refine fun a ha => hK95 _ _ ?_ a ha
                refine W.region ?_
                refine wl_move rfl rfl ?_
                refine wl_add rfl rfl rfl ?_
                refine wl_assign rfl rfl ?_
                refine WL.nil ?_
                rw [hnx69] at hF
                exact fun a ha => hKL70 a _ m71 (Nat.lt_succ_self m71) ⟨u96, (seti l65 y68 u86), (w64 (y68 + 1)), v66, F67, ha.sub ⟨rfl, rfl, rfl, rfl, rfl, rfl, trivial⟩, hB92, (hS93.sel [0] rfl), hF⟩
            · replace hF := ifN h74 hF
              refine W.exit ?_
              exact fun a ha => hJ39 (y64) (l65) (y68) (v66) (F67) _ hF hB62 (hS63.sel [0] rfl) a (ha.sub ⟨rfl, rfl, rfl, trivial⟩)
      refine W.seq fun K97 hK97 => ?_
      refine W.region ?_
      refine wl_move rfl rfl ?_
      refine wl_lss rfl rfl rfl ?_
      refine WL.nil ?_
      refine fun a ha => hK97 _ _ ?_ a ha
      refine W.cond rfl (fun h98 => ?_) (fun h98 => ?_)
      · replace hF := ifP h98 hF
        refine W.region ?_
        refine wl_move rfl rfl ?_
        refine wl_move rfl rfl ?_
        obtain ⟨u99, hu99, hF⟩ := bindE hF
        refine wl_call rfl Tryd.call63 (C_strings_Count w0 x0 x1 _ hu99) rfl ?_
        rintro _ w100 ⟨rfl, hb101⟩
        refine ⟨_, rfl, ?_⟩
        have hB102 := hB.trans (hb101.mono hB.size)
        have hS103 := hS.below hb101
        refine wl_add rfl rfl rfl ?_
        refine wl_assign rfl rfl ?_
        refine WL.nil ?_
        exact fun a ha => hJ17 ((w64 (u99 + 1))) _ hF hB102 (hS103.sel [] rfl) a (ha.sub ⟨rfl, rfl, rfl, rfl, trivial⟩)
      · replace hF := ifN h98 hF
        refine W.skip ?_
        exact fun a ha => hJ17 (x3) _ hF hB (hS.sel [] rfl) a (ha.sub ⟨rfl, rfl, rfl, rfl, trivial⟩)
theorem C_strings_Split (w0 : World) (x0 : (List UInt8)) (x1 : (List UInt8)) (r : (List (List UInt8))) (hF : F_strings_Split x0 x1 = some r) :
    Calls Tryd.prog 43 [(.string (mkS x0)), (.string (mkS x1))].toArray w0 fun e w' => ∃ (q0 : Value) (G0 : List Nat), e = .returned q0 ∧ Below w0.heap.size w0 w' ∧ Sep w0.heap.size w' [R.own ty_9 G0 q0 r] := by
  refine calls_mk' Tryd.func43 rfl Tryd.ntmps43 rfl rfl fun Q hQ hP => ?_
  have hB : Below w0.heap.size w0 w0 := Below.refl _ _
  have hS : Sep w0.heap.size w0 [] := Sep.nil _ _
  unfold F_strings_Split at hF
  refine W.seq fun K1 hK1 => ?_
  refine W.region ?_
  refine wl_assign rfl rfl ?_
  refine WL.nil ?_
  refine fun a ha => hK1 _ _ ?_ a ha
  refine W.seq fun K2 hK2 => ?_
  refine W.region ?_
  refine wl_move rfl rfl ?_
  refine wl_move rfl rfl ?_
  obtain ⟨u3, hu3, hF⟩ := bindE hF
  refine wl_call rfl Tryd.call56 (C_strings_genSplit w0 x0 x1 0 (-1) _ hu3) rfl ?_
  rintro _ w6 ⟨v4, F5, rfl, hb7, hM10⟩
  refine ⟨_, rfl, ?_⟩
  have hB8 := hB.trans (hb7.mono hB.size)
  have hS9 := hS.join hb7 hM10 hB.size
  refine wl_assign rfl rfl ?_
  refine WL.nil ?_
  refine fun a ha => hK2 _ _ ?_ a ha
  refine W.ret ?_
  have hr := Option.some.inj hF
  subst hr
  exact rets (vs := [v4]) hQ rfl ⟨rv_tmp rfl, trivial⟩ ⟨v4, F5, rfl, hB8, hS9.sel [0] rfl⟩
theorem C_impl_linesOf (w0 : World) (x0 : (List UInt8)) (r : ((List (List UInt8)) × Bool)) (hF : F_impl_linesOf x0 = some r) :
    Calls Tryd.prog 33 [(.string (mkS x0))].toArray w0 fun e w' => ∃ (q0 : Value) (G0 : List Nat), e = .returned (.tuple #[q0, (.bool r.2)]) ∧ Below w0.heap.size w0 w' ∧ Sep w0.heap.size w' [R.own ty_9 G0 q0 r.1] := by
  refine calls_mk' Tryd.func33 rfl Tryd.ntmps33 rfl rfl fun Q hQ hP => ?_
  have hB : Below w0.heap.size w0 w0 := Below.refl _ _
  have hS : Sep w0.heap.size w0 [] := Sep.nil _ _
  unfold F_impl_linesOf at hF
  refine W.seq fun K1 hK1 => ?_
  refine W.region ?_
  refine wl_assign rfl rfl ?_
  refine wl_assign rfl rfl ?_
  refine WL.nil ?_
  refine fun a ha => hK1 _ _ ?_ a ha
  refine W.seq fun K2 hK2 => ?_
  refine W.seq fun K3 hK3 => ?_
  refine W.region ?_
  refine wl_move rfl rfl ?_
  refine wl_streql rfl rfl rfl ?_
  refine WL.nil ?_
  refine fun a ha => hK3 _ _ ?_ a ha
  refine W.cond rfl (fun h4 => ?_) (fun h4 => ?_)
  · replace hF := ifP h4 hF
    refine W.seq fun K5 hK5 => ?_
    refine W.region ?_
    refine wl_lit (vs := []) (l := []) fl_9 Tryd.underlying37 rfl rfl rfl rfl rfl rfl hB hS ?_
    intro v6 F7 w8 hb9 hB10 hS11
    refine wl_assign rfl rfl ?_
    refine wl_assign rfl rfl ?_
    refine WL.nil ?_
    refine fun a ha => hK5 _ _ ?_ a ha
    refine W.ret ?_
    have hr := Option.some.inj hF
    subst hr
    exact rets (vs := [v6, (.bool true)]) hQ rfl ⟨rv_tmp rfl, rv_tmp rfl, trivial⟩ ⟨v6, F7, rfl, hB10, hS11.sel [0] rfl⟩
  · replace hF := ifN h4 hF
    refine W.skip ?_
    refine fun a ha => hK2 _ _ ?_ a ha
    refine W.seq fun K12 hK12 => ?_
    refine W.seq fun K13 hK13 => ?_
    refine W.region ?_
    refine wl_move rfl rfl ?_
    refine wl_move rfl rfl ?_
    refine wl_strlen Tryd.underlying9 rfl rfl ?_
    refine wl_sub rfl rfl rfl ?_
    obtain ⟨u14, hu14, hF⟩ := bindE hF
    refine wl_strindex Tryd.underlying9 rfl rfl rfl hu14 ?_
    refine wl_neq rfl rfl rfl ?_
    refine WL.nil ?_
    refine fun a ha => hK13 _ _ ?_ a ha
    refine W.cond rfl (fun h15 => ?_) (fun h15 => ?_)
    · replace hF := ifP h15 hF
      refine W.seq fun K16 hK16 => ?_
      refine W.region ?_
      refine wl_assign rfl rfl ?_
      refine wl_assign rfl rfl ?_
      refine WL.nil ?_
      refine fun a ha => hK16 _ _ ?_ a ha
      refine W.ret ?_
      have hS17 := hS.push0 (r := R.own ty_9 [] (.slice none 0 0) []) rfl fun _ => .inl ⟨rfl, rfl, rfl⟩
      have hr := Option.some.inj hF
      subst hr
      exact rets (vs := [(.slice none 0 0), (.bool false)]) hQ rfl ⟨rv_tmp rfl, rv_tmp rfl, trivial⟩ ⟨(.slice none 0 0), [], rfl, hB, hS17.sel [0] rfl⟩
    · replace hF := ifN h15 hF
      refine W.skip ?_
      refine fun a ha => hK12 _ _ ?_ a ha
      refine W.seq fun K18 hK18 => ?_
      refine W.region ?_
      refine wl_move rfl rfl ?_
      refine wl_move rfl rfl ?_
      refine wl_strlen Tryd.underlying9 rfl rfl ?_
      refine wl_sub rfl rfl rfl ?_
      obtain ⟨u19, hu19, hF⟩ := bindE hF
      refine wl_strslice Tryd.underlying9 rfl rfl hu19 (.inl ⟨rfl, rfl⟩) (.inr ⟨_, _, rfl, rfl⟩) ?_
      obtain ⟨u20, hu20, hF⟩ := bindE hF
      refine wl_call rfl Tryd.call43 (C_strings_Split w0 u19 [10] _ hu20) rfl ?_
      rintro _ w23 ⟨v21, F22, rfl, hb24, hM27⟩
      refine ⟨_, rfl, ?_⟩
      have hB25 := hB.trans (hb24.mono hB.size)
      have hS26 := hS.join hb24 hM27 hB.size
      refine wl_assign rfl rfl ?_
      refine wl_assign rfl rfl ?_
      refine WL.nil ?_
      refine fun a ha => hK18 _ _ ?_ a ha
      refine W.ret ?_
      have hr := Option.some.inj hF
      subst hr
      exact rets (vs := [v21, (.bool true)]) hQ rfl ⟨rv_tmp rfl, rv_tmp rfl, trivial⟩ ⟨v21, F22, rfl, hB25, hS26.sel [0] rfl⟩
theorem C_impl_scriptLines (w0 : World) (x0 : (List UInt8)) (r : ((List (List UInt8)) × Bool)) (hF : F_impl_scriptLines x0 = some r) :
    Calls Tryd.prog 16 [(.string (mkS x0))].toArray w0 fun e w' => ∃ (q0 : Value) (G0 : List Nat), e = .returned (.tuple #[q0, (.bool r.2)]) ∧ Below w0.heap.size w0 w' ∧ Sep w0.heap.size w' [R.own ty_9 G0 q0 r.1] := by
  refine calls_mk' Tryd.func16 rfl Tryd.ntmps16 rfl rfl fun Q hQ hP => ?_
  have hB : Below w0.heap.size w0 w0 := Below.refl _ _
  have hS : Sep w0.heap.size w0 [] := Sep.nil _ _
  unfold F_impl_scriptLines at hF
  refine W.seq fun K1 hK1 => ?_
  refine W.region ?_
  refine wl_assign rfl rfl ?_
  refine wl_assign rfl rfl ?_
  refine WL.nil ?_
  refine fun a ha => hK1 _ _ ?_ a ha
  refine W.seq fun K2 hK2 => ?_
  refine W.region ?_
  refine wl_move rfl rfl ?_
  obtain ⟨u3, hu3, hF⟩ := bindE hF
  refine wl_call rfl Tryd.call33 (C_impl_linesOf w0 x0 _ hu3) rfl ?_
  rintro _ w6 ⟨v4, F5, rfl, hb7, hM10⟩
  refine ⟨_, rfl, ?_⟩
  have hB8 := hB.trans (hb7.mono hB.size)
  have hS9 := hS.join hb7 hM10 hB.size
  refine wl_move rfl rfl ?_
  refine wl_extract rfl rfl rfl ?_
  refine wl_extract rfl rfl rfl ?_
  refine wl_assign rfl rfl ?_
  refine wl_assign rfl rfl ?_
  refine WL.nil ?_
  refine fun a ha => hK2 _ _ ?_ a ha
  refine W.seq fun K11 hK11 => ?_
  refine W.seq fun K12 hK12 => ?_
  obtain ⟨k17, hk17, hF⟩ := jE1 hF
  have hJ18 : ∀ (y16 : Bool) (w13 : World) (_ : k17 y16 = some r) (_ : Below w0.heap.size w0 w13) (_ : Sep w0.heap.size w13 [R.own ty_9 F5 v4 u3.1]), ∀ a, St 24 [(4, v4), (22, (.bool y16))] a → K12 a w13 := by
    intro y16 w13 hF hB14 hS15
    subst hk17
    refine fun a ha => hK12 _ _ ?_ a ha
    refine W.cond rfl (fun h19 => ?_) (fun h19 => ?_)
    · replace hF := ifP h19 hF
      refine W.seq fun K20 hK20 => ?_
      refine W.region ?_
      refine wl_assign rfl rfl ?_
      refine wl_assign rfl rfl ?_
      refine WL.nil ?_
      refine fun a ha => hK20 _ _ ?_ a ha
      refine W.ret ?_
      have hS21 := hS15.push0 (r := R.own ty_9 [] (.slice none 0 0) []) rfl fun _ => .inl ⟨rfl, rfl, rfl⟩
      have hr := Option.some.inj hF
      subst hr
      exact rets (vs := [(.slice none 0 0), (.bool false)]) hQ rfl ⟨rv_tmp rfl, rv_tmp rfl, trivial⟩ ⟨(.slice none 0 0), [], rfl, hB14, hS21.sel [0] rfl⟩
    · replace hF := ifN h19 hF
      refine W.skip ?_
      refine fun a ha => hK11 _ _ ?_ a ha
      refine W.seq fun K22 hK22 => ?_
      refine W.region ?_
      refine wl_move rfl rfl ?_
      refine wl_assign rfl rfl ?_
      refine wl_assign rfl rfl ?_
      refine WL.nil ?_
      refine fun a ha => hK22 _ _ ?_ a ha
      refine W.ret ?_
      have hr := Option.some.inj hF
      subst hr
      exact rets (vs := [v4, (.bool true)]) hQ rfl ⟨rv_tmp rfl, rv_tmp rfl, trivial⟩ ⟨v4, F5, rfl, hB14, hS15.sel [0] rfl⟩
  refine W.region ?_
  refine wl_move rfl rfl ?_
  refine wl_not rfl rfl ?_
  refine wl_move rfl rfl ?_
  rcases bE (!u3.2) with h23 | h23
  · replace hF := ifP h23 hF
    refine wl_off rfl rfl rfl h23 ?_
    refine wl_off rfl rfl rfl h23 ?_
    refine wl_off rfl rfl rfl h23 ?_
    refine wl_pick_t rfl rfl h23 rfl ?_
    refine wl_move rfl rfl ?_
    refine wl_off rfl rfl rfl rfl ?_
    refine wl_off rfl rfl rfl rfl ?_
    refine wl_off rfl rfl rfl rfl ?_
    refine wl_pick_t rfl rfl rfl rfl ?_
    refine WL.nil ?_
    exact fun a ha => hJ18 (true) _ hF hB8 (hS9.sel [0] rfl) a (ha.sub ⟨rfl, rfl, trivial⟩)
  · replace hF := ifN h23 hF
    refine wl_on rfl rfl h23 ?_
    refine wl_move rfl rfl ?_
    refine wl_on rfl rfl h23 ?_
    refine wl_strlen Tryd.underlying9 rfl rfl ?_
    refine wl_on rfl rfl h23 ?_
    refine wl_gtr rfl rfl rfl ?_
    refine wl_pick_f rfl rfl h23 rfl ?_
    refine wl_move rfl rfl ?_
    rcases bE (decide (2000 < (List.length x0 : Int))) with h24 | h24
    · replace hF := ifP h24 hF
      refine wl_off rfl rfl rfl h24 ?_
      refine wl_off rfl rfl rfl h24 ?_
      refine wl_off rfl rfl rfl h24 ?_
      refine wl_pick_t rfl rfl h24 rfl ?_
      refine WL.nil ?_
      exact fun a ha => hJ18 (true) _ hF hB8 (hS9.sel [0] rfl) a (ha.sub ⟨rfl, rfl, trivial⟩)
    · replace hF := ifN h24 hF
      refine wl_on rfl rfl h24 ?_
      refine wl_move rfl rfl ?_
      refine wl_on rfl rfl h24 ?_
      refine wl_lenr (e := ty_9) (l := u3.1) Tryd.underlying37 rfl rfl (hS9.own_ro (i := 0) rfl) ?_
      refine wl_on rfl rfl h24 ?_
      refine wl_gtr rfl rfl rfl ?_
      refine wl_pick_f rfl rfl h24 rfl ?_
      refine WL.nil ?_
      exact fun a ha => hJ18 ((decide (40 < (List.length u3.1 : Int)))) _ hF hB8 (hS9.sel [0] rfl) a (ha.sub ⟨rfl, rfl, trivial⟩)
theorem C_impl_JoinScripts (w0 : World) (x0 : (List UInt8)) (x1 : (List UInt8)) (r : ((List UInt8) × Bool)) (hF : F_impl_JoinScripts x0 x1 = some r) :
    Calls Tryd.prog 6 [(.string (mkS x0)), (.string (mkS x1))].toArray w0 fun e w' => e = .returned (.tuple #[(.string (mkS r.1)), (.bool r.2)]) ∧ Below w0.heap.size w0 w' := by
  refine calls_mk' Tryd.func6 rfl Tryd.ntmps6 rfl rfl fun Q hQ hP => ?_
  have hB : Below w0.heap.size w0 w0 := Below.refl _ _
  have hS : Sep w0.heap.size w0 [] := Sep.nil _ _
  unfold F_impl_JoinScripts at hF
  refine W.seq fun K1 hK1 => ?_
  refine W.region ?_
  refine wl_assign rfl rfl ?_
  refine wl_assign rfl rfl ?_
  refine WL.nil ?_
  refine fun a ha => hK1 _ _ ?_ a ha
  refine W.seq fun K2 hK2 => ?_
  refine W.region ?_
  refine wl_move rfl rfl ?_
  obtain ⟨u3, hu3, hF⟩ := bindE hF
  refine wl_call rfl Tryd.call16 (C_impl_scriptLines w0 x0 _ hu3) rfl ?_
  rintro _ w6 ⟨v4, F5, rfl, hb7, hM10⟩
  refine ⟨_, rfl, ?_⟩
  have hB8 := hB.trans (hb7.mono hB.size)
  have hS9 := hS.join hb7 hM10 hB.size
  refine wl_move rfl rfl ?_
  refine wl_extract rfl rfl rfl ?_
  refine wl_extract rfl rfl rfl ?_
  refine wl_assign rfl rfl ?_
  refine wl_assign rfl rfl ?_
  refine WL.nil ?_
  refine fun a ha => hK2 _ _ ?_ a ha
  refine W.seq fun K11 hK11 => ?_
  refine W.region ?_
  refine wl_move rfl rfl ?_
  obtain ⟨u12, hu12, hF⟩ := bindE hF
  refine wl_call rfl Tryd.call16 (C_impl_scriptLines w6 x1 _ hu12) rfl ?_
  rintro _ w15 ⟨v13, F14, rfl, hb16, hM19⟩
  refine ⟨_, rfl, ?_⟩
  have hB17 := hB8.trans (hb16.mono hB8.size)
  have hS18 := hS9.join hb16 hM19 hB8.size
  refine wl_move rfl rfl ?_
  refine wl_extract rfl rfl rfl ?_
  refine wl_extract rfl rfl rfl ?_
  refine wl_assign rfl rfl ?_
  refine wl_assign rfl rfl ?_
  refine WL.nil ?_
  refine fun a ha => hK11 _ _ ?_ a ha
  refine W.seq fun K20 hK20 => ?_
  refine W.region ?_
  refine wl_move rfl rfl ?_
  refine wl_move rfl rfl ?_
  obtain ⟨u21, hu21, hF⟩ := bindE hF
  refine wl_stradd rfl rfl rfl hu21 ?_
  obtain ⟨u22, hu22, hF⟩ := bindE hF
  refine wl_call rfl Tryd.call16 (C_impl_scriptLines w15 u21 _ hu22) rfl ?_
  rintro _ w25 ⟨v23, F24, rfl, hb26, hM29⟩
  refine ⟨_, rfl, ?_⟩
  have hB27 := hB17.trans (hb26.mono hB17.size)
  have hS28 := hS18.join hb26 hM29 hB17.size
  refine wl_move rfl rfl ?_
  refine wl_extract rfl rfl rfl ?_
  refine wl_extract rfl rfl rfl ?_
  refine wl_assign rfl rfl ?_
  refine wl_assign rfl rfl ?_
  refine WL.nil ?_
  refine fun a ha => hK20 _ _ ?_ a ha
  refine W.seq fun K30 hK30 => ?_
  refine W.seq fun K31 hK31 => ?_
  obtain ⟨k36, hk36, hF⟩ := jE1 hF
  have hJ37 : ∀ (y35 : Bool) (w32 : World) (_ : k36 y35 = some r) (_ : Below w0.heap.size w0 w32) (_ : Sep w0.heap.size w32 []), ∀ a, St 42 [(0, (.string (mkS x0))), (1, (.string (mkS x1))), (38, (.bool y35))] a → K31 a w32 := by
    intro y35 w32 hF hB33 hS34
    subst hk36
    refine fun a ha => hK31 _ _ ?_ a ha
    refine W.cond rfl (fun h38 => ?_) (fun h38 => ?_)
    · replace hF := ifP h38 hF
      refine W.seq fun K39 hK39 => ?_
      refine W.region ?_
      refine wl_assign rfl rfl ?_
      refine wl_assign rfl rfl ?_
      refine WL.nil ?_
      refine fun a ha => hK39 _ _ ?_ a ha
      refine W.ret ?_
      have hr := Option.some.inj hF
      subst hr
      exact rets (vs := [(.string (mkS [])), (.bool false)]) hQ rfl ⟨rv_tmp rfl, rv_tmp rfl, trivial⟩ ⟨rfl, hB33⟩
    · replace hF := ifN h38 hF
      refine W.skip ?_
      refine fun a ha => hK30 _ _ ?_ a ha
      refine W.seq fun K40 hK40 => ?_
      refine W.region ?_
      refine wl_move rfl rfl ?_
      refine wl_move rfl rfl ?_
      obtain ⟨u41, hu41, hF⟩ := bindE hF
      refine wl_stradd rfl rfl rfl hu41 ?_
      refine wl_assign rfl rfl ?_
      refine wl_assign rfl rfl ?_
      refine WL.nil ?_
      refine fun a ha => hK40 _ _ ?_ a ha
      refine W.ret ?_
      have hr := Option.some.inj hF
      subst hr
      exact rets (vs := [(.string (mkS u41)), (.bool true)]) hQ rfl ⟨rv_tmp rfl, rv_tmp rfl, trivial⟩ ⟨rfl, hB33⟩
  refine W.region ?_
  refine wl_move rfl rfl ?_
  refine wl_not rfl rfl ?_
  refine wl_move rfl rfl ?_
  rcases bE (!u3.2) with h42 | h42
  · replace hF := ifP h42 hF
    refine wl_off rfl rfl rfl h42 ?_
    refine wl_off rfl rfl rfl h42 ?_
    refine wl_pick_t rfl rfl h42 rfl ?_
    refine wl_move rfl rfl ?_
    refine wl_off rfl rfl rfl rfl ?_
    refine wl_off rfl rfl rfl rfl ?_
    refine wl_pick_t rfl rfl rfl rfl ?_
    refine WL.nil ?_
    exact fun a ha => hJ37 (true) _ hF hB27 (hS28.sel [] rfl) a (ha.sub ⟨rfl, rfl, rfl, trivial⟩)
  · replace hF := ifN h42 hF
    refine wl_on rfl rfl h42 ?_
    refine wl_move rfl rfl ?_
    refine wl_on rfl rfl h42 ?_
    refine wl_not rfl rfl ?_
    refine wl_pick_f rfl rfl h42 rfl ?_
    refine wl_move rfl rfl ?_
    rcases bE (!u12.2) with h43 | h43
    · replace hF := ifP h43 hF
      refine wl_off rfl rfl rfl h43 ?_
      refine wl_off rfl rfl rfl h43 ?_
      refine wl_pick_t rfl rfl h43 rfl ?_
      refine WL.nil ?_
      exact fun a ha => hJ37 (true) _ hF hB27 (hS28.sel [] rfl) a (ha.sub ⟨rfl, rfl, rfl, trivial⟩)
    · replace hF := ifN h43 hF
      refine wl_on rfl rfl h43 ?_
      refine wl_move rfl rfl ?_
      refine wl_on rfl rfl h43 ?_
      refine wl_not rfl rfl ?_
      refine wl_pick_f rfl rfl h43 rfl ?_
      refine WL.nil ?_
      exact fun a ha => hJ37 ((!u22.2)) _ hF hB27 (hS28.sel [] rfl) a (ha.sub ⟨rfl, rfl, rfl, trivial⟩)
theorem C_laws_FnExactJoinScripts (w0 : World) (x0 : (List UInt8)) (x1 : (List UInt8)) (r : Bool) (hF : F_laws_FnExactJoinScripts x0 x1 = some r) :
    Calls Tryd.prog 3 [(.string (mkS x0)), (.string (mkS x1))].toArray w0 fun e w' => e = .returned (.bool r) ∧ Below w0.heap.size w0 w' := by
  refine calls_mk' Tryd.func3 rfl Tryd.ntmps3 rfl rfl fun Q hQ hP => ?_
  have hB : Below w0.heap.size w0 w0 := Below.refl _ _
  have hS : Sep w0.heap.size w0 [] := Sep.nil _ _
  unfold F_laws_FnExactJoinScripts at hF
  refine W.seq fun K1 hK1 => ?_
  refine W.region ?_
  refine wl_assign rfl rfl ?_
  refine WL.nil ?_
  refine fun a ha => hK1 _ _ ?_ a ha
  refine W.seq fun K2 hK2 => ?_
  refine W.seq fun K3 hK3 => ?_
  refine W.region ?_
  refine wl_move rfl rfl ?_
  refine wl_strlen Tryd.underlying9 rfl rfl ?_
  refine wl_gtr rfl rfl rfl ?_
  refine WL.nil ?_
  refine fun a ha => hK3 _ _ ?_ a ha
  refine W.cond rfl (fun h4 => ?_) (fun h4 => ?_)
  · replace hF := ifP h4 hF
    refine W.seq fun K5 hK5 => ?_
    refine W.region ?_
    refine wl_assign rfl rfl ?_
    refine WL.nil ?_
    refine fun a ha => hK5 _ _ ?_ a ha
    refine W.ret ?_
    have hr := Option.some.inj hF
    subst hr
    exact rets (vs := [(.bool true)]) hQ rfl ⟨rv_tmp rfl, trivial⟩ ⟨rfl, hB⟩
  · replace hF := ifN h4 hF
    refine W.skip ?_
    refine fun a ha => hK2 _ _ ?_ a ha
    refine W.seq fun K6 hK6 => ?_
    refine W.seq fun K7 hK7 => ?_
    refine W.region ?_
    refine wl_move rfl rfl ?_
    refine wl_strlen Tryd.underlying9 rfl rfl ?_
    refine wl_gtr rfl rfl rfl ?_
    refine WL.nil ?_
    refine fun a ha => hK7 _ _ ?_ a ha
    refine W.cond rfl (fun h8 => ?_) (fun h8 => ?_)
    · replace hF := ifP h8 hF
      refine W.seq fun K9 hK9 => ?_
      refine W.region ?_
      refine wl_assign rfl rfl ?_
      refine WL.nil ?_
      refine fun a ha => hK9 _ _ ?_ a ha
      refine W.ret ?_
      have hr := Option.some.inj hF
      subst hr
      exact rets (vs := [(.bool true)]) hQ rfl ⟨rv_tmp rfl, trivial⟩ ⟨rfl, hB⟩
    · replace hF := ifN h8 hF
      refine W.skip ?_
      refine fun a ha => hK6 _ _ ?_ a ha
      refine W.seq fun K10 hK10 => ?_
      refine W.region ?_
      refine wl_move rfl rfl ?_
      refine wl_move rfl rfl ?_
      obtain ⟨u11, hu11, hF⟩ := bindE hF
      refine wl_call rfl Tryd.call5 (C_spec_JoinScripts w0 x0 x1 _ hu11) rfl ?_
      rintro _ w12 ⟨rfl, hb13⟩
      refine ⟨_, rfl, ?_⟩
      have hB14 := hB.trans (hb13.mono hB.size)
      have hS15 := hS.below hb13
      refine wl_move rfl rfl ?_
      refine wl_extract rfl rfl rfl ?_
      refine wl_extract rfl rfl rfl ?_
      refine wl_assign rfl rfl ?_
      refine wl_assign rfl rfl ?_
      refine WL.nil ?_
      refine fun a ha => hK10 _ _ ?_ a ha
      refine W.seq fun K17 hK17 => ?_
      refine W.region ?_
      refine wl_move rfl rfl ?_
      refine wl_move rfl rfl ?_
      obtain ⟨u18, hu18, hF⟩ := bindE hF
      refine wl_call rfl Tryd.call6 (C_impl_JoinScripts w12 x0 x1 _ hu18) rfl ?_
      rintro _ w19 ⟨rfl, hb20⟩
      refine ⟨_, rfl, ?_⟩
      have hB21 := hB14.trans (hb20.mono hB14.size)
      have hS22 := hS15.below hb20
      refine wl_move rfl rfl ?_
      refine wl_extract rfl rfl rfl ?_
      refine wl_extract rfl rfl rfl ?_
      refine wl_assign rfl rfl ?_
      refine wl_assign rfl rfl ?_
      refine WL.nil ?_
      refine fun a ha => hK17 _ _ ?_ a ha
      refine W.seq fun K24 hK24 => ?_
      refine W.seq fun K25 hK25 => ?_
      obtain ⟨k30, hk30, hF⟩ := jE1 hF
      have hJ31 : ∀ (y29 : Bool) (w26 : World) (_ : k30 y29 = some r) (_ : Below w0.heap.size w0 w26) (_ : Sep w0.heap.size w26 []), ∀ a, St 35 [(34, (.bool y29))] a → K25 a w26 := by
        intro y29 w26 hF hB27 hS28
        subst hk30
        refine fun a ha => hK25 _ _ ?_ a ha
        refine W.cond rfl (fun h32 => ?_) (fun h32 => ?_)
        · replace hF := ifP h32 hF
          refine W.seq fun K33 hK33 => ?_
          refine W.region ?_
          refine wl_assign rfl rfl ?_
          refine WL.nil ?_
          refine fun a ha => hK33 _ _ ?_ a ha
          refine W.ret ?_
          have hr := Option.some.inj hF
          subst hr
          exact rets (vs := [(.bool false)]) hQ rfl ⟨rv_tmp rfl, trivial⟩ ⟨rfl, hB27⟩
        · replace hF := ifN h32 hF
          refine W.skip ?_
          refine fun a ha => hK24 _ _ ?_ a ha
          refine W.seq fun K34 hK34 => ?_
          refine W.region ?_
          refine wl_assign rfl rfl ?_
          refine WL.nil ?_
          refine fun a ha => hK34 _ _ ?_ a ha
          refine W.ret ?_
          have hr := Option.some.inj hF
          subst hr
          exact rets (vs := [(.bool true)]) hQ rfl ⟨rv_tmp rfl, trivial⟩ ⟨rfl, hB27⟩
      refine W.region ?_
      refine wl_move rfl rfl ?_
      refine wl_move rfl rfl ?_
      refine wl_strneq rfl rfl rfl ?_
      refine wl_move rfl rfl ?_
      rcases bE (u18.1 != u11.1) with h35 | h35
      · replace hF := ifP h35 hF
        refine wl_off rfl rfl rfl h35 ?_
        refine wl_off rfl rfl rfl h35 ?_
        refine wl_off rfl rfl rfl h35 ?_
        refine wl_pick_t rfl rfl h35 rfl ?_
        refine WL.nil ?_
        exact fun a ha => hJ31 (true) _ hF hB21 (hS22.sel [] rfl) a (ha.sub ⟨rfl, trivial⟩)
      · replace hF := ifN h35 hF
        refine wl_on rfl rfl h35 ?_
        refine wl_move rfl rfl ?_
        refine wl_on rfl rfl h35 ?_
        refine wl_move rfl rfl ?_
        refine wl_on rfl rfl h35 ?_
        refine wl_neqb Tryd.underlying4 rfl rfl rfl ?_
        refine wl_pick_f rfl rfl h35 rfl ?_
        refine WL.nil ?_
        exact fun a ha => hJ31 ((u18.2 != u11.2)) _ hF hB21 (hS22.sel [] rfl) a (ha.sub ⟨rfl, trivial⟩)
end Go.Proofs.YtcndhhjolnebdaaDoor
