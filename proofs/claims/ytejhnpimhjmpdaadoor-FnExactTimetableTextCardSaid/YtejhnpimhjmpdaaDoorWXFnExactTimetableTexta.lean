/-
  THE WALKS of functions of this seat, by program (gen.py, prune.py).
-/
import Derived.Test.YtejhnpimhjmpdaaDoorBld
set_option linter.unusedSimpArgs false
set_option linter.unusedVariables false
set_option maxRecDepth 100000
set_option maxHeartbeats 1600000
namespace Go.Proofs.YtejhnpimhjmpdaaDoor
open Go Go.RowKit
theorem C_laws_szMeasureS (w0 : World) (x0 : (List (Int × Int))) (v0_0 : Value) (h0_0 : rdS ty_65 (· < w0.heap.size) w0 v0_0 x0) (x1 : Int) (r : Int) (hF : F_laws_szMeasureS x0 x1 = some r) :
  Calls Tryd.prog 5 [v0_0, (.int .i64 x1)].toArray w0 fun e w' => e = .returned (.int .i64 r) ∧ Below w0.heap.size w0 w' := by
 refine calls_mk' Tryd.func5 rfl Tryd.ntmps5 rfl rfl fun Q hQ hP => ?_
 have hB : Below w0.heap.size w0 w0 := Below.refl _ _
 unfold F_laws_szMeasureS at hF
 refine W.seq fun K1 hK1 => W.region (wl_assign rfl rfl (WL.nil (fun a ha => hK1 _ _ (W.seq fun K2 hK2 => (W.region (wl_move rfl rfl (wl_move rfl rfl (wl_lenr (e := ty_65) (l := x0) Tryd.underlying22 rfl rfl h0_0 (wl_sub rfl rfl rfl (wl_assign rfl rfl (WL.nil (fun a ha => hK2 _ _ ?_ a ha))))))))) a ha)))
 refine W.seq fun K3 hK3 => W.seq fun K4 hK4 => W.region (wl_move rfl rfl (wl_lss rfl rfl rfl (WL.nil (fun a ha => hK4 _ _ (W.cond rfl (fun h5 => ?_) (fun h5 => ?_)) a ha))))
 ·replace hF := ifP h5 hF
  refine W.seq fun K6 hK6 => W.region (wl_assign rfl rfl (WL.nil (fun a ha => hK6 _ _ (W.ret ?_) a ha)))
  have hr := Option.some.inj hF
  subst hr
  exact rets (vs := [(.int .i64 (-1))]) hQ rfl ⟨rv_tmp rfl, trivial⟩ ⟨rfl, hB⟩
 ·replace hF := ifN h5 hF
  refine W.skip fun a ha => hK3 _ _ (W.seq fun K7 hK7 => (W.region (wl_move rfl rfl (wl_assign rfl rfl (WL.nil (fun a ha => hK7 _ _ (W.ret ?_) a ha)))))) a ha
  have hr := Option.some.inj hF
  subst hr
  exact rets (vs := [(.int .i64 (w64 (x1 - (List.length x0 : Int))))]) hQ rfl ⟨rv_tmp rfl, trivial⟩ ⟨rfl, hB⟩
theorem C_laws_szCue (w0 : World) (x0 : (Int × (List UInt8))) (x1 : Int) (r : Int) (hF : F_laws_szCue x0 x1 = some r) :
  Calls Tryd.prog 32 [(.agg #[(.int .i64 x0.1), (.string (mkS x0.2))]), (.int .i64 x1)].toArray w0 fun e w' => e = .returned (.int .i64 r) ∧ Below w0.heap.size w0 w' := by
 refine calls_mk' Tryd.func32 rfl Tryd.ntmps32 rfl rfl fun Q hQ hP => ?_
 have hB : Below w0.heap.size w0 w0 := Below.refl _ _
 have hS : Sep w0.heap.size w0 [] := Sep.nil _ _
 unfold F_laws_szCue at hF
 refine W.seq fun K1 hK1 => W.region (wl_box (cs := [(.int .i64 x0.1), (.string (mkS x0.2))]) rfl rfl rfl hB hS ?_)
 intro b2 w3 hb4 hB5 hS6
 refine wl_assign rfl rfl (WL.nil (fun a ha => hK1 _ _ (W.seq fun K7 hK7 => (W.region (wl_move rfl rfl (wl_field (o := 1) (off' := 1) ff_57_1 rfl rfl rfl (wl_load_blk (i := 0) (vs := [(.string (mkS x0.2))]) (v := (.string (mkS x0.2))) tf_9 rfl rfl hS6 rfl rfl rfl (wl_strlen Tryd.underlying9 rfl rfl (wl_sub rfl rfl rfl (wl_assign rfl rfl (WL.nil (fun a ha => hK7 _ _ (W.seq fun K8 hK8 => ?_) a ha)))))))))) a ha))
 refine W.seq fun K9 hK9 => W.region (wl_move rfl rfl (wl_lss rfl rfl rfl (WL.nil (fun a ha => hK9 _ _ (W.cond rfl (fun h10 => ?_) (fun h10 => ?_)) a ha))))
 ·replace hF := ifP h10 hF
  refine W.seq fun K11 hK11 => W.region (wl_assign rfl rfl (WL.nil (fun a ha => hK11 _ _ (W.ret ?_) a ha)))
  have hr := Option.some.inj hF
  subst hr
  exact rets (vs := [(.int .i64 (-1))]) hQ rfl ⟨rv_tmp rfl, trivial⟩ ⟨rfl, hB5⟩
 ·replace hF := ifN h10 hF
  refine W.skip fun a ha => hK8 _ _ (W.seq fun K12 hK12 => (W.region (wl_move rfl rfl (wl_assign rfl rfl (WL.nil (fun a ha => hK12 _ _ (W.ret ?_) a ha)))))) a ha
  have hr := Option.some.inj hF
  subst hr
  exact rets (vs := [(.int .i64 (w64 (x1 - (List.length x0.2 : Int))))]) hQ rfl ⟨rv_tmp rfl, trivial⟩ ⟨rfl, hB5⟩
theorem C_laws_szCueS (w0 : World) (x0 : (List (Int × (List UInt8)))) (v0_0 : Value) (h0_0 : rdS ty_57 (· < w0.heap.size) w0 v0_0 x0) (x1 : Int) (r : Int) (hF : F_laws_szCueS x0 x1 = some r) :
  Calls Tryd.prog 6 [v0_0, (.int .i64 x1)].toArray w0 fun e w' => e = .returned (.int .i64 r) ∧ Below w0.heap.size w0 w' := by
 refine calls_mk' Tryd.func6 rfl Tryd.ntmps6 rfl rfl fun Q hQ hP => ?_
 have hB : Below w0.heap.size w0 w0 := Below.refl _ _
 have hS : Sep w0.heap.size w0 [] := Sep.nil _ _
 unfold F_laws_szCueS at hF
 refine W.seq fun K1 hK1 => W.region (wl_assign rfl rfl (WL.nil (fun a ha => hK1 _ _ (W.seq fun K2 hK2 => (W.region (wl_move rfl rfl (wl_move rfl rfl (wl_lenr (e := ty_57) (l := x0) Tryd.underlying23 rfl rfl h0_0 (wl_sub rfl rfl rfl (wl_assign rfl rfl (WL.nil (fun a ha => hK2 _ _ ?_ a ha))))))))) a ha)))
 refine W.seq fun K3 hK3 => W.seq fun K4 hK4 => W.region (wl_move rfl rfl (wl_lss rfl rfl rfl (WL.nil (fun a ha => hK4 _ _ (W.cond rfl (fun h5 => ?_) (fun h5 => ?_)) a ha))))
 ·replace hF := ifP h5 hF
  refine W.seq fun K6 hK6 => W.region (wl_assign rfl rfl (WL.nil (fun a ha => hK6 _ _ (W.ret ?_) a ha)))
  have hr := Option.some.inj hF
  subst hr
  exact rets (vs := [(.int .i64 (-1))]) hQ rfl ⟨rv_tmp rfl, trivial⟩ ⟨rfl, hB⟩
 ·replace hF := ifN h5 hF
  refine W.skip fun a ha => hK3 _ _ (W.seq fun K7 hK7 => (W.seq fun K8 hK8 => (W.region (wl_assign rfl rfl (WL.nil (fun a ha => hK8 _ _ (W.block (W.loopk (fun m a w9 => ∃ (y12 : Int) (y13 : Int), St 27 [(0, v0_0), (1, (.int .i64 y12)), (5, (.int .i64 y13))] a ∧ Below w0.heap.size w0 w9 ∧ Sep w0.heap.size w9 [] ∧ F_laws_szCueS_L1 x0 m y12 y13 = some r) FU ?_ ?_)) a ha)))))) a ha
  ·
   exact fun a ha => ⟨(w64 (x1 - (List.length x0 : Int))), 0, ha.sub ⟨rfl, rfl, rfl, trivial⟩, hB, (hS.sel [] rfl), hF⟩
  ·
   rintro m16 a w9 ⟨y12, y13, ha, hB10, hS11, hF⟩ KL15 hKL15
   refine W.at ?_ ha
   cases m16 with
   | zero => exact noneE hF
   | succ m16 =>
    obtain ⟨nx14, hnx14⟩ : ∃ k, k = F_laws_szCueS_L1 x0 m16 := ⟨_, rfl⟩
    rw [F_laws_szCueS_L1, ← hnx14] at hF
    refine W.seq fun K17 hK17 => W.seq fun K18 hK18 => W.region (wl_move rfl rfl (wl_move rfl rfl (wl_lenr (e := ty_57) (l := x0) Tryd.underlying23 rfl rfl h0_0 (wl_lss rfl rfl rfl (WL.nil (fun a ha => hK18 _ _ (W.cond rfl (fun h19 => ?_) (fun h19 => ?_)) a ha))))))
    ·replace hF := ifP h19 hF
     refine W.skip fun a ha => hK17 _ _ (W.seq fun K20 hK20 => (W.block (W.seq fun K21 hK21 => (W.region (wl_move rfl rfl (wl_move rfl rfl ?_)))))) a ha
     obtain ⟨u22, hu22, hF⟩ := bindE hF
     refine wl_index (e := ty_57) Tryd.underlying23 rfl rfl rfl h0_0 hu22 ?_
     rintro p23 _ rfl hp24
     refine wl_load_p (vs := [(.int .i64 u22.1), (.string (mkS u22.2))]) (v := (.agg #[(.int .i64 u22.1), (.string (mkS u22.2))])) tf_57 rfl rfl (hp24.ro hB10) rfl rfl (wl_move rfl rfl ?_)
     obtain ⟨u25, hu25, hF⟩ := bindE hF
     refine wl_call rfl Tryd.call32 (C_laws_szCue w9 u22 y12 _ hu25) rfl ?_
     rintro _ w26 ⟨rfl, hb27⟩
     refine ⟨_, rfl, ?_⟩
     have hB28 := hB10.trans (hb27.mono hB10.size)
     have hS29 := hS11.below hb27
     refine wl_assign rfl rfl (WL.nil (fun a ha => hK21 _ _ (W.seq fun K31 hK31 => (W.region (wl_move rfl rfl (wl_lss rfl rfl rfl (WL.nil (fun a ha => hK31 _ _ (W.cond rfl (fun h32 => ?_) (fun h32 => ?_)) a ha)))))) a ha))
     ·replace hF := ifP h32 hF
      refine W.seq fun K33 hK33 => W.region (wl_assign rfl rfl (WL.nil (fun a ha => hK33 _ _ (W.ret ?_) a ha)))
      have hr := Option.some.inj hF
      subst hr
      exact rets (vs := [(.int .i64 (-1))]) hQ rfl ⟨rv_tmp rfl, trivial⟩ ⟨rfl, hB28⟩
     ·replace hF := ifN h32 hF
      refine W.skip fun a ha => hK20 _ _ (W.region (wl_move rfl rfl (wl_add rfl rfl rfl (wl_assign rfl rfl (WL.nil ?_))))) a ha
      rw [hnx14] at hF
      exact fun a ha => hKL15 a _ m16 (Nat.lt_succ_self m16) ⟨u25, (w64 (y13 + 1)), ha.sub ⟨rfl, rfl, rfl, trivial⟩, hB28, (hS29.sel [] rfl), hF⟩
    ·replace hF := ifN h19 hF
     refine W.exit fun a ha => hK7 _ _ (W.seq fun K34 hK34 => (W.region (wl_move rfl rfl (wl_assign rfl rfl (WL.nil (fun a ha => hK34 _ _ (W.ret ?_) a ha)))))) a ha
     have hr := Option.some.inj hF
     subst hr
     exact rets (vs := [(.int .i64 y12)]) hQ rfl ⟨rv_tmp rfl, trivial⟩ ⟨rfl, hB10⟩
theorem C_laws_toMeasure (w0 : World) (x0 : (Int × Int)) (r : (Int × Int)) (hF : F_laws_toMeasure x0 = some r) :
  Calls Tryd.prog 37 [(.agg #[(.int .i64 x0.1), (.int .i64 x0.2)])].toArray w0 fun e w' => e = .returned (.agg #[(.int .i64 r.1), (.int .i64 r.2)]) ∧ Below w0.heap.size w0 w' := by
 refine calls_mk' Tryd.func37 rfl Tryd.ntmps37 rfl rfl fun Q hQ hP => ?_
 have hB : Below w0.heap.size w0 w0 := Below.refl _ _
 have hS : Sep w0.heap.size w0 [] := Sep.nil _ _
 unfold F_laws_toMeasure at hF
 refine W.seq fun K1 hK1 => W.region (wl_box (cs := [(.int .i64 x0.1), (.int .i64 x0.2)]) rfl rfl rfl hB hS ?_)
 intro b2 w3 hb4 hB5 hS6
 refine wl_alloc (cs := [(.int .i64 0), (.int .i64 0)]) tf_63 rfl rfl hB5 hS6 ?_
 intro b7 w8 hb9 hB10 hS11
 refine WL.nil fun a ha => hK1 _ _ (W.seq fun K12 hK12 => (W.region (wl_alloc (cs := [(.int .i64 0), (.int .i64 0)]) tf_63 rfl rfl hB10 hS11 ?_))) a ha
 intro b13 w14 hb15 hB16 hS17
 refine WL.nil fun a ha => hK12 _ _ (W.seq fun K18 hK18 => (W.region (wl_field (o := 0) (off' := 0) ff_65_0 rfl rfl rfl (wl_load_blk (i := 2) (vs := [(.int .i64 x0.1)]) (v := (.int .i64 x0.1)) tf_3 rfl rfl hS17 rfl rfl rfl (wl_field (o := 0) (off' := 0) ff_63_0 rfl rfl rfl (wl_store_blk (i := 0) (vs := [(.int .i64 x0.1)]) (cs' := [(.int .i64 x0.1), (.int .i64 0)]) tf_3 rfl rfl rfl rfl hB16 hS17 rfl rfl ⟨rfl, trivial⟩ rfl ?_)))))) a ha
 intro w19 hk22 hB20 hS21
 refine WL.nil fun a ha => hK18 _ _ (W.seq fun K23 hK23 => (W.region (wl_field (o := 1) (off' := 1) ff_65_1 rfl rfl rfl (wl_load_blk (i := 2) (vs := [(.int .i64 x0.2)]) (v := (.int .i64 x0.2)) tf_3 rfl rfl hS21 rfl rfl rfl (wl_field (o := 1) (off' := 1) ff_63_1 rfl rfl rfl (wl_store_blk (i := 0) (vs := [(.int .i64 x0.2)]) (cs' := [(.int .i64 x0.1), (.int .i64 x0.2)]) tf_3 rfl rfl rfl rfl hB20 hS21 rfl rfl ⟨rfl, trivial⟩ rfl ?_)))))) a ha
 intro w24 hk27 hB25 hS26
 refine WL.nil fun a ha => hK23 _ _ (W.seq fun K28 hK28 => (W.region (wl_load_blk (i := 0) (vs := [(.int .i64 x0.1), (.int .i64 x0.2)]) (v := (.agg #[(.int .i64 x0.1), (.int .i64 x0.2)])) tf_63 rfl rfl hS26 rfl rfl rfl (wl_store_blk (i := 1) (vs := [(.int .i64 x0.1), (.int .i64 x0.2)]) (cs' := [(.int .i64 x0.1), (.int .i64 x0.2)]) tf_63 rfl rfl rfl rfl hB25 hS26 rfl rfl ⟨rfl, rfl, trivial⟩ rfl ?_)))) a ha
 intro w29 hk32 hB30 hS31
 refine WL.nil fun a ha => hK28 _ _ (W.ret ?_) a ha
 have hr := Option.some.inj hF
 subst hr
 exact rets (vs := [(.agg #[(.int .i64 x0.1), (.int .i64 x0.2)])]) hQ rfl ⟨rv_cell (i := 1) tf_63 rfl hS31 rfl rfl rfl, trivial⟩ ⟨rfl, hB30⟩
theorem C_laws_toMeasureS (w0 : World) (x0 : (List (Int × Int))) (v0_0 : Value) (h0_0 : rdS ty_65 (· < w0.heap.size) w0 v0_0 x0) (r : (List (Int × Int))) (hF : F_laws_toMeasureS x0 = some r) :
  Calls Tryd.prog 8 [v0_0].toArray w0 fun e w' => ∃ (q0 : Value) (G0 : List Nat), e = .returned q0 ∧ Below w0.heap.size w0 w' ∧ Sep w0.heap.size w' [R.own ty_63 G0 q0 r] := by
 refine calls_mk' Tryd.func8 rfl Tryd.ntmps8 rfl rfl fun Q hQ hP => ?_
 have hB : Below w0.heap.size w0 w0 := Below.refl _ _
 have hS : Sep w0.heap.size w0 [] := Sep.nil _ _
 unfold F_laws_toMeasureS at hF
 refine W.seq fun K1 hK1 => W.region (wl_assign rfl rfl (WL.nil (fun a ha => hK1 _ _ (W.seq fun K2 hK2 => (W.region (wl_move rfl rfl (wl_lenr (e := ty_65) (l := x0) Tryd.underlying22 rfl rfl h0_0 ?_)))) a ha)))
 obtain ⟨u3, hu3, hF⟩ := bindE hF
 refine wl_make (e := ty_63) Tryd.underlying28 rfl rfl hu3 hB hS ?_
 intro v4 F5 w6 hb7 hB8 hS9
 refine wl_assign rfl rfl (WL.nil (fun a ha => hK2 _ _ (W.seq fun K10 hK10 => (W.seq fun K11 hK11 => (W.region (wl_assign rfl rfl (WL.nil (fun a ha => hK11 _ _ (W.block (W.loopk (fun m a w12 => ∃ (l15 : (List (Int × Int))) (y18 : Int) (v16 : Value) (F17 : List Nat), St 23 [(0, v0_0), (3, v16), (4, (.int .i64 y18))] a ∧ Below w0.heap.size w0 w12 ∧ Sep w0.heap.size w12 [R.own ty_63 F17 v16 l15] ∧ F_laws_toMeasureS_L1 x0 m l15 y18 = some r) FU ?_ ?_)) a ha)))))) a ha))
 ·
  exact fun a ha => ⟨u3, 0, v4, F5, ha.sub ⟨rfl, rfl, rfl, trivial⟩, hB8, (hS9.sel [0] rfl), hF⟩
 ·
  rintro m21 a w12 ⟨l15, y18, v16, F17, ha, hB13, hS14, hF⟩ KL20 hKL20
  refine W.at ?_ ha
  cases m21 with
  | zero => exact noneE hF
  | succ m21 =>
   obtain ⟨nx19, hnx19⟩ : ∃ k, k = F_laws_toMeasureS_L1 x0 m21 := ⟨_, rfl⟩
   rw [F_laws_toMeasureS_L1, ← hnx19] at hF
   refine W.seq fun K22 hK22 => W.seq fun K23 hK23 => W.region (wl_move rfl rfl (wl_move rfl rfl (wl_lenr (e := ty_65) (l := x0) Tryd.underlying22 rfl rfl h0_0 (wl_lss rfl rfl rfl (WL.nil (fun a ha => hK23 _ _ (W.cond rfl (fun h24 => ?_) (fun h24 => ?_)) a ha))))))
   ·replace hF := ifP h24 hF
    refine W.skip fun a ha => hK22 _ _ (W.seq fun K25 hK25 => (W.block (W.region (wl_move rfl rfl (wl_move rfl rfl (wl_move rfl rfl (wl_move rfl rfl ?_))))))) a ha
    obtain ⟨u26, hu26, hF⟩ := bindE hF
    refine wl_index (e := ty_65) Tryd.underlying22 rfl rfl rfl h0_0 hu26 ?_
    rintro p27 _ rfl hp28
    refine wl_load_p (vs := [(.int .i64 u26.1), (.int .i64 u26.2)]) (v := (.agg #[(.int .i64 u26.1), (.int .i64 u26.2)])) tf_65 rfl rfl (hp28.ro hB13) rfl rfl ?_
    obtain ⟨u29, hu29, hF⟩ := bindE hF
    refine wl_call rfl Tryd.call37 (C_laws_toMeasure w12 u26 _ hu29) rfl ?_
    rintro _ w30 ⟨rfl, hb31⟩
    refine ⟨_, rfl, ?_⟩
    have hB32 := hB13.trans (hb31.mono hB13.size)
    have hS33 := hS14.below hb31
    obtain ⟨u35, hu35, hF⟩ := bindE hF
    refine wl_indexo (e := ty_63) (i := 0) Tryd.underlying28 rfl rfl rfl hS33 rfl hu35 ?_
    rintro p36 _ rfl hp37 ho38
    refine wl_storeo (i := 0) (o := 0) (vs := [(.int .i64 u29.1), (.int .i64 u29.2)]) (u' := u29) fl_63 tf_63 rfl rfl rfl rfl ho38 hu35 hB32 hS33 rfl rfl ⟨rfl, rfl, trivial⟩ rfl ?_
    intro w39 hk42 hB40 hS41
    refine WL.nil fun a ha => hK25 _ _ (W.region (wl_move rfl rfl (wl_add rfl rfl rfl (wl_assign rfl rfl (WL.nil ?_))))) a ha
    rw [hnx19] at hF
    exact fun a ha => hKL20 a _ m21 (Nat.lt_succ_self m21) ⟨(seti l15 y18 u29), (w64 (y18 + 1)), v16, F17, ha.sub ⟨rfl, rfl, rfl, trivial⟩, hB40, (hS41.sel [0] rfl), hF⟩
   ·replace hF := ifN h24 hF
    refine W.exit fun a ha => hK10 _ _ (W.seq fun K43 hK43 => (W.region (wl_move rfl rfl (wl_assign rfl rfl (WL.nil (fun a ha => hK43 _ _ (W.ret ?_) a ha)))))) a ha
    have hr := Option.some.inj hF
    subst hr
    exact rets (vs := [v16]) hQ rfl ⟨rv_tmp rfl, trivial⟩ ⟨v16, F17, rfl, hB13, hS14.sel [0] rfl⟩
theorem C_laws_toCue (w0 : World) (x0 : (Int × (List UInt8))) (r : (Int × (List UInt8))) (hF : F_laws_toCue x0 = some r) :
  Calls Tryd.prog 38 [(.agg #[(.int .i64 x0.1), (.string (mkS x0.2))])].toArray w0 fun e w' => e = .returned (.agg #[(.int .i64 r.1), (.string (mkS r.2))]) ∧ Below w0.heap.size w0 w' := by
 refine calls_mk' Tryd.func38 rfl Tryd.ntmps38 rfl rfl fun Q hQ hP => ?_
 have hB : Below w0.heap.size w0 w0 := Below.refl _ _
 have hS : Sep w0.heap.size w0 [] := Sep.nil _ _
 unfold F_laws_toCue at hF
 refine W.seq fun K1 hK1 => W.region (wl_box (cs := [(.int .i64 x0.1), (.string (mkS x0.2))]) rfl rfl rfl hB hS ?_)
 intro b2 w3 hb4 hB5 hS6
 refine wl_alloc (cs := [(.int .i64 0), (.string (mkS []))]) tf_39 rfl rfl hB5 hS6 ?_
 intro b7 w8 hb9 hB10 hS11
 refine WL.nil fun a ha => hK1 _ _ (W.seq fun K12 hK12 => (W.region (wl_alloc (cs := [(.int .i64 0), (.string (mkS []))]) tf_39 rfl rfl hB10 hS11 ?_))) a ha
 intro b13 w14 hb15 hB16 hS17
 refine WL.nil fun a ha => hK12 _ _ (W.seq fun K18 hK18 => (W.region (wl_field (o := 0) (off' := 0) ff_57_0 rfl rfl rfl (wl_load_blk (i := 2) (vs := [(.int .i64 x0.1)]) (v := (.int .i64 x0.1)) tf_3 rfl rfl hS17 rfl rfl rfl (wl_field (o := 0) (off' := 0) ff_39_0 rfl rfl rfl (wl_store_blk (i := 0) (vs := [(.int .i64 x0.1)]) (cs' := [(.int .i64 x0.1), (.string (mkS []))]) tf_3 rfl rfl rfl rfl hB16 hS17 rfl rfl ⟨rfl, trivial⟩ rfl ?_)))))) a ha
 intro w19 hk22 hB20 hS21
 refine WL.nil fun a ha => hK18 _ _ (W.seq fun K23 hK23 => (W.region (wl_field (o := 1) (off' := 1) ff_57_1 rfl rfl rfl (wl_load_blk (i := 2) (vs := [(.string (mkS x0.2))]) (v := (.string (mkS x0.2))) tf_9 rfl rfl hS21 rfl rfl rfl (wl_field (o := 1) (off' := 1) ff_39_1 rfl rfl rfl (wl_store_blk (i := 0) (vs := [(.string (mkS x0.2))]) (cs' := [(.int .i64 x0.1), (.string (mkS x0.2))]) tf_9 rfl rfl rfl rfl hB20 hS21 rfl rfl ⟨rfl, trivial⟩ rfl ?_)))))) a ha
 intro w24 hk27 hB25 hS26
 refine WL.nil fun a ha => hK23 _ _ (W.seq fun K28 hK28 => (W.region (wl_load_blk (i := 0) (vs := [(.int .i64 x0.1), (.string (mkS x0.2))]) (v := (.agg #[(.int .i64 x0.1), (.string (mkS x0.2))])) tf_39 rfl rfl hS26 rfl rfl rfl (wl_store_blk (i := 1) (vs := [(.int .i64 x0.1), (.string (mkS x0.2))]) (cs' := [(.int .i64 x0.1), (.string (mkS x0.2))]) tf_39 rfl rfl rfl rfl hB25 hS26 rfl rfl ⟨rfl, rfl, trivial⟩ rfl ?_)))) a ha
 intro w29 hk32 hB30 hS31
 refine WL.nil fun a ha => hK28 _ _ (W.ret ?_) a ha
 have hr := Option.some.inj hF
 subst hr
 exact rets (vs := [(.agg #[(.int .i64 x0.1), (.string (mkS x0.2))])]) hQ rfl ⟨rv_cell (i := 1) tf_39 rfl hS31 rfl rfl rfl, trivial⟩ ⟨rfl, hB30⟩
theorem C_laws_toCueS (w0 : World) (x0 : (List (Int × (List UInt8)))) (v0_0 : Value) (h0_0 : rdS ty_57 (· < w0.heap.size) w0 v0_0 x0) (r : (List (Int × (List UInt8)))) (hF : F_laws_toCueS x0 = some r) :
  Calls Tryd.prog 9 [v0_0].toArray w0 fun e w' => ∃ (q0 : Value) (G0 : List Nat), e = .returned q0 ∧ Below w0.heap.size w0 w' ∧ Sep w0.heap.size w' [R.own ty_39 G0 q0 r] := by
 refine calls_mk' Tryd.func9 rfl Tryd.ntmps9 rfl rfl fun Q hQ hP => ?_
 have hB : Below w0.heap.size w0 w0 := Below.refl _ _
 have hS : Sep w0.heap.size w0 [] := Sep.nil _ _
 unfold F_laws_toCueS at hF
 refine W.seq fun K1 hK1 => W.region (wl_assign rfl rfl (WL.nil (fun a ha => hK1 _ _ (W.seq fun K2 hK2 => (W.region (wl_move rfl rfl (wl_lenr (e := ty_57) (l := x0) Tryd.underlying23 rfl rfl h0_0 ?_)))) a ha)))
 obtain ⟨u3, hu3, hF⟩ := bindE hF
 refine wl_make (e := ty_39) Tryd.underlying30 rfl rfl hu3 hB hS ?_
 intro v4 F5 w6 hb7 hB8 hS9
 refine wl_assign rfl rfl (WL.nil (fun a ha => hK2 _ _ (W.seq fun K10 hK10 => (W.seq fun K11 hK11 => (W.region (wl_assign rfl rfl (WL.nil (fun a ha => hK11 _ _ (W.block (W.loopk (fun m a w12 => ∃ (l15 : (List (Int × (List UInt8)))) (y18 : Int) (v16 : Value) (F17 : List Nat), St 23 [(0, v0_0), (3, v16), (4, (.int .i64 y18))] a ∧ Below w0.heap.size w0 w12 ∧ Sep w0.heap.size w12 [R.own ty_39 F17 v16 l15] ∧ F_laws_toCueS_L1 x0 m l15 y18 = some r) FU ?_ ?_)) a ha)))))) a ha))
 ·
  exact fun a ha => ⟨u3, 0, v4, F5, ha.sub ⟨rfl, rfl, rfl, trivial⟩, hB8, (hS9.sel [0] rfl), hF⟩
 ·
  rintro m21 a w12 ⟨l15, y18, v16, F17, ha, hB13, hS14, hF⟩ KL20 hKL20
  refine W.at ?_ ha
  cases m21 with
  | zero => exact noneE hF
  | succ m21 =>
   obtain ⟨nx19, hnx19⟩ : ∃ k, k = F_laws_toCueS_L1 x0 m21 := ⟨_, rfl⟩
   rw [F_laws_toCueS_L1, ← hnx19] at hF
   refine W.seq fun K22 hK22 => W.seq fun K23 hK23 => W.region (wl_move rfl rfl (wl_move rfl rfl (wl_lenr (e := ty_57) (l := x0) Tryd.underlying23 rfl rfl h0_0 (wl_lss rfl rfl rfl (WL.nil (fun a ha => hK23 _ _ (W.cond rfl (fun h24 => ?_) (fun h24 => ?_)) a ha))))))
   ·replace hF := ifP h24 hF
    refine W.skip fun a ha => hK22 _ _ (W.seq fun K25 hK25 => (W.block (W.region (wl_move rfl rfl (wl_move rfl rfl (wl_move rfl rfl (wl_move rfl rfl ?_))))))) a ha
    obtain ⟨u26, hu26, hF⟩ := bindE hF
    refine wl_index (e := ty_57) Tryd.underlying23 rfl rfl rfl h0_0 hu26 ?_
    rintro p27 _ rfl hp28
    refine wl_load_p (vs := [(.int .i64 u26.1), (.string (mkS u26.2))]) (v := (.agg #[(.int .i64 u26.1), (.string (mkS u26.2))])) tf_57 rfl rfl (hp28.ro hB13) rfl rfl ?_
    obtain ⟨u29, hu29, hF⟩ := bindE hF
    refine wl_call rfl Tryd.call38 (C_laws_toCue w12 u26 _ hu29) rfl ?_
    rintro _ w30 ⟨rfl, hb31⟩
    refine ⟨_, rfl, ?_⟩
    have hB32 := hB13.trans (hb31.mono hB13.size)
    have hS33 := hS14.below hb31
    obtain ⟨u35, hu35, hF⟩ := bindE hF
    refine wl_indexo (e := ty_39) (i := 0) Tryd.underlying30 rfl rfl rfl hS33 rfl hu35 ?_
    rintro p36 _ rfl hp37 ho38
    refine wl_storeo (i := 0) (o := 0) (vs := [(.int .i64 u29.1), (.string (mkS u29.2))]) (u' := u29) fl_39 tf_39 rfl rfl rfl rfl ho38 hu35 hB32 hS33 rfl rfl ⟨rfl, rfl, trivial⟩ rfl ?_
    intro w39 hk42 hB40 hS41
    refine WL.nil fun a ha => hK25 _ _ (W.region (wl_move rfl rfl (wl_add rfl rfl rfl (wl_assign rfl rfl (WL.nil ?_))))) a ha
    rw [hnx19] at hF
    exact fun a ha => hKL20 a _ m21 (Nat.lt_succ_self m21) ⟨(seti l15 y18 u29), (w64 (y18 + 1)), v16, F17, ha.sub ⟨rfl, rfl, rfl, trivial⟩, hB40, (hS41.sel [0] rfl), hF⟩
   ·replace hF := ifN h24 hF
    refine W.exit fun a ha => hK10 _ _ (W.seq fun K43 hK43 => (W.region (wl_move rfl rfl (wl_assign rfl rfl (WL.nil (fun a ha => hK43 _ _ (W.ret ?_) a ha)))))) a ha
    have hr := Option.some.inj hF
    subst hr
    exact rets (vs := [v16]) hQ rfl ⟨rv_tmp rfl, trivial⟩ ⟨v16, F17, rfl, hB13, hS14.sel [0] rfl⟩
theorem C_spec_l1In (w0 : World) (x0 : Int) (x1 : Int) (x2 : Int) (r : Bool) (hF : F_spec_l1In x0 x1 x2 = some r) :
  Calls Tryd.prog 68 [(.int .i64 x0), (.int .i64 x1), (.int .i64 x2)].toArray w0 fun e w' => e = .returned (.bool r) ∧ Below w0.heap.size w0 w' := by
 refine calls_mk' Tryd.func68 rfl Tryd.ntmps68 rfl rfl fun Q hQ hP => ?_
 have hB : Below w0.heap.size w0 w0 := Below.refl _ _
 have hS : Sep w0.heap.size w0 [] := Sep.nil _ _
 unfold F_spec_l1In at hF
 refine W.seq fun K1 hK1 => W.region (wl_assign rfl rfl (WL.nil (fun a ha => hK1 _ _ (W.seq fun K2 hK2 => ?_) a ha)))
 obtain ⟨k7, hk7, hF⟩ := jE1 hF
 have hJ8 : ∀ (y6 : Bool) (w3 : World) (_ : k7 y6 = some r) (_ : Below w0.heap.size w0 w3) (_ : Sep w0.heap.size w3 []), ∀ a, St 15 [(6, (.bool y6))] a → K2 a w3 := by
  intro y6 w3 hF hB4 hS5
  subst hk7
  refine fun a ha => hK2 _ _ (W.ret ?_) a ha
  have hr := Option.some.inj hF
  subst hr
  exact rets (vs := [(.bool y6)]) hQ rfl ⟨rv_tmp rfl, trivial⟩ ⟨rfl, hB4⟩
 refine W.region (wl_move rfl rfl (wl_move rfl rfl (wl_geq rfl rfl rfl (wl_move rfl rfl ?_))))
 rcases bE (decide (x1 ≤ x0)) with h9 | h9
 ·replace hF := ifP h9 hF
  refine wl_on rfl rfl h9 (wl_move rfl rfl (wl_on rfl rfl h9 (wl_move rfl rfl (wl_on rfl rfl h9 (wl_leq rfl rfl rfl (wl_pick_t rfl rfl h9 rfl (wl_assign rfl rfl (WL.nil ?_))))))))
  exact fun a ha => hJ8 ((decide (x0 ≤ x2))) _ hF hB (hS.sel [] rfl) a (ha.sub ⟨rfl, trivial⟩)
 ·replace hF := ifN h9 hF
  refine wl_off rfl rfl rfl h9 (wl_off rfl rfl rfl h9 (wl_off rfl rfl rfl h9 (wl_pick_f rfl rfl h9 rfl (wl_assign rfl rfl (WL.nil ?_)))))
  exact fun a ha => hJ8 (false) _ hF hB (hS.sel [] rfl) a (ha.sub ⟨rfl, trivial⟩)
theorem C_spec_muMeasure (w0 : World) (x0 : (Int × Int)) (r : Bool) (hF : F_spec_muMeasure x0 = some r) :
  Calls Tryd.prog 79 [(.agg #[(.int .i64 x0.1), (.int .i64 x0.2)])].toArray w0 fun e w' => e = .returned (.bool r) ∧ Below w0.heap.size w0 w' := by
 refine calls_mk' Tryd.func79 rfl Tryd.ntmps79 rfl rfl fun Q hQ hP => ?_
 have hB : Below w0.heap.size w0 w0 := Below.refl _ _
 have hS : Sep w0.heap.size w0 [] := Sep.nil _ _
 unfold F_spec_muMeasure at hF
 refine W.seq fun K1 hK1 => W.region (wl_box (cs := [(.int .i64 x0.1), (.int .i64 x0.2)]) rfl rfl rfl hB hS ?_)
 intro b2 w3 hb4 hB5 hS6
 refine wl_assign rfl rfl (WL.nil (fun a ha => hK1 _ _ (W.seq fun K7 hK7 => ?_) a ha))
 obtain ⟨k12, hk12, hF⟩ := jE1 hF
 have hJ13 : ∀ (y11 : Bool) (w8 : World) (_ : k12 y11 = some r) (_ : Below w0.heap.size w0 w8) (_ : Sep w0.heap.size w8 []), ∀ a, St 11 [(2, (.bool y11))] a → K7 a w8 := by
  intro y11 w8 hF hB9 hS10
  subst hk12
  refine fun a ha => hK7 _ _ (W.ret ?_) a ha
  have hr := Option.some.inj hF
  subst hr
  exact rets (vs := [(.bool y11)]) hQ rfl ⟨rv_tmp rfl, trivial⟩ ⟨rfl, hB9⟩
 refine W.region (wl_field (o := 0) (off' := 0) ff_63_0 rfl rfl rfl (wl_load_blk (i := 0) (vs := [(.int .i64 x0.1)]) (v := (.int .i64 x0.1)) tf_3 rfl rfl hS6 rfl rfl rfl ?_))
 obtain ⟨u14, hu14, hF⟩ := bindE hF
 refine wl_call rfl Tryd.call68 (C_spec_l1In w3 x0.1 1 12 _ hu14) rfl ?_
 rintro _ w15 ⟨rfl, hb16⟩
 refine ⟨_, rfl, ?_⟩
 have hB17 := hB5.trans (hb16.mono hB5.size)
 have hS18 := hS6.below hb16
 refine wl_move rfl rfl ?_
 rcases bE u14 with h20 | h20
 ·replace hF := ifP h20 hF
  refine wl_on rfl rfl h20 (wl_field (o := 1) (off' := 1) ff_63_1 rfl rfl rfl (wl_on rfl rfl h20 (wl_load_blk (i := 0) (vs := [(.int .i64 x0.2)]) (v := (.int .i64 x0.2)) tf_3 rfl rfl hS18 rfl rfl rfl (wl_on rfl rfl h20 ?_))))
  obtain ⟨u21, hu21, hF⟩ := bindE hF
  refine wl_call rfl Tryd.call68 (C_spec_l1In w15 x0.2 40 220 _ hu21) rfl ?_
  rintro _ w22 ⟨rfl, hb23⟩
  refine ⟨_, rfl, ?_⟩
  have hB24 := hB17.trans (hb23.mono hB17.size)
  have hS25 := hS18.below hb23
  refine wl_pick_t rfl rfl h20 rfl (wl_assign rfl rfl (WL.nil ?_))
  exact fun a ha => hJ13 (u21) _ hF hB24 (hS25.sel [] rfl) a (ha.sub ⟨rfl, trivial⟩)
 ·replace hF := ifN h20 hF
  refine wl_off rfl rfl rfl h20 (wl_off rfl rfl rfl h20 (wl_off rfl rfl rfl h20 (wl_pick_f rfl rfl h20 rfl (wl_assign rfl rfl (WL.nil ?_)))))
  exact fun a ha => hJ13 (false) _ hF hB17 (hS18.sel [] rfl) a (ha.sub ⟨rfl, trivial⟩)
theorem C_spec_muGood (w0 : World) (x0 : (List (Int × Int))) (v0_0 : Value) (h0_0 : rdS ty_63 (· < w0.heap.size) w0 v0_0 x0) (r : Bool) (hF : F_spec_muGood x0 = some r) :
  Calls Tryd.prog 63 [v0_0].toArray w0 fun e w' => e = .returned (.bool r) ∧ Below w0.heap.size w0 w' := by
 refine calls_mk' Tryd.func63 rfl Tryd.ntmps63 rfl rfl fun Q hQ hP => ?_
 have hB : Below w0.heap.size w0 w0 := Below.refl _ _
 have hS : Sep w0.heap.size w0 [] := Sep.nil _ _
 unfold F_spec_muGood at hF
 refine W.seq fun K1 hK1 => W.region (wl_assign rfl rfl (WL.nil (fun a ha => hK1 _ _ (W.seq fun K2 hK2 => (W.seq fun K3 hK3 => (W.region (wl_move rfl rfl (wl_lenr (e := ty_63) (l := x0) Tryd.underlying28 rfl rfl h0_0 (wl_move rfl rfl (WL.nil (fun a ha => hK3 _ _ (W.block ?_) a ha)))))))) a ha)))
 refine W.loopk (fun m a w4 => ∃ (y7 : Int), St 18 [(0, v0_0), (5, v0_0), (6, (.int .i64 (List.length x0 : Int))), (7, (.int .i64 y7))] a ∧ Below w0.heap.size w0 w4 ∧ Sep w0.heap.size w4 [] ∧ F_spec_muGood_L1 x0 m y7 = some r) FU ?_ ?_
 ·
  exact fun a ha => ⟨0, ha.sub ⟨rfl, rfl, rfl, rfl, trivial⟩, hB, (hS.sel [] rfl), hF⟩
 ·
  rintro m10 a w4 ⟨y7, ha, hB5, hS6, hF⟩ KL9 hKL9
  refine W.at ?_ ha
  cases m10 with
  | zero => exact noneE hF
  | succ m10 =>
   obtain ⟨nx8, hnx8⟩ : ∃ k, k = F_spec_muGood_L1 x0 m10 := ⟨_, rfl⟩
   rw [F_spec_muGood_L1, ← hnx8] at hF
   refine W.seq fun K11 hK11 => W.region (wl_lss rfl rfl rfl (WL.nil (fun a ha => hK11 _ _ (W.seq fun K12 hK12 => (W.cond rfl (fun h13 => ?_) (fun h13 => ?_))) a ha)))
   ·replace hF := ifP h13 hF
    refine W.skip fun a ha => hK12 _ _ (W.seq fun K14 hK14 => (W.block (W.seq fun K15 hK15 => (W.region ?_)))) a ha
    obtain ⟨u16, hu16, hF⟩ := bindE hF
    refine wl_index (e := ty_63) Tryd.underlying28 rfl rfl rfl h0_0 hu16 ?_
    rintro p17 _ rfl hp18
    refine wl_load_p (vs := [(.int .i64 u16.1), (.int .i64 u16.2)]) (v := (.agg #[(.int .i64 u16.1), (.int .i64 u16.2)])) tf_63 rfl rfl (hp18.ro hB5) rfl rfl (wl_alloc (cs := [(.int .i64 0), (.int .i64 0)]) tf_63 rfl rfl hB5 hS6 ?_)
    intro b19 w20 hb21 hB22 hS23
    refine wl_store_blk (i := 0) (vs := [(.int .i64 u16.1), (.int .i64 u16.2)]) (cs' := [(.int .i64 u16.1), (.int .i64 u16.2)]) tf_63 rfl rfl rfl rfl hB22 hS23 rfl rfl ⟨rfl, rfl, trivial⟩ rfl ?_
    intro w24 hk27 hB25 hS26
    refine WL.nil fun a ha => hK15 _ _ (W.seq fun K28 hK28 => (W.region (wl_load_blk (i := 0) (vs := [(.int .i64 u16.1), (.int .i64 u16.2)]) (v := (.agg #[(.int .i64 u16.1), (.int .i64 u16.2)])) tf_63 rfl rfl hS26 rfl rfl rfl ?_))) a ha
    obtain ⟨u29, hu29, hF⟩ := bindE hF
    refine wl_call rfl Tryd.call79 (C_spec_muMeasure w24 u16 _ hu29) rfl ?_
    rintro _ w30 ⟨rfl, hb31⟩
    refine ⟨_, rfl, ?_⟩
    have hB32 := hB25.trans (hb31.mono hB25.size)
    have hS33 := hS26.below hb31
    refine wl_not rfl rfl (WL.nil (fun a ha => hK28 _ _ (W.cond rfl (fun h35 => ?_) (fun h35 => ?_)) a ha))
    ·replace hF := ifP h35 hF
     refine W.seq fun K36 hK36 => W.region (wl_assign rfl rfl (WL.nil (fun a ha => hK36 _ _ (W.ret ?_) a ha)))
     have hr := Option.some.inj hF
     subst hr
     exact rets (vs := [(.bool false)]) hQ rfl ⟨rv_tmp rfl, trivial⟩ ⟨rfl, hB32⟩
    ·replace hF := ifN h35 hF
     refine W.skip fun a ha => hK14 _ _ (W.region (wl_add rfl rfl rfl (wl_move rfl rfl (WL.nil ?_)))) a ha
     rw [hnx8] at hF
     exact fun a ha => hKL9 a _ m10 (Nat.lt_succ_self m10) ⟨(w64 (y7 + 1)), ha.sub ⟨rfl, rfl, rfl, rfl, trivial⟩, hB32, (hS33.sel [] rfl), hF⟩
   ·replace hF := ifN h13 hF
    refine W.exit fun a ha => hK2 _ _ (W.seq fun K37 hK37 => (W.region (wl_move rfl rfl (wl_lenr (e := ty_63) (l := x0) Tryd.underlying28 rfl rfl h0_0 ?_)))) a ha
    obtain ⟨u38, hu38, hF⟩ := bindE hF
    refine wl_call rfl Tryd.call68 (C_spec_l1In w4 (List.length x0 : Int) 1 40 _ hu38) rfl ?_
    rintro _ w39 ⟨rfl, hb40⟩
    refine ⟨_, rfl, ?_⟩
    have hB41 := hB5.trans (hb40.mono hB5.size)
    refine wl_assign rfl rfl (WL.nil (fun a ha => hK37 _ _ (W.ret ?_) a ha))
    have hr := Option.some.inj hF
    subst hr
    exact rets (vs := [(.bool u38)]) hQ rfl ⟨rv_tmp rfl, trivial⟩ ⟨rfl, hB41⟩
theorem C_spec_muCounts (w0 : World) (x0 : (List (Int × Int))) (v0_0 : Value) (h0_0 : rdS ty_63 (· < w0.heap.size) w0 v0_0 x0) (r : Int) (hF : F_spec_muCounts x0 = some r) :
  Calls Tryd.prog 58 [v0_0].toArray w0 fun e w' => e = .returned (.int .i64 r) ∧ Below w0.heap.size w0 w' := by
 refine calls_mk' Tryd.func58 rfl Tryd.ntmps58 rfl rfl fun Q hQ hP => ?_
 have hB : Below w0.heap.size w0 w0 := Below.refl _ _
 have hS : Sep w0.heap.size w0 [] := Sep.nil _ _
 unfold F_spec_muCounts at hF
 refine W.seq fun K1 hK1 => W.region (wl_assign rfl rfl (WL.nil (fun a ha => hK1 _ _ (W.seq fun K2 hK2 => (W.region (wl_assign rfl rfl (WL.nil (fun a ha => hK2 _ _ (W.seq fun K3 hK3 => (W.seq fun K4 hK4 => (W.region (wl_move rfl rfl ?_)))) a ha))))) a ha)))
 refine wl_lenr (e := ty_63) (l := x0) Tryd.underlying28 rfl rfl h0_0 (wl_move rfl rfl (WL.nil (fun a ha => hK4 _ _ (W.block (W.loopk (fun m a w5 => ∃ (y8 : Int) (y9 : Int), St 18 [(3, (.int .i64 y8)), (6, v0_0), (7, (.int .i64 (List.length x0 : Int))), (8, (.int .i64 y9))] a ∧ Below w0.heap.size w0 w5 ∧ Sep w0.heap.size w5 [] ∧ F_spec_muCounts_L1 x0 m y8 y9 = some r) FU ?_ ?_)) a ha)))
 ·
  exact fun a ha => ⟨0, 0, ha.sub ⟨rfl, rfl, rfl, rfl, trivial⟩, hB, (hS.sel [] rfl), hF⟩
 ·
  rintro m12 a w5 ⟨y8, y9, ha, hB6, hS7, hF⟩ KL11 hKL11
  refine W.at ?_ ha
  cases m12 with
  | zero => exact noneE hF
  | succ m12 =>
   obtain ⟨nx10, hnx10⟩ : ∃ k, k = F_spec_muCounts_L1 x0 m12 := ⟨_, rfl⟩
   rw [F_spec_muCounts_L1, ← hnx10] at hF
   refine W.seq fun K13 hK13 => W.region (wl_lss rfl rfl rfl (WL.nil (fun a ha => hK13 _ _ (W.seq fun K14 hK14 => (W.cond rfl (fun h15 => ?_) (fun h15 => ?_))) a ha)))
   ·replace hF := ifP h15 hF
    refine W.skip fun a ha => hK14 _ _ (W.seq fun K16 hK16 => (W.block (W.seq fun K17 hK17 => (W.region ?_)))) a ha
    obtain ⟨u18, hu18, hF⟩ := bindE hF
    refine wl_index (e := ty_63) Tryd.underlying28 rfl rfl rfl h0_0 hu18 ?_
    rintro p19 _ rfl hp20
    refine wl_load_p (vs := [(.int .i64 u18.1), (.int .i64 u18.2)]) (v := (.agg #[(.int .i64 u18.1), (.int .i64 u18.2)])) tf_63 rfl rfl (hp20.ro hB6) rfl rfl (wl_alloc (cs := [(.int .i64 0), (.int .i64 0)]) tf_63 rfl rfl hB6 hS7 ?_)
    intro b21 w22 hb23 hB24 hS25
    refine wl_store_blk (i := 0) (vs := [(.int .i64 u18.1), (.int .i64 u18.2)]) (cs' := [(.int .i64 u18.1), (.int .i64 u18.2)]) tf_63 rfl rfl rfl rfl hB24 hS25 rfl rfl ⟨rfl, rfl, trivial⟩ rfl ?_
    intro w26 hk29 hB27 hS28
    refine WL.nil fun a ha => hK17 _ _ (W.region (wl_move rfl rfl (wl_field (o := 0) (off' := 0) ff_63_0 rfl rfl rfl (wl_load_blk (i := 0) (vs := [(.int .i64 u18.1)]) (v := (.int .i64 u18.1)) tf_3 rfl rfl hS28 rfl rfl rfl (wl_add rfl rfl rfl (wl_assign rfl rfl (WL.nil (fun a ha => hK16 _ _ (W.region (wl_add rfl rfl rfl (wl_move rfl rfl (WL.nil ?_)))) a ha)))))))) a ha
    rw [hnx10] at hF
    exact fun a ha => hKL11 a _ m12 (Nat.lt_succ_self m12) ⟨(w64 (y8 + u18.1)), (w64 (y9 + 1)), ha.sub ⟨rfl, rfl, rfl, rfl, trivial⟩, hB27, (hS28.sel [] rfl), hF⟩
   ·replace hF := ifN h15 hF
    refine W.exit fun a ha => hK3 _ _ (W.seq fun K30 hK30 => (W.region (wl_move rfl rfl (wl_assign rfl rfl (WL.nil (fun a ha => hK30 _ _ (W.ret ?_) a ha)))))) a ha
    have hr := Option.some.inj hF
    subst hr
    exact rets (vs := [(.int .i64 y8)]) hQ rfl ⟨rv_tmp rfl, trivial⟩ ⟨rfl, hB6⟩
theorem C_spec_tiName (w0 : World) (x0 : (List UInt8)) (r : Bool) (hF : F_spec_tiName x0 = some r) :
  Calls Tryd.prog 80 [(.string (mkS x0))].toArray w0 fun e w' => e = .returned (.bool r) ∧ Below w0.heap.size w0 w' := by
 refine calls_mk' Tryd.func80 rfl Tryd.ntmps80 rfl rfl fun Q hQ hP => ?_
 have hB : Below w0.heap.size w0 w0 := Below.refl _ _
 have hS : Sep w0.heap.size w0 [] := Sep.nil _ _
 unfold F_spec_tiName at hF
 refine W.seq fun K1 hK1 => W.region (wl_assign rfl rfl (WL.nil (fun a ha => hK1 _ _ (W.seq fun K2 hK2 => (W.seq fun K3 hK3 => (W.region (wl_assign rfl rfl (WL.nil (fun a ha => hK3 _ _ (W.block (W.loopk (fun m a w4 => ∃ (y7 : Int), St 23 [(0, (.string (mkS x0))), (3, (.int .i64 y7))] a ∧ Below w0.heap.size w0 w4 ∧ Sep w0.heap.size w4 [] ∧ F_spec_tiName_L1 x0 m y7 = some r) FU ?_ ?_)) a ha)))))) a ha)))
 ·
  exact fun a ha => ⟨0, ha.sub ⟨rfl, rfl, trivial⟩, hB, (hS.sel [] rfl), hF⟩
 ·
  rintro m10 a w4 ⟨y7, ha, hB5, hS6, hF⟩ KL9 hKL9
  refine W.at ?_ ha
  cases m10 with
  | zero => exact noneE hF
  | succ m10 =>
   obtain ⟨nx8, hnx8⟩ : ∃ k, k = F_spec_tiName_L1 x0 m10 := ⟨_, rfl⟩
   rw [F_spec_tiName_L1, ← hnx8] at hF
   refine W.seq fun K11 hK11 => W.seq fun K12 hK12 => W.region (wl_move rfl rfl (wl_move rfl rfl (wl_strlen Tryd.underlying9 rfl rfl (wl_lss rfl rfl rfl (WL.nil (fun a ha => hK12 _ _ (W.cond rfl (fun h13 => ?_) (fun h13 => ?_)) a ha))))))
   ·replace hF := ifP h13 hF
    refine W.skip fun a ha => hK11 _ _ (W.seq fun K14 hK14 => (W.block (W.seq fun K15 hK15 => ?_))) a ha
    obtain ⟨k20, hk20, hF⟩ := jE1 hF
    have hJ21 : ∀ (y19 : Bool) (w16 : World) (_ : k20 y19 = some r) (_ : Below w0.heap.size w0 w16) (_ : Sep w0.heap.size w16 []), ∀ a, St 23 [(0, (.string (mkS x0))), (3, (.int .i64 y7)), (19, (.bool y19))] a → K15 a w16 := by
     intro y19 w16 hF hB17 hS18
     subst hk20
     refine fun a ha => hK15 _ _ (W.cond rfl (fun h22 => ?_) (fun h22 => ?_)) a ha
     ·replace hF := ifP h22 hF
      refine W.seq fun K23 hK23 => W.region (wl_assign rfl rfl (WL.nil (fun a ha => hK23 _ _ (W.ret ?_) a ha)))
      have hr := Option.some.inj hF
      subst hr
      exact rets (vs := [(.bool false)]) hQ rfl ⟨rv_tmp rfl, trivial⟩ ⟨rfl, hB17⟩
     ·replace hF := ifN h22 hF
      refine W.skip fun a ha => hK14 _ _ (W.region (wl_move rfl rfl (wl_add rfl rfl rfl (wl_assign rfl rfl (WL.nil ?_))))) a ha
      rw [hnx8] at hF
      exact fun a ha => hKL9 a _ m10 (Nat.lt_succ_self m10) ⟨(w64 (y7 + 1)), ha.sub ⟨rfl, rfl, trivial⟩, hB17, (hS18.sel [] rfl), hF⟩
    refine W.region (wl_move rfl rfl (wl_move rfl rfl ?_))
    obtain ⟨u24, hu24, hF⟩ := bindE hF
    refine wl_strindex Tryd.underlying9 rfl rfl rfl hu24 (wl_lss rfl rfl rfl (wl_move rfl rfl ?_))
    rcases bE (decide ((UInt8.toNat u24 : Int) < 97)) with h25 | h25
    ·replace hF := ifP h25 hF
     refine wl_off rfl rfl rfl h25 (wl_off rfl rfl rfl h25 (wl_off rfl rfl rfl h25 (wl_off rfl rfl rfl h25 (wl_pick_t rfl rfl h25 rfl (WL.nil ?_)))))
     exact fun a ha => hJ21 (true) _ hF hB5 (hS6.sel [] rfl) a (ha.sub ⟨rfl, rfl, rfl, trivial⟩)
    ·replace hF := ifN h25 hF
     refine wl_on rfl rfl h25 (wl_move rfl rfl (wl_on rfl rfl h25 (wl_move rfl rfl (wl_on rfl rfl h25 ?_))))
     obtain ⟨u26, hu26, hF⟩ := bindE hF
     refine wl_strindex Tryd.underlying9 rfl rfl rfl hu26 (wl_on rfl rfl h25 (wl_gtr rfl rfl rfl (wl_pick_f rfl rfl h25 rfl (WL.nil ?_))))
     exact fun a ha => hJ21 ((decide (122 < (UInt8.toNat u26 : Int)))) _ hF hB5 (hS6.sel [] rfl) a (ha.sub ⟨rfl, rfl, rfl, trivial⟩)
   ·replace hF := ifN h13 hF
    refine W.exit fun a ha => hK2 _ _ (W.seq fun K27 hK27 => (W.region (wl_move rfl rfl (wl_strlen Tryd.underlying9 rfl rfl ?_)))) a ha
    obtain ⟨u28, hu28, hF⟩ := bindE hF
    refine wl_call rfl Tryd.call68 (C_spec_l1In w4 (List.length x0 : Int) 1 8 _ hu28) rfl ?_
    rintro _ w29 ⟨rfl, hb30⟩
    refine ⟨_, rfl, ?_⟩
    have hB31 := hB5.trans (hb30.mono hB5.size)
    refine wl_assign rfl rfl (WL.nil (fun a ha => hK27 _ _ (W.ret ?_) a ha))
    have hr := Option.some.inj hF
    subst hr
    exact rets (vs := [(.bool u28)]) hQ rfl ⟨rv_tmp rfl, trivial⟩ ⟨rfl, hB31⟩
theorem C_spec_tiCues (w0 : World) (x0 : (List (Int × Int))) (v0_0 : Value) (h0_0 : rdS ty_63 (· < w0.heap.size) w0 v0_0 x0) (x1 : (List (Int × (List UInt8)))) (v1_0 : Value) (h1_0 : rdS ty_39 (· < w0.heap.size) w0 v1_0 x1) (r : Bool) (hF : F_spec_tiCues x0 x1 = some r) :
  Calls Tryd.prog 64 [v0_0, v1_0].toArray w0 fun e w' => e = .returned (.bool r) ∧ Below w0.heap.size w0 w' := by
 refine calls_mk' Tryd.func64 rfl Tryd.ntmps64 rfl rfl fun Q hQ hP => ?_
 have hB : Below w0.heap.size w0 w0 := Below.refl _ _
 have hS : Sep w0.heap.size w0 [] := Sep.nil _ _
 unfold F_spec_tiCues at hF
 refine W.seq fun K1 hK1 => W.region (wl_assign rfl rfl (WL.nil (fun a ha => hK1 _ _ (W.seq fun K2 hK2 => (W.seq fun K3 hK3 => (W.region (wl_move rfl rfl (wl_lenr (e := ty_39) (l := x1) Tryd.underlying30 rfl rfl h1_0 (wl_move rfl rfl (WL.nil (fun a ha => hK3 _ _ (W.block ?_) a ha)))))))) a ha)))
 refine W.loopk (fun m a w4 => ∃ (y7 : Int), St 62 [(0, v0_0), (1, v1_0), (9, v1_0), (10, (.int .i64 (List.length x1 : Int))), (11, (.int .i64 y7))] a ∧ Below w0.heap.size w0 w4 ∧ Sep w0.heap.size w4 [] ∧ F_spec_tiCues_L1 x1 x0 m y7 = some r) FU ?_ ?_
 ·
  exact fun a ha => ⟨0, ha.sub ⟨rfl, rfl, rfl, rfl, rfl, trivial⟩, hB, (hS.sel [] rfl), hF⟩
 ·
  rintro m10 a w4 ⟨y7, ha, hB5, hS6, hF⟩ KL9 hKL9
  refine W.at ?_ ha
  cases m10 with
  | zero => exact noneE hF
  | succ m10 =>
   obtain ⟨nx8, hnx8⟩ : ∃ k, k = F_spec_tiCues_L1 x1 x0 m10 := ⟨_, rfl⟩
   rw [F_spec_tiCues_L1, ← hnx8] at hF
   refine W.seq fun K11 hK11 => W.region (wl_lss rfl rfl rfl (WL.nil (fun a ha => hK11 _ _ (W.seq fun K12 hK12 => (W.cond rfl (fun h13 => ?_) (fun h13 => ?_))) a ha)))
   ·replace hF := ifP h13 hF
    refine W.skip fun a ha => hK12 _ _ (W.seq fun K14 hK14 => (W.block (W.seq fun K15 hK15 => (W.region (wl_move rfl rfl ?_))))) a ha
    obtain ⟨u16, hu16, hF⟩ := bindE hF
    refine wl_index (e := ty_39) Tryd.underlying30 rfl rfl rfl h1_0 hu16 ?_
    rintro p17 _ rfl hp18
    refine wl_load_p (vs := [(.int .i64 u16.1), (.string (mkS u16.2))]) (v := (.agg #[(.int .i64 u16.1), (.string (mkS u16.2))])) tf_39 rfl rfl (hp18.ro hB5) rfl rfl (wl_alloc (cs := [(.int .i64 0), (.string (mkS []))]) tf_39 rfl rfl hB5 hS6 ?_)
    intro b19 w20 hb21 hB22 hS23
    refine wl_assign rfl rfl (wl_store_blk (i := 0) (vs := [(.int .i64 u16.1), (.string (mkS u16.2))]) (cs' := [(.int .i64 u16.1), (.string (mkS u16.2))]) tf_39 rfl rfl rfl rfl hB22 hS23 rfl rfl ⟨rfl, rfl, trivial⟩ rfl ?_)
    intro w24 hk27 hB25 hS26
    refine WL.nil fun a ha => hK15 _ _ (W.seq fun K28 hK28 => (W.seq fun K29 hK29 => ?_)) a ha
    obtain ⟨k34, hk34, hF⟩ := jE1 hF
    have hJ35 : ∀ (y33 : Bool) (w30 : World) (_ : k34 y33 = some r) (_ : Below w0.heap.size w0 w30) (_ : Sep w0.heap.size w30 [R.blk b19 39 [(.int .i64 u16.1), (.string (mkS u16.2))]]), ∀ a, St 62 [(0, v0_0), (1, v1_0), (5, (.int .i64 y7)), (6, (.pointer (some ⟨b19, 0, none⟩))), (9, v1_0), (10, (.int .i64 (List.length x1 : Int))), (11, (.int .i64 y7)), (43, (.bool y33))] a → K29 a w30 := by
     intro y33 w30 hF hB31 hS32
     subst hk34
     refine fun a ha => hK29 _ _ (W.cond rfl (fun h36 => ?_) (fun h36 => ?_)) a ha
     ·replace hF := ifP h36 hF
      refine W.seq fun K37 hK37 => W.region (wl_assign rfl rfl (WL.nil (fun a ha => hK37 _ _ (W.ret ?_) a ha)))
      have hr := Option.some.inj hF
      subst hr
      exact rets (vs := [(.bool false)]) hQ rfl ⟨rv_tmp rfl, trivial⟩ ⟨rfl, hB31⟩
     ·replace hF := ifN h36 hF
      refine W.skip fun a ha => hK28 _ _ (W.seq fun K38 hK38 => (W.region (wl_move rfl rfl (wl_move rfl rfl ?_)))) a ha
      obtain ⟨u39, hu39, hF⟩ := bindE hF
      refine wl_slice (e := ty_39) Tryd.underlying30 rfl rfl h1_0 hu39 (.inl ⟨rfl, rfl⟩) (.inr ⟨_, _, rfl, rfl⟩) ?_
      intro v40 hv41
      refine wl_lenr (e := ty_39) (l := u39) Tryd.underlying30 rfl rfl hv41 (wl_move rfl rfl (WL.nil (fun a ha => hK38 _ _ (W.block (W.loopk (fun m a w42 => ∃ (y45 : Int), St 62 [(0, v0_0), (1, v1_0), (6, (.pointer (some ⟨b19, 0, none⟩))), (9, v1_0), (10, (.int .i64 (List.length x1 : Int))), (11, (.int .i64 y7)), (46, v40), (47, (.int .i64 (List.length u39 : Int))), (48, (.int .i64 y45))] a ∧ Below w0.heap.size w0 w42 ∧ Sep w0.heap.size w42 [R.blk b19 39 [(.int .i64 u16.1), (.string (mkS u16.2))]] ∧ F_spec_tiCues_L2 u39 u16 nx8 y7 m y45 = some r) FU ?_ ?_)) a ha)))
      ·
       exact fun a ha => ⟨0, ha.sub ⟨rfl, rfl, rfl, rfl, rfl, rfl, rfl, rfl, rfl, trivial⟩, hB31, (hS32.sel [0] rfl), hF⟩
      ·
       rintro m48 a w42 ⟨y45, ha, hB43, hS44, hF⟩ KL47 hKL47
       refine W.at ?_ ha
       cases m48 with
       | zero => exact noneE hF
       | succ m48 =>
        obtain ⟨nx46, hnx46⟩ : ∃ k, k = F_spec_tiCues_L2 u39 u16 nx8 y7 m48 := ⟨_, rfl⟩
        rw [F_spec_tiCues_L2, ← hnx46] at hF
        refine W.seq fun K49 hK49 => W.region (wl_lss rfl rfl rfl (WL.nil (fun a ha => hK49 _ _ (W.seq fun K50 hK50 => (W.cond rfl (fun h51 => ?_) (fun h51 => ?_))) a ha)))
        ·replace hF := ifP h51 hF
         refine W.skip fun a ha => hK50 _ _ (W.seq fun K52 hK52 => (W.block (W.seq fun K53 hK53 => (W.region ?_)))) a ha
         obtain ⟨u54, hu54, hF⟩ := bindE hF
         refine wl_index (e := ty_39) Tryd.underlying30 rfl rfl rfl hv41 hu54 ?_
         rintro p55 _ rfl hp56
         refine wl_load_p (vs := [(.int .i64 u54.1), (.string (mkS u54.2))]) (v := (.agg #[(.int .i64 u54.1), (.string (mkS u54.2))])) tf_39 rfl rfl (hp56.ro hB43) rfl rfl (wl_alloc (cs := [(.int .i64 0), (.string (mkS []))]) tf_39 rfl rfl hB43 hS44 ?_)
         intro b57 w58 hb59 hB60 hS61
         refine wl_store_blk (i := 0) (vs := [(.int .i64 u54.1), (.string (mkS u54.2))]) (cs' := [(.int .i64 u54.1), (.string (mkS u54.2))]) tf_39 rfl rfl rfl rfl hB60 hS61 rfl rfl ⟨rfl, rfl, trivial⟩ rfl ?_
         intro w62 hk65 hB63 hS64
         refine WL.nil fun a ha => hK53 _ _ (W.seq fun K66 hK66 => (W.region (wl_field (o := 1) (off' := 1) ff_39_1 rfl rfl rfl (wl_load_blk (i := 0) (vs := [(.string (mkS u54.2))]) (v := (.string (mkS u54.2))) tf_9 rfl rfl hS64 rfl rfl rfl (wl_field (o := 1) (off' := 1) ff_39_1 rfl rfl rfl (wl_load_blk (i := 1) (vs := [(.string (mkS u16.2))]) (v := (.string (mkS u16.2))) tf_9 rfl rfl hS64 rfl rfl rfl (wl_streql rfl rfl rfl (WL.nil (fun a ha => hK66 _ _ (W.cond rfl (fun h67 => ?_) (fun h67 => ?_)) a ha))))))))) a ha
         ·replace hF := ifP h67 hF
          refine W.seq fun K68 hK68 => W.region (wl_assign rfl rfl (WL.nil (fun a ha => hK68 _ _ (W.ret ?_) a ha)))
          have hr := Option.some.inj hF
          subst hr
          exact rets (vs := [(.bool false)]) hQ rfl ⟨rv_tmp rfl, trivial⟩ ⟨rfl, hB63⟩
         ·replace hF := ifN h67 hF
          refine W.skip fun a ha => hK52 _ _ (W.region (wl_add rfl rfl rfl (wl_move rfl rfl (WL.nil ?_)))) a ha
          rw [hnx46] at hF
          exact fun a ha => hKL47 a _ m48 (Nat.lt_succ_self m48) ⟨(w64 (y45 + 1)), ha.sub ⟨rfl, rfl, rfl, rfl, rfl, rfl, rfl, rfl, rfl, trivial⟩, hB63, (hS64.sel [1] rfl), hF⟩
        ·replace hF := ifN h51 hF
         refine W.exit fun a ha => hK14 _ _ (W.region (wl_add rfl rfl rfl (wl_move rfl rfl (WL.nil ?_)))) a ha
         rw [hnx8] at hF
         exact fun a ha => hKL9 a _ m10 (Nat.lt_succ_self m10) ⟨(w64 (y7 + 1)), ha.sub ⟨rfl, rfl, rfl, rfl, rfl, trivial⟩, hB43, (hS44.sel [] rfl), hF⟩
    refine W.regionH mixed_ [] hB25 hS26 ?_
    intro w69 hb70 hB71 hS72
    have hSW73 := KeepX.refl w69 []
    refine WH.tk 0 rfl hP hSW73 (pr_field (o := 0) (off' := 0) ff_39_0 rfl rfl rfl (WH.tk 1 rfl hP hSW73 (pr_load_blk (i := 0) (vs := [(.int .i64 u16.1)]) (v := (.int .i64 u16.1)) tf_3 rfl rfl hS72 rfl rfl rfl (by simp) (WH.tk 2 rfl hP hSW73 (pr_move rfl rfl (WH.on1 3 rfl ?_))))))
    obtain ⟨u74, hu74, hF⟩ := bindE hF
    refine wl_call rfl Tryd.call58 (C_spec_muCounts w69 x0 v0_0 (h0_0.ro hB71) _ hu74) rfl ?_
    rintro _ w75 ⟨rfl, hb76⟩
    refine ⟨_, rfl, ?_⟩
    have hB77 := hB71.trans (hb76.mono hB71.size)
    have hS78 := hS72.below hb76
    have hSW80 := hSW73.ext hb76
    refine WL.nil (WH.ret hSW80 (WH.tk 4 rfl hP hSW80 (pr_sub rfl rfl rfl (WH.on1 5 rfl ?_))))
    obtain ⟨u81, hu81, hF⟩ := bindE hF
    refine wl_call rfl Tryd.call68 (C_spec_l1In w75 u16.1 0 (w64 (u74 - 1)) _ hu81) rfl ?_
    rintro _ w82 ⟨rfl, hb83⟩
    refine ⟨_, rfl, ?_⟩
    have hB84 := hB77.trans (hb83.mono hB77.size)
    have hS85 := hS78.below hb83
    have hSW87 := hSW80.ext hb83
    refine WL.nil (WH.ret hSW87 (WH.tk 6 rfl hP hSW87 (pr_not rfl rfl (WH.tk 7 rfl hP hSW87 (pr_move rfl rfl ?_)))))
    rcases bE (!u81) with h88 | h88
    ·replace hF := ifP h88 hF
     refine WH.off (i := 8) rfl (by kernel_rfl) (by kernel_rfl) (by kernel_rfl) hP rfl rfl h88 rfl hSW87 (WH.off (i := 9) rfl (by kernel_rfl) (by kernel_rfl) (by kernel_rfl) hP rfl rfl h88 rfl hSW87 (WH.off (i := 10) rfl (by kernel_rfl) (by kernel_rfl) (by kernel_rfl) hP rfl rfl h88 rfl hSW87 (WH.off (i := 11) rfl (by kernel_rfl) (by kernel_rfl) (by kernel_rfl) hP rfl rfl h88 rfl hSW87 (WH.tk 12 rfl hP hSW87 (pr_pick_t rfl rfl h88 rfl (WH.tk 13 rfl hP hSW87 (pr_move rfl rfl (WH.off (i := 14) rfl (by kernel_rfl) (by kernel_rfl) (by kernel_rfl) hP rfl rfl rfl rfl hSW87 (WH.off (i := 15) rfl (by kernel_rfl) (by kernel_rfl) (by kernel_rfl) hP rfl rfl rfl rfl hSW87 (WH.off (i := 16) rfl (by kernel_rfl) (by kernel_rfl) (by kernel_rfl) hP rfl rfl rfl rfl hSW87 (WH.offu (i := 17) rfl (by kernel_rfl) (by kernel_rfl) (by kernel_rfl) hP rfl rfl rfl hSW87 ?_)))))))))))
     refine WH.offu (i := 18) rfl (by kernel_rfl) (by kernel_rfl) (by kernel_rfl) hP rfl rfl rfl hSW87 (WH.offu (i := 19) rfl (by kernel_rfl) (by kernel_rfl) (by kernel_rfl) hP rfl rfl rfl hSW87 (WH.offu (i := 20) rfl (by kernel_rfl) (by kernel_rfl) (by kernel_rfl) hP rfl rfl rfl hSW87 (WH.offu (i := 21) rfl (by kernel_rfl) (by kernel_rfl) (by kernel_rfl) hP rfl rfl rfl hSW87 (WH.offu (i := 22) rfl (by kernel_rfl) (by kernel_rfl) (by kernel_rfl) hP rfl rfl rfl hSW87 (WH.offu (i := 23) rfl (by kernel_rfl) (by kernel_rfl) (by kernel_rfl) hP rfl rfl rfl hSW87 (WH.offu (i := 24) rfl (by kernel_rfl) (by kernel_rfl) (by kernel_rfl) hP rfl rfl rfl hSW87 (WH.offu (i := 25) rfl (by kernel_rfl) (by kernel_rfl) (by kernel_rfl) hP rfl rfl rfl hSW87 (WH.off (i := 26) rfl (by kernel_rfl) (by kernel_rfl) (by kernel_rfl) hP rfl rfl rfl rfl hSW87 (WH.tk 27 rfl hP hSW87 (pr_pick_t rfl rfl rfl rfl ?_))))))))))
     refine WH.done (by kernel_rfl) ?_
     exact fun a ha => hJ35 (true) _ hF hB84 (hS85.sel [0] rfl) a (ha.sub ⟨rfl, rfl, rfl, rfl, rfl, rfl, rfl, rfl, trivial⟩)
    ·replace hF := ifN h88 hF
     refine WH.takexg (i := 8) rfl (by kernel_rfl) (by kernel_rfl) (by kernel_rfl) hP rfl rfl h88 hSW87 (pr_field (o := 1) (off' := 1) ff_39_1 rfl rfl rfl (WH.takexg (i := 9) rfl (by kernel_rfl) (by kernel_rfl) (by kernel_rfl) hP rfl rfl h88 hSW87 (pr_load_blk (i := 0) (vs := [(.string (mkS u16.2))]) (v := (.string (mkS u16.2))) tf_9 rfl rfl hS72 rfl rfl rfl (by simp) (WH.on1 10 rfl (wl_on rfl rfl h88 ?_)))))
     obtain ⟨u89, hu89, hF⟩ := bindE hF
     refine wl_call rfl Tryd.call80 (C_spec_tiName w82 u16.2 _ hu89) rfl ?_
     rintro _ w90 ⟨rfl, hb91⟩
     refine ⟨_, rfl, ?_⟩
     have hB92 := hB84.trans (hb91.mono hB84.size)
     have hS93 := hS85.below hb91
     have hSW95 := hSW87.ext hb91
     refine WL.nil (WH.ret hSW95 (WH.takexg (i := 11) rfl (by kernel_rfl) (by kernel_rfl) (by kernel_rfl) hP rfl rfl h88 hSW95 (pr_not rfl rfl (WH.tk 12 rfl hP hSW95 (pr_pick_f rfl rfl h88 rfl (WH.tk 13 rfl hP hSW95 (pr_move rfl rfl ?_)))))))
     rcases bE (!u89) with h96 | h96
     ·replace hF := ifP h96 hF
      refine WH.off (i := 14) rfl (by kernel_rfl) (by kernel_rfl) (by kernel_rfl) hP rfl rfl h96 rfl hSW95 (WH.off (i := 15) rfl (by kernel_rfl) (by kernel_rfl) (by kernel_rfl) hP rfl rfl h96 rfl hSW95 (WH.off (i := 16) rfl (by kernel_rfl) (by kernel_rfl) (by kernel_rfl) hP rfl rfl h96 rfl hSW95 (WH.offu (i := 17) rfl (by kernel_rfl) (by kernel_rfl) (by kernel_rfl) hP rfl rfl rfl hSW95 (WH.offu (i := 18) rfl (by kernel_rfl) (by kernel_rfl) (by kernel_rfl) hP rfl rfl rfl hSW95 (WH.offu (i := 19) rfl (by kernel_rfl) (by kernel_rfl) (by kernel_rfl) hP rfl rfl rfl hSW95 (WH.offu (i := 20) rfl (by kernel_rfl) (by kernel_rfl) (by kernel_rfl) hP rfl rfl rfl hSW95 (WH.offu (i := 21) rfl (by kernel_rfl) (by kernel_rfl) (by kernel_rfl) hP rfl rfl rfl hSW95 (WH.offu (i := 22) rfl (by kernel_rfl) (by kernel_rfl) (by kernel_rfl) hP rfl rfl rfl hSW95 ?_))))))))
      refine WH.offu (i := 23) rfl (by kernel_rfl) (by kernel_rfl) (by kernel_rfl) hP rfl rfl rfl hSW95 (WH.offu (i := 24) rfl (by kernel_rfl) (by kernel_rfl) (by kernel_rfl) hP rfl rfl rfl hSW95 (WH.offu (i := 25) rfl (by kernel_rfl) (by kernel_rfl) (by kernel_rfl) hP rfl rfl rfl hSW95 (WH.off (i := 26) rfl (by kernel_rfl) (by kernel_rfl) (by kernel_rfl) hP rfl rfl h96 rfl hSW95 (WH.tk 27 rfl hP hSW95 (pr_pick_t rfl rfl h96 rfl (WH.done (by kernel_rfl) ?_))))))
      exact fun a ha => hJ35 (true) _ hF hB92 (hS93.sel [0] rfl) a (ha.sub ⟨rfl, rfl, rfl, rfl, rfl, rfl, rfl, rfl, trivial⟩)
     ·replace hF := ifN h96 hF
      refine WH.takexg (i := 14) rfl (by kernel_rfl) (by kernel_rfl) (by kernel_rfl) hP rfl rfl h96 hSW95 (pr_move rfl rfl (WH.takexg (i := 15) rfl (by kernel_rfl) (by kernel_rfl) (by kernel_rfl) hP rfl rfl h96 hSW95 (pr_gtr rfl rfl rfl (WH.takexg (i := 16) rfl (by kernel_rfl) (by kernel_rfl) (by kernel_rfl) hP rfl rfl h96 hSW95 (pr_move rfl rfl ?_)))))
      rcases bE (decide (0 < y7)) with h97 | h97
      ·replace hF := ifP h97 hF
       refine WH.takexg (i := 17) rfl (by kernel_rfl) (by kernel_rfl) (by kernel_rfl) hP rfl rfl h97 hSW95 (pr_move rfl rfl (WH.takexg (i := 18) rfl (by kernel_rfl) (by kernel_rfl) (by kernel_rfl) hP rfl rfl h97 hSW95 (pr_move rfl rfl (WH.takexg (i := 19) rfl (by kernel_rfl) (by kernel_rfl) (by kernel_rfl) hP rfl rfl h97 hSW95 (pr_sub rfl rfl rfl ?_)))))
       obtain ⟨u98, hu98, hF⟩ := bindE hF
       refine WH.takexg (i := 20) rfl (by kernel_rfl) (by kernel_rfl) (by kernel_rfl) hP rfl rfl h97 hSW95 (pr_index (e := ty_39) Tryd.underlying30 rfl rfl rfl h1_0 hu98 ?_)
       rintro p99 _ rfl hp100
       refine WH.takexg (i := 21) rfl (by kernel_rfl) (by kernel_rfl) (by kernel_rfl) hP rfl rfl h97 hSW95 (pr_fieldp (o := 0) ff_39_0 rfl rfl (WH.takexg (i := 22) rfl (by kernel_rfl) (by kernel_rfl) (by kernel_rfl) hP rfl rfl h97 hSW95 (pr_load_p (vs := [(.int .i64 u98.1)]) (v := (.int .i64 u98.1)) tf_3 rfl rfl (EAt.addk (hp100.kx hB71 (by simp)) 0) rfl rfl (WH.takexg (i := 23) rfl (by kernel_rfl) (by kernel_rfl) (by kernel_rfl) hP rfl rfl h97 hSW95 (pr_field (o := 0) (off' := 0) ff_39_0 rfl rfl rfl (WH.takexg (i := 24) rfl (by kernel_rfl) (by kernel_rfl) (by kernel_rfl) hP rfl rfl h97 hSW95 (pr_load_blk (i := 0) (vs := [(.int .i64 u16.1)]) (v := (.int .i64 u16.1)) tf_3 rfl rfl hS72 rfl rfl rfl (by simp) (WH.takexg (i := 25) rfl (by kernel_rfl) (by kernel_rfl) (by kernel_rfl) hP rfl rfl h97 hSW95 (pr_geq rfl rfl rfl ?_)))))))))
       refine WH.takexg (i := 26) rfl (by kernel_rfl) (by kernel_rfl) (by kernel_rfl) hP rfl rfl h96 hSW95 (pr_pick_t rfl rfl h97 rfl (WH.tk 27 rfl hP hSW95 (pr_pick_f rfl rfl h96 rfl (WH.done (by kernel_rfl) ?_))))
       exact fun a ha => hJ35 ((decide (u16.1 ≤ u98.1))) _ hF hB92 (hS93.sel [0] rfl) a (ha.sub ⟨rfl, rfl, rfl, rfl, rfl, rfl, rfl, rfl, trivial⟩)
      ·replace hF := ifN h97 hF
       refine WH.off (i := 17) rfl (by kernel_rfl) (by kernel_rfl) (by kernel_rfl) hP rfl rfl h97 rfl hSW95 (WH.off (i := 18) rfl (by kernel_rfl) (by kernel_rfl) (by kernel_rfl) hP rfl rfl h97 rfl hSW95 (WH.off (i := 19) rfl (by kernel_rfl) (by kernel_rfl) (by kernel_rfl) hP rfl rfl h97 rfl hSW95 (WH.off (i := 20) rfl (by kernel_rfl) (by kernel_rfl) (by kernel_rfl) hP rfl rfl h97 rfl hSW95 (WH.off (i := 21) rfl (by kernel_rfl) (by kernel_rfl) (by kernel_rfl) hP rfl rfl h97 rfl hSW95 (WH.off (i := 22) rfl (by kernel_rfl) (by kernel_rfl) (by kernel_rfl) hP rfl rfl h97 rfl hSW95 (WH.off (i := 23) rfl (by kernel_rfl) (by kernel_rfl) (by kernel_rfl) hP rfl rfl h97 rfl hSW95 (WH.off (i := 24) rfl (by kernel_rfl) (by kernel_rfl) (by kernel_rfl) hP rfl rfl h97 rfl hSW95 (WH.off (i := 25) rfl (by kernel_rfl) (by kernel_rfl) (by kernel_rfl) hP rfl rfl h97 rfl hSW95 ?_))))))))
       refine WH.takexg (i := 26) rfl (by kernel_rfl) (by kernel_rfl) (by kernel_rfl) hP rfl rfl h96 hSW95 (pr_pick_f rfl rfl h97 rfl (WH.tk 27 rfl hP hSW95 (pr_pick_f rfl rfl h96 rfl (WH.done (by kernel_rfl) ?_))))
       exact fun a ha => hJ35 (false) _ hF hB92 (hS93.sel [0] rfl) a (ha.sub ⟨rfl, rfl, rfl, rfl, rfl, rfl, rfl, rfl, trivial⟩)
   ·replace hF := ifN h13 hF
    refine W.exit fun a ha => hK2 _ _ (W.seq fun K101 hK101 => (W.region (wl_move rfl rfl (wl_lenr (e := ty_39) (l := x1) Tryd.underlying30 rfl rfl h1_0 (wl_leq rfl rfl rfl (wl_assign rfl rfl (WL.nil (fun a ha => hK101 _ _ (W.ret ?_) a ha)))))))) a ha
    have hr := Option.some.inj hF
    subst hr
    exact rets (vs := [(.bool (decide ((List.length x1 : Int) ≤ 30)))]) hQ rfl ⟨rv_tmp rfl, trivial⟩ ⟨rfl, hB5⟩
theorem C_spec_tiGood (w0 : World) (x0 : (List (Int × Int))) (v0_0 : Value) (h0_0 : rdS ty_63 (· < w0.heap.size) w0 v0_0 x0) (x1 : (List (Int × (List UInt8)))) (v1_0 : Value) (h1_0 : rdS ty_39 (· < w0.heap.size) w0 v1_0 x1) (r : Bool) (hF : F_spec_tiGood x0 x1 = some r) :
  Calls Tryd.prog 33 [v0_0, v1_0].toArray w0 fun e w' => e = .returned (.bool r) ∧ Below w0.heap.size w0 w' := by
 refine calls_mk' Tryd.func33 rfl Tryd.ntmps33 rfl rfl fun Q hQ hP => ?_
 have hB : Below w0.heap.size w0 w0 := Below.refl _ _
 have hS : Sep w0.heap.size w0 [] := Sep.nil _ _
 unfold F_spec_tiGood at hF
 refine W.seq fun K1 hK1 => W.region (wl_assign rfl rfl (WL.nil (fun a ha => hK1 _ _ (W.seq fun K2 hK2 => ?_) a ha)))
 obtain ⟨k7, hk7, hF⟩ := jE1 hF
 have hJ8 : ∀ (y6 : Bool) (w3 : World) (_ : k7 y6 = some r) (_ : Below w0.heap.size w0 w3) (_ : Sep w0.heap.size w3 []), ∀ a, St 12 [(4, (.bool y6))] a → K2 a w3 := by
  intro y6 w3 hF hB4 hS5
  subst hk7
  refine fun a ha => hK2 _ _ (W.ret ?_) a ha
  have hr := Option.some.inj hF
  subst hr
  exact rets (vs := [(.bool y6)]) hQ rfl ⟨rv_tmp rfl, trivial⟩ ⟨rfl, hB4⟩
 refine W.region (wl_move rfl rfl ?_)
 obtain ⟨u9, hu9, hF⟩ := bindE hF
 refine wl_call rfl Tryd.call63 (C_spec_muGood w0 x0 v0_0 (h0_0.ro hB) _ hu9) rfl ?_
 rintro _ w10 ⟨rfl, hb11⟩
 refine ⟨_, rfl, ?_⟩
 have hB12 := hB.trans (hb11.mono hB.size)
 have hS13 := hS.below hb11
 refine wl_move rfl rfl ?_
 rcases bE u9 with h15 | h15
 ·replace hF := ifP h15 hF
  refine wl_on rfl rfl h15 (wl_move rfl rfl (wl_on rfl rfl h15 (wl_move rfl rfl (wl_on rfl rfl h15 ?_))))
  obtain ⟨u16, hu16, hF⟩ := bindE hF
  refine wl_call rfl Tryd.call64 (C_spec_tiCues w10 x0 v0_0 (h0_0.ro hB12) x1 v1_0 (h1_0.ro hB12) _ hu16) rfl ?_
  rintro _ w17 ⟨rfl, hb18⟩
  refine ⟨_, rfl, ?_⟩
  have hB19 := hB12.trans (hb18.mono hB12.size)
  have hS20 := hS13.below hb18
  refine wl_pick_t rfl rfl h15 rfl (wl_assign rfl rfl (WL.nil ?_))
  exact fun a ha => hJ8 (u16) _ hF hB19 (hS20.sel [] rfl) a (ha.sub ⟨rfl, trivial⟩)
 ·replace hF := ifN h15 hF
  refine wl_off rfl rfl rfl h15 (wl_off rfl rfl rfl h15 (wl_off rfl rfl rfl h15 (wl_pick_f rfl rfl h15 rfl (wl_assign rfl rfl (WL.nil ?_)))))
  exact fun a ha => hJ8 (false) _ hF hB12 (hS13.sel [] rfl) a (ha.sub ⟨rfl, trivial⟩)
theorem C_spec_muLasts (w0 : World) (x0 : Int) (x1 : Int) (r : Int) (hF : F_spec_muLasts x0 x1 = some r) :
  Calls Tryd.prog 81 [(.int .i64 x0), (.int .i64 x1)].toArray w0 fun e w' => e = .returned (.int .i64 r) ∧ Below w0.heap.size w0 w' := by
 refine calls_mk' Tryd.func81 rfl Tryd.ntmps81 rfl rfl fun Q hQ hP => ?_
 have hB : Below w0.heap.size w0 w0 := Below.refl _ _
 unfold F_spec_muLasts at hF
 refine W.seq fun K1 hK1 => W.region (wl_assign rfl rfl (WL.nil (fun a ha => hK1 _ _ (W.seq fun K2 hK2 => (W.region (wl_move rfl rfl (wl_mul rfl rfl rfl (wl_move rfl rfl ?_))))) a ha)))
 have h3 : x1 ≠ 0 := fun h3 => noneE (ifP h3 hF)
 replace hF := ifNP h3 hF
 refine wl_quo rfl rfl rfl h3 (wl_assign rfl rfl (WL.nil (fun a ha => hK2 _ _ (W.ret ?_) a ha)))
 have hr := Option.some.inj hF
 subst hr
 exact rets (vs := [(.int .i64 (w64 (Int.tdiv (w64 (60000 * x0)) x1)))]) hQ rfl ⟨rv_tmp rfl, trivial⟩ ⟨rfl, hB⟩
theorem C_spec_muTime (w0 : World) (x0 : (List (Int × Int))) (v0_0 : Value) (h0_0 : rdS ty_63 (· < w0.heap.size) w0 v0_0 x0) (x1 : Int) (r : Int) (hF : F_spec_muTime x0 x1 = some r) :
  Calls Tryd.prog 69 [v0_0, (.int .i64 x1)].toArray w0 fun e w' => e = .returned (.int .i64 r) ∧ Below w0.heap.size w0 w' := by
 refine calls_mk' Tryd.func69 rfl Tryd.ntmps69 rfl rfl fun Q hQ hP => ?_
 have hB : Below w0.heap.size w0 w0 := Below.refl _ _
 have hS : Sep w0.heap.size w0 [] := Sep.nil _ _
 unfold F_spec_muTime at hF
 refine W.seq fun K1 hK1 => W.region (wl_assign rfl rfl (WL.nil (fun a ha => hK1 _ _ (W.seq fun K2 hK2 => (W.region (wl_assign rfl rfl (WL.nil (fun a ha => hK2 _ _ (W.seq fun K3 hK3 => (W.seq fun K4 hK4 => (W.region (wl_move rfl rfl ?_)))) a ha))))) a ha)))
 refine wl_lenr (e := ty_63) (l := x0) Tryd.underlying28 rfl rfl h0_0 (wl_move rfl rfl (WL.nil (fun a ha => hK4 _ _ (W.block (W.loopk (fun m a w5 => ∃ (y8 : Int) (y9 : Int) (y10 : Int), St 37 [(1, (.int .i64 y8)), (5, (.int .i64 y9)), (8, v0_0), (9, (.int .i64 (List.length x0 : Int))), (10, (.int .i64 y10))] a ∧ Below w0.heap.size w0 w5 ∧ Sep w0.heap.size w5 [] ∧ F_spec_muTime_L1 x0 m y8 y9 y10 = some r) FU ?_ ?_)) a ha)))
 ·
  exact fun a ha => ⟨x1, 0, 0, ha.sub ⟨rfl, rfl, rfl, rfl, rfl, trivial⟩, hB, (hS.sel [] rfl), hF⟩
 ·
  rintro m13 a w5 ⟨y8, y9, y10, ha, hB6, hS7, hF⟩ KL12 hKL12
  refine W.at ?_ ha
  cases m13 with
  | zero => exact noneE hF
  | succ m13 =>
   obtain ⟨nx11, hnx11⟩ : ∃ k, k = F_spec_muTime_L1 x0 m13 := ⟨_, rfl⟩
   rw [F_spec_muTime_L1, ← hnx11] at hF
   refine W.seq fun K14 hK14 => W.region (wl_lss rfl rfl rfl (WL.nil (fun a ha => hK14 _ _ (W.seq fun K15 hK15 => (W.cond rfl (fun h16 => ?_) (fun h16 => ?_))) a ha)))
   ·replace hF := ifP h16 hF
    refine W.skip fun a ha => hK15 _ _ (W.seq fun K17 hK17 => (W.block (W.seq fun K18 hK18 => (W.region ?_)))) a ha
    obtain ⟨u19, hu19, hF⟩ := bindE hF
    refine wl_index (e := ty_63) Tryd.underlying28 rfl rfl rfl h0_0 hu19 ?_
    rintro p20 _ rfl hp21
    refine wl_load_p (vs := [(.int .i64 u19.1), (.int .i64 u19.2)]) (v := (.agg #[(.int .i64 u19.1), (.int .i64 u19.2)])) tf_63 rfl rfl (hp21.ro hB6) rfl rfl (wl_alloc (cs := [(.int .i64 0), (.int .i64 0)]) tf_63 rfl rfl hB6 hS7 ?_)
    intro b22 w23 hb24 hB25 hS26
    refine wl_store_blk (i := 0) (vs := [(.int .i64 u19.1), (.int .i64 u19.2)]) (cs' := [(.int .i64 u19.1), (.int .i64 u19.2)]) tf_63 rfl rfl rfl rfl hB25 hS26 rfl rfl ⟨rfl, rfl, trivial⟩ rfl ?_
    intro w27 hk30 hB28 hS29
    refine WL.nil fun a ha => hK18 _ _ (W.seq fun K31 hK31 => (W.seq fun K32 hK32 => (W.region (wl_move rfl rfl (wl_field (o := 0) (off' := 0) ff_63_0 rfl rfl rfl (wl_load_blk (i := 0) (vs := [(.int .i64 u19.1)]) (v := (.int .i64 u19.1)) tf_3 rfl rfl hS29 rfl rfl rfl (wl_lss rfl rfl rfl (WL.nil (fun a ha => hK32 _ _ (W.cond rfl (fun h33 => ?_) (fun h33 => ?_)) a ha))))))))) a ha
    ·replace hF := ifP h33 hF
     refine W.seq fun K34 hK34 => W.region (wl_move rfl rfl (wl_move rfl rfl (wl_field (o := 1) (off' := 1) ff_63_1 rfl rfl rfl (wl_load_blk (i := 0) (vs := [(.int .i64 u19.2)]) (v := (.int .i64 u19.2)) tf_3 rfl rfl hS29 rfl rfl rfl ?_))))
     obtain ⟨u35, hu35, hF⟩ := bindE hF
     refine wl_call rfl Tryd.call81 (C_spec_muLasts w27 y8 u19.2 _ hu35) rfl ?_
     rintro _ w36 ⟨rfl, hb37⟩
     refine ⟨_, rfl, ?_⟩
     have hB38 := hB28.trans (hb37.mono hB28.size)
     refine wl_add rfl rfl rfl (wl_assign rfl rfl (WL.nil (fun a ha => hK34 _ _ (W.ret ?_) a ha)))
     have hr := Option.some.inj hF
     subst hr
     exact rets (vs := [(.int .i64 (w64 (y9 + u35)))]) hQ rfl ⟨rv_tmp rfl, trivial⟩ ⟨rfl, hB38⟩
    ·replace hF := ifN h33 hF
     refine W.skip fun a ha => hK31 _ _ (W.seq fun K41 hK41 => (W.region (wl_move rfl rfl (wl_field (o := 0) (off' := 0) ff_63_0 rfl rfl rfl (wl_load_blk (i := 0) (vs := [(.int .i64 u19.1)]) (v := (.int .i64 u19.1)) tf_3 rfl rfl hS29 rfl rfl rfl (wl_field (o := 1) (off' := 1) ff_63_1 rfl rfl rfl (wl_load_blk (i := 0) (vs := [(.int .i64 u19.2)]) (v := (.int .i64 u19.2)) tf_3 rfl rfl hS29 rfl rfl rfl ?_))))))) a ha
     obtain ⟨u42, hu42, hF⟩ := bindE hF
     refine wl_call rfl Tryd.call81 (C_spec_muLasts w27 u19.1 u19.2 _ hu42) rfl ?_
     rintro _ w43 ⟨rfl, hb44⟩
     refine ⟨_, rfl, ?_⟩
     have hB45 := hB28.trans (hb44.mono hB28.size)
     have hS46 := hS29.below hb44
     refine wl_add rfl rfl rfl (wl_assign rfl rfl (WL.nil (fun a ha => hK41 _ _ (W.region (wl_move rfl rfl (wl_field (o := 0) (off' := 0) ff_63_0 rfl rfl rfl (wl_load_blk (i := 0) (vs := [(.int .i64 u19.1)]) (v := (.int .i64 u19.1)) tf_3 rfl rfl hS46 rfl rfl rfl (wl_sub rfl rfl rfl (wl_assign rfl rfl (WL.nil (fun a ha => hK17 _ _ (W.region (wl_add rfl rfl rfl ?_)) a ha)))))))) a ha)))
     refine wl_move rfl rfl (WL.nil ?_)
     rw [hnx11] at hF
     exact fun a ha => hKL12 a _ m13 (Nat.lt_succ_self m13) ⟨(w64 (y8 - u19.1)), (w64 (y9 + u42)), (w64 (y10 + 1)), ha.sub ⟨rfl, rfl, rfl, rfl, rfl, trivial⟩, hB45, (hS46.sel [] rfl), hF⟩
   ·replace hF := ifN h16 hF
    refine W.exit fun a ha => hK3 _ _ (W.seq fun K48 hK48 => (W.region (wl_move rfl rfl (wl_assign rfl rfl (WL.nil (fun a ha => hK48 _ _ (W.ret ?_) a ha)))))) a ha
    have hr := Option.some.inj hF
    subst hr
    exact rets (vs := [(.int .i64 y9)]) hQ rfl ⟨rv_tmp rfl, trivial⟩ ⟨rfl, hB6⟩
theorem C_spec_tiTimes (w0 : World) (x0 : (List (Int × Int))) (v0_0 : Value) (h0_0 : rdS ty_63 (· < w0.heap.size) w0 v0_0 x0) (x1 : (List (Int × (List UInt8)))) (v1_0 : Value) (h1_0 : rdS ty_39 (· < w0.heap.size) w0 v1_0 x1) (r : (List Int)) (hF : F_spec_tiTimes x0 x1 = some r) :
  Calls Tryd.prog 34 [v0_0, v1_0].toArray w0 fun e w' => ∃ (q0 : Value) (G0 : List Nat), e = .returned q0 ∧ Below w0.heap.size w0 w' ∧ Sep w0.heap.size w' [R.own ty_3 G0 q0 r] := by
 refine calls_mk' Tryd.func34 rfl Tryd.ntmps34 rfl rfl fun Q hQ hP => ?_
 have hB : Below w0.heap.size w0 w0 := Below.refl _ _
 have hS : Sep w0.heap.size w0 [] := Sep.nil _ _
 unfold F_spec_tiTimes at hF
 refine W.seq fun K1 hK1 => W.region (wl_assign rfl rfl (WL.nil (fun a ha => hK1 _ _ (W.seq fun K2 hK2 => (W.region (wl_assign rfl rfl (WL.nil (fun a ha => hK2 _ _ (W.seq fun K3 hK3 => (W.seq fun K4 hK4 => (W.region (wl_move rfl rfl ?_)))) a ha))))) a ha)))
 refine wl_lenr (e := ty_39) (l := x1) Tryd.underlying30 rfl rfl h1_0 (wl_move rfl rfl (WL.nil (fun a ha => hK4 _ _ (W.block (W.loopk (fun m a w5 => ∃ (l8 : (List Int)) (y11 : Int) (v9 : Value) (F10 : List Nat), St 23 [(0, v0_0), (5, v9), (8, v1_0), (9, (.int .i64 (List.length x1 : Int))), (10, (.int .i64 y11))] a ∧ Below w0.heap.size w0 w5 ∧ Sep w0.heap.size w5 [R.own ty_3 F10 v9 l8] ∧ F_spec_tiTimes_L1 x1 x0 m l8 y11 = some r) FU ?_ ?_)) a ha)))
 ·
  have hS13 := hS.push0 (r := R.own ty_3 [] (.slice none 0 0) []) rfl fun _ => .inl ⟨rfl, rfl, rfl⟩
  exact fun a ha => ⟨[], 0, (.slice none 0 0), [], ha.sub ⟨rfl, rfl, rfl, rfl, rfl, trivial⟩, hB, (hS13.sel [0] rfl), hF⟩
 ·
  rintro m15 a w5 ⟨l8, y11, v9, F10, ha, hB6, hS7, hF⟩ KL14 hKL14
  refine W.at ?_ ha
  cases m15 with
  | zero => exact noneE hF
  | succ m15 =>
   obtain ⟨nx12, hnx12⟩ : ∃ k, k = F_spec_tiTimes_L1 x1 x0 m15 := ⟨_, rfl⟩
   rw [F_spec_tiTimes_L1, ← hnx12] at hF
   refine W.seq fun K16 hK16 => W.region (wl_lss rfl rfl rfl (WL.nil (fun a ha => hK16 _ _ (W.seq fun K17 hK17 => (W.cond rfl (fun h18 => ?_) (fun h18 => ?_))) a ha)))
   ·replace hF := ifP h18 hF
    refine W.skip fun a ha => hK17 _ _ (W.seq fun K19 hK19 => (W.block (W.seq fun K20 hK20 => (W.region ?_)))) a ha
    obtain ⟨u21, hu21, hF⟩ := bindE hF
    refine wl_index (e := ty_39) Tryd.underlying30 rfl rfl rfl h1_0 hu21 ?_
    rintro p22 _ rfl hp23
    refine wl_load_p (vs := [(.int .i64 u21.1), (.string (mkS u21.2))]) (v := (.agg #[(.int .i64 u21.1), (.string (mkS u21.2))])) tf_39 rfl rfl (hp23.ro hB6) rfl rfl (wl_alloc (cs := [(.int .i64 0), (.string (mkS []))]) tf_39 rfl rfl hB6 hS7 ?_)
    intro b24 w25 hb26 hB27 hS28
    refine wl_store_blk (i := 0) (vs := [(.int .i64 u21.1), (.string (mkS u21.2))]) (cs' := [(.int .i64 u21.1), (.string (mkS u21.2))]) tf_39 rfl rfl rfl rfl hB27 hS28 rfl rfl ⟨rfl, rfl, trivial⟩ rfl ?_
    intro w29 hk32 hB30 hS31
    refine WL.nil fun a ha => hK20 _ _ (W.region (wl_move rfl rfl (wl_move rfl rfl (wl_field (o := 0) (off' := 0) ff_39_0 rfl rfl rfl (wl_load_blk (i := 0) (vs := [(.int .i64 u21.1)]) (v := (.int .i64 u21.1)) tf_3 rfl rfl hS31 rfl rfl rfl ?_))))) a ha
    obtain ⟨u33, hu33, hF⟩ := bindE hF
    refine wl_call rfl Tryd.call69 (C_spec_muTime w29 x0 v0_0 (h0_0.ro hB30) u21.1 _ hu33) rfl ?_
    rintro _ w34 ⟨rfl, hb35⟩
    refine ⟨_, rfl, ?_⟩
    have hB36 := hB30.trans (hb35.mono hB30.size)
    have hS37 := hS31.below hb35
    refine wl_lit (vs := [(.int .i64 u33)]) (l := [u33]) fl_3 Tryd.underlying59 rfl rfl rfl rfl rfl rfl hB36 hS37 ?_
    intro v39 F40 w41 hb42 hB43 hS44
    obtain ⟨u45, hu45, hF⟩ := bindE hF
    refine wl_append (i := 2) (S := (· < w41.heap.size)) fl_3 Tryd.underlying59 rfl rfl rfl hB43 hS44 rfl (hS44.own_ro (i := 0) rfl) hu45 ?_
    intro v46 F47 w48 hk49 hB50 hS51
    refine wl_assign rfl rfl (WL.nil (fun a ha => hK19 _ _ (W.region (wl_add rfl rfl rfl (wl_move rfl rfl (WL.nil ?_)))) a ha))
    rw [hnx12] at hF
    exact fun a ha => hKL14 a _ m15 (Nat.lt_succ_self m15) ⟨u45, (w64 (y11 + 1)), v46, F47, ha.sub ⟨rfl, rfl, rfl, rfl, rfl, trivial⟩, hB50, (hS51.sel [2] rfl), hF⟩
   ·replace hF := ifN h18 hF
    refine W.exit fun a ha => hK3 _ _ (W.seq fun K52 hK52 => (W.region (wl_move rfl rfl (wl_assign rfl rfl (WL.nil (fun a ha => hK52 _ _ (W.ret ?_) a ha)))))) a ha
    have hr := Option.some.inj hF
    subst hr
    exact rets (vs := [v9]) hQ rfl ⟨rv_tmp rfl, trivial⟩ ⟨v9, F10, rfl, hB6, hS7.sel [0] rfl⟩
theorem CR_spec_l1Num : ∀ (m : Nat) (w0 : World) (x0 : Int) (r : (List UInt8)) (hF : F_spec_l1Num_R m x0 = some r),
  Calls Tryd.prog 36 [(.int .i64 x0)].toArray w0 fun e w' => e = .returned (.string (mkS r)) ∧ Below w0.heap.size w0 w' := by
 intro m
 induction m with
 | zero =>
  intro w0 x0 r hF
  simp [F_spec_l1Num_R] at hF
 | succ m ih =>
  intro w0 x0 r hF
  refine calls_mk' Tryd.func36 rfl Tryd.ntmps36 rfl rfl fun Q hQ hP => ?_
  have hB : Below w0.heap.size w0 w0 := Below.refl _ _
  have hS : Sep w0.heap.size w0 [] := Sep.nil _ _
  rw [F_spec_l1Num_R] at hF
  refine W.seq fun K1 hK1 => W.region (wl_assign rfl rfl (WL.nil (fun a ha => hK1 _ _ (W.seq fun K2 hK2 => (W.seq fun K3 hK3 => (W.region (wl_move rfl rfl (wl_lss rfl rfl rfl (WL.nil (fun a ha => hK3 _ _ (W.cond rfl (fun h4 => ?_) (fun h4 => ?_)) a ha))))))) a ha)))
  ·replace hF := ifP h4 hF
   refine W.seq fun K5 hK5 => W.region (wl_move rfl rfl (wl_add rfl rfl rfl (wl_convi Tryd.underlying3 Tryd.underlying5 rfl rfl (wl_lit (vs := [(.int .u8 (wu8 (w64 (48 + x0))))]) (l := [(wu8 (w64 (48 + x0)))]) fl_5 Tryd.underlying35 rfl rfl rfl rfl rfl rfl hB hS ?_))))
   intro v6 F7 w8 hb9 hB10 hS11
   refine wl_convb fl_5 Tryd.underlying35 Tryd.underlying5 Tryd.underlying9 rfl rfl rfl (hS11.own_ro (i := 0) rfl) (wl_assign rfl rfl (WL.nil (fun a ha => hK5 _ _ (W.ret ?_) a ha)))
   have hr := Option.some.inj hF
   subst hr
   exact rets (vs := [(.string (mkS (bytesOf [(wu8 (w64 (48 + x0)))])))]) hQ rfl ⟨rv_tmp rfl, trivial⟩ ⟨rfl, hB10⟩
  ·replace hF := ifN h4 hF
   refine W.skip fun a ha => hK2 _ _ (W.seq fun K12 hK12 => ?_) a ha
   obtain ⟨k17, hk17, hF⟩ := jE1 hF
   have hJ18 : ∀ (y16 : (List UInt8)) (w13 : World) (_ : k17 y16 = some r) (_ : Below w0.heap.size w0 w13) (_ : Sep w0.heap.size w13 []), ∀ a, St 20 [(2, (.string (mkS y16)))] a → K12 a w13 := by
    intro y16 w13 hF hB14 hS15
    subst hk17
    refine fun a ha => hK12 _ _ (W.ret ?_) a ha
    have hr := Option.some.inj hF
    subst hr
    exact rets (vs := [(.string (mkS y16))]) hQ rfl ⟨rv_tmp rfl, trivial⟩ ⟨rfl, hB14⟩
   refine W.regionH mixed_ [] hB hS ?_
   intro w19 hb20 hB21 hS22
   have hSW23 := KeepX.refl w19 []
   refine WH.tk 0 rfl hP hSW23 (pr_move rfl rfl (WH.tk 1 rfl hP hSW23 (pr_quo rfl rfl rfl (by decide) (WH.tk 3 rfl hP hSW23 (pr_move rfl rfl (WH.tk 4 rfl hP hSW23 (pr_rem rfl rfl rfl (by decide) (WH.tk 5 rfl hP hSW23 (pr_add rfl rfl rfl (WH.tk 6 rfl hP hSW23 (pr_convi Tryd.underlying3 Tryd.underlying5 rfl rfl (WH.many (is := [2, 7]) (by kernel_rfl) rfl (List.forall_mem_cons.2 ⟨⟨_, rfl, ?_⟩, List.forall_mem_cons.2 ⟨⟨_, rfl, ?_⟩, fun _ h => by cases h⟩⟩)))))))))))))
   ·
    obtain ⟨u24, hu24, hF⟩ := bindE hF
    refine wl_call rfl Tryd.call36 (ih w19 (w64 (Int.tdiv x0 10)) _ hu24) rfl ?_
    rintro _ w25 ⟨rfl, hb26⟩
    refine ⟨_, rfl, ?_⟩
    have hB27 := hB21.trans (hb26.mono hB21.size)
    have hS28 := hS22.below hb26
    have hSW30 := hSW23.ext hb26
    refine WL.nil (WH.ret hSW30 (WH.on1 7 rfl (wl_lit (vs := [(.int .u8 (wu8 (w64 (48 + (Int.tmod x0 10)))))]) (l := [(wu8 (w64 (48 + (Int.tmod x0 10))))]) fl_5 Tryd.underlying35 rfl rfl rfl rfl rfl rfl (Below.self w25) (Sep.nil _ _) ?_)))
    intro v31 F32 w33 hb34 hB37 hM38
    have hB35 := hB27.trans (hb34.mono hB27.size)
    have hS36 := hS28.join hb34 hM38 hB27.size
    have hSW40 := hSW30.ext hb34
    refine WL.nil (WH.ret hSW40 (WH.on1 8 rfl (wl_convb fl_5 Tryd.underlying35 Tryd.underlying5 Tryd.underlying9 rfl rfl rfl (hS36.own_ro (i := 0) rfl) (WL.nil (WH.ret hSW40 ?_)))))
    obtain ⟨u41, hu41, hF⟩ := bindE hF
    refine WH.tk 9 rfl hP hSW40 (pr_stradd rfl rfl rfl hu41 (WH.tk 10 rfl hP hSW40 (pr_assign rfl rfl (WH.done (by kernel_rfl) ?_))))
    exact fun a ha => hJ18 (u41) _ hF hB35 (hS36.sel [] rfl) a (ha.sub ⟨rfl, trivial⟩)
   ·
    refine wl_lit (vs := [(.int .u8 (wu8 (w64 (48 + (Int.tmod x0 10)))))]) (l := [(wu8 (w64 (48 + (Int.tmod x0 10))))]) fl_5 Tryd.underlying35 rfl rfl rfl rfl rfl rfl (Below.self w19) (Sep.nil _ _) ?_
    intro v42 F43 w44 hb45 hB48 hM49
    have hB46 := hB21.trans (hb45.mono hB21.size)
    have hS47 := hS22.join hb45 hM49 hB21.size
    have hSW51 := hSW23.ext hb45
    refine WL.nil (WH.ret hSW51 (WH.many (is := [2, 8]) (by kernel_rfl) rfl (List.forall_mem_cons.2 ⟨⟨_, rfl, ?_⟩, List.forall_mem_cons.2 ⟨⟨_, rfl, ?_⟩, fun _ h => by cases h⟩⟩)))
    ·
     obtain ⟨u52, hu52, hF⟩ := bindE hF
     refine wl_call rfl Tryd.call36 (ih w44 (w64 (Int.tdiv x0 10)) _ hu52) rfl ?_
     rintro _ w53 ⟨rfl, hb54⟩
     refine ⟨_, rfl, ?_⟩
     have hB55 := hB46.trans (hb54.mono hB46.size)
     have hS56 := hS47.below hb54
     have hSW58 := hSW51.ext hb54
     refine WL.nil (WH.ret hSW58 (WH.on1 8 rfl (wl_convb fl_5 Tryd.underlying35 Tryd.underlying5 Tryd.underlying9 rfl rfl rfl (hS56.own_ro (i := 0) rfl) (WL.nil (WH.ret hSW58 ?_)))))
     obtain ⟨u59, hu59, hF⟩ := bindE hF
     refine WH.tk 9 rfl hP hSW58 (pr_stradd rfl rfl rfl hu59 (WH.tk 10 rfl hP hSW58 (pr_assign rfl rfl (WH.done (by kernel_rfl) ?_))))
     exact fun a ha => hJ18 (u59) _ hF hB55 (hS56.sel [] rfl) a (ha.sub ⟨rfl, trivial⟩)
    ·
     refine wl_convb fl_5 Tryd.underlying35 Tryd.underlying5 Tryd.underlying9 rfl rfl rfl (hS47.own_ro (i := 0) rfl) (WL.nil (WH.ret hSW51 (WH.on1 2 rfl ?_)))
     obtain ⟨u60, hu60, hF⟩ := bindE hF
     refine wl_call rfl Tryd.call36 (ih w44 (w64 (Int.tdiv x0 10)) _ hu60) rfl ?_
     rintro _ w61 ⟨rfl, hb62⟩
     refine ⟨_, rfl, ?_⟩
     have hB63 := hB46.trans (hb62.mono hB46.size)
     have hS64 := hS47.below hb62
     have hSW66 := hSW51.ext hb62
     refine WL.nil (WH.ret hSW66 ?_)
     obtain ⟨u67, hu67, hF⟩ := bindE hF
     refine WH.tk 9 rfl hP hSW66 (pr_stradd rfl rfl rfl hu67 (WH.tk 10 rfl hP hSW66 (pr_assign rfl rfl (WH.done (by kernel_rfl) ?_))))
     exact fun a ha => hJ18 (u67) _ hF hB63 (hS64.sel [] rfl) a (ha.sub ⟨rfl, trivial⟩)
theorem C_spec_l1Num (w0 : World) (x0 : Int) (r : (List UInt8)) (hF : F_spec_l1Num x0 = some r) :
  Calls Tryd.prog 36 [(.int .i64 x0)].toArray w0 fun e w' => e = .returned (.string (mkS r)) ∧ Below w0.heap.size w0 w' :=
 CR_spec_l1Num FU w0 x0 r hF
theorem C_spec_tiPadded (w0 : World) (x0 : Int) (x1 : Int) (r : (List UInt8)) (hF : F_spec_tiPadded x0 x1 = some r) :
  Calls Tryd.prog 70 [(.int .i64 x0), (.int .i64 x1)].toArray w0 fun e w' => e = .returned (.string (mkS r)) ∧ Below w0.heap.size w0 w' := by
 refine calls_mk' Tryd.func70 rfl Tryd.ntmps70 rfl rfl fun Q hQ hP => ?_
 have hB : Below w0.heap.size w0 w0 := Below.refl _ _
 have hS : Sep w0.heap.size w0 [] := Sep.nil _ _
 unfold F_spec_tiPadded at hF
 refine W.seq fun K1 hK1 => W.region (wl_assign rfl rfl (WL.nil (fun a ha => hK1 _ _ (W.seq fun K2 hK2 => (W.region (wl_move rfl rfl ?_))) a ha)))
 obtain ⟨u3, hu3, hF⟩ := bindE hF
 refine wl_call rfl Tryd.call36 (C_spec_l1Num w0 x0 _ hu3) rfl ?_
 rintro _ w4 ⟨rfl, hb5⟩
 refine ⟨_, rfl, ?_⟩
 have hB6 := hB.trans (hb5.mono hB.size)
 have hS7 := hS.below hb5
 refine wl_assign rfl rfl (WL.nil (fun a ha => hK2 _ _ (W.seq fun K9 hK9 => (W.block (W.loopk (fun m a w10 => ∃ (y13 : (List UInt8)), St 15 [(1, (.int .i64 x1)), (5, (.string (mkS y13)))] a ∧ Below w0.heap.size w0 w10 ∧ Sep w0.heap.size w10 [] ∧ F_spec_tiPadded_L1 x1 m y13 = some r) FU ?_ ?_))) a ha))
 ·
  exact fun a ha => ⟨u3, ha.sub ⟨rfl, rfl, trivial⟩, hB6, (hS7.sel [] rfl), hF⟩
 ·
  rintro m16 a w10 ⟨y13, ha, hB11, hS12, hF⟩ KL15 hKL15
  refine W.at ?_ ha
  cases m16 with
  | zero => exact noneE hF
  | succ m16 =>
   obtain ⟨nx14, hnx14⟩ : ∃ k, k = F_spec_tiPadded_L1 x1 m16 := ⟨_, rfl⟩
   rw [F_spec_tiPadded_L1, ← hnx14] at hF
   refine W.seq fun K17 hK17 => W.seq fun K18 hK18 => W.region (wl_move rfl rfl (wl_strlen Tryd.underlying9 rfl rfl (wl_move rfl rfl (wl_lss rfl rfl rfl (WL.nil (fun a ha => hK18 _ _ (W.cond rfl (fun h19 => ?_) (fun h19 => ?_)) a ha))))))
   ·replace hF := ifP h19 hF
    refine W.skip fun a ha => hK17 _ _ (W.block (W.region (wl_move rfl rfl ?_))) a ha
    obtain ⟨u20, hu20, hF⟩ := bindE hF
    refine wl_stradd rfl rfl rfl hu20 (wl_assign rfl rfl (WL.nil ?_))
    rw [hnx14] at hF
    exact fun a ha => hKL15 a _ m16 (Nat.lt_succ_self m16) ⟨u20, ha.sub ⟨rfl, rfl, trivial⟩, hB11, (hS12.sel [] rfl), hF⟩
   ·replace hF := ifN h19 hF
    refine W.exit fun a ha => hK9 _ _ (W.seq fun K21 hK21 => (W.region (wl_move rfl rfl (wl_assign rfl rfl (WL.nil (fun a ha => hK21 _ _ (W.ret ?_) a ha)))))) a ha
    have hr := Option.some.inj hF
    subst hr
    exact rets (vs := [(.string (mkS y13))]) hQ rfl ⟨rv_tmp rfl, trivial⟩ ⟨rfl, hB11⟩
theorem C_spec_tiText (w0 : World) (x0 : Int) (r : (List UInt8)) (hF : F_spec_tiText x0 = some r) :
  Calls Tryd.prog 35 [(.int .i64 x0)].toArray w0 fun e w' => e = .returned (.string (mkS r)) ∧ Below w0.heap.size w0 w' := by
 refine calls_mk' Tryd.func35 rfl Tryd.ntmps35 rfl rfl fun Q hQ hP => ?_
 have hB : Below w0.heap.size w0 w0 := Below.refl _ _
 unfold F_spec_tiText at hF
 refine W.seq fun K1 hK1 => W.region (wl_assign rfl rfl (WL.nil (fun a ha => hK1 _ _ (W.seq fun K2 hK2 => (W.region (wl_move rfl rfl (wl_quo rfl rfl rfl (by decide) ?_)))) a ha)))
 obtain ⟨u3, hu3, hF⟩ := bindE hF
 refine wl_call rfl Tryd.call36 (C_spec_l1Num w0 (w64 (Int.tdiv x0 60000)) _ hu3) rfl ?_
 rintro _ w4 ⟨rfl, hb5⟩
 refine ⟨_, rfl, ?_⟩
 have hB6 := hB.trans (hb5.mono hB.size)
 obtain ⟨u9, hu9, hF⟩ := bindE hF
 refine wl_stradd rfl rfl rfl hu9 (wl_move rfl rfl (wl_quo rfl rfl rfl (by decide) (wl_rem rfl rfl rfl (by decide) ?_)))
 obtain ⟨u10, hu10, hF⟩ := bindE hF
 refine wl_call rfl Tryd.call70 (C_spec_tiPadded w4 (Int.tmod (w64 (Int.tdiv x0 1000)) 60) 2 _ hu10) rfl ?_
 rintro _ w11 ⟨rfl, hb12⟩
 refine ⟨_, rfl, ?_⟩
 have hB13 := hB6.trans (hb12.mono hB6.size)
 obtain ⟨u16, hu16, hF⟩ := bindE hF
 refine wl_stradd rfl rfl rfl hu16 ?_
 obtain ⟨u17, hu17, hF⟩ := bindE hF
 refine wl_stradd rfl rfl rfl hu17 (wl_move rfl rfl (wl_rem rfl rfl rfl (by decide) ?_))
 obtain ⟨u18, hu18, hF⟩ := bindE hF
 refine wl_call rfl Tryd.call70 (C_spec_tiPadded w11 (Int.tmod x0 1000) 3 _ hu18) rfl ?_
 rintro _ w19 ⟨rfl, hb20⟩
 refine ⟨_, rfl, ?_⟩
 have hB21 := hB13.trans (hb20.mono hB13.size)
 obtain ⟨u24, hu24, hF⟩ := bindE hF
 refine wl_stradd rfl rfl rfl hu24 (wl_assign rfl rfl (WL.nil (fun a ha => hK2 _ _ (W.ret ?_) a ha)))
 have hr := Option.some.inj hF
 subst hr
 exact rets (vs := [(.string (mkS u24))]) hQ rfl ⟨rv_tmp rfl, trivial⟩ ⟨rfl, hB21⟩
theorem C_spec_TimetableText (w0 : World) (x0 : (List (Int × Int))) (v0_0 : Value) (h0_0 : rdS ty_63 (· < w0.heap.size) w0 v0_0 x0) (x1 : (List (Int × (List UInt8)))) (v1_0 : Value) (h1_0 : rdS ty_39 (· < w0.heap.size) w0 v1_0 x1) (r : ((List UInt8) × Bool)) (hF : F_spec_TimetableText x0 x1 = some r) :
  Calls Tryd.prog 7 [v0_0, v1_0].toArray w0 fun e w' => e = .returned (.tuple #[(.string (mkS r.1)), (.bool r.2)]) ∧ Below w0.heap.size w0 w' := by
 refine calls_mk' Tryd.func7 rfl Tryd.ntmps7 rfl rfl fun Q hQ hP => ?_
 have hB : Below w0.heap.size w0 w0 := Below.refl _ _
 have hS : Sep w0.heap.size w0 [] := Sep.nil _ _
 unfold F_spec_TimetableText at hF
 refine W.seq fun K1 hK1 => W.region (wl_assign rfl rfl (wl_assign rfl rfl (WL.nil (fun a ha => hK1 _ _ (W.seq fun K2 hK2 => (W.seq fun K3 hK3 => (W.region (wl_move rfl rfl (wl_move rfl rfl ?_))))) a ha))))
 obtain ⟨u4, hu4, hF⟩ := bindE hF
 refine wl_call rfl Tryd.call33 (C_spec_tiGood w0 x0 v0_0 (h0_0.ro hB) x1 v1_0 (h1_0.ro hB) _ hu4) rfl ?_
 rintro _ w5 ⟨rfl, hb6⟩
 refine ⟨_, rfl, ?_⟩
 have hB7 := hB.trans (hb6.mono hB.size)
 have hS8 := hS.below hb6
 refine wl_not rfl rfl (WL.nil (fun a ha => hK3 _ _ (W.cond rfl (fun h10 => ?_) (fun h10 => ?_)) a ha))
 ·replace hF := ifP h10 hF
  refine W.seq fun K11 hK11 => W.region (wl_assign rfl rfl (wl_assign rfl rfl (WL.nil (fun a ha => hK11 _ _ (W.ret ?_) a ha))))
  have hr := Option.some.inj hF
  subst hr
  exact rets (vs := [(.string (mkS [])), (.bool false)]) hQ rfl ⟨rv_tmp rfl, rv_tmp rfl, trivial⟩ ⟨rfl, hB7⟩
 ·replace hF := ifN h10 hF
  refine W.skip fun a ha => hK2 _ _ (W.seq fun K12 hK12 => (W.region (wl_assign rfl rfl (WL.nil (fun a ha => hK12 _ _ (W.seq fun K13 hK13 => (W.seq fun K14 hK14 => (W.region (wl_move rfl rfl (wl_move rfl rfl ?_))))) a ha))))) a ha
  obtain ⟨u15, hu15, hF⟩ := bindE hF
  refine wl_call rfl Tryd.call34 (C_spec_tiTimes w5 x0 v0_0 (h0_0.ro hB7) x1 v1_0 (h1_0.ro hB7) _ hu15) rfl ?_
  rintro _ w18 ⟨v16, F17, rfl, hb19, hM22⟩
  refine ⟨_, rfl, ?_⟩
  have hB20 := hB7.trans (hb19.mono hB7.size)
  have hS21 := hS8.join hb19 hM22 hB7.size
  refine wl_lenr (e := ty_3) (l := u15) Tryd.underlying59 rfl rfl (hS21.own_ro (i := 0) rfl) (wl_move rfl rfl (WL.nil (fun a ha => hK14 _ _ (W.block (W.loopk (fun m a w23 => ∃ (y26 : (List UInt8)) (y27 : Int), St 44 [(1, v1_0), (6, (.string (mkS y26))), (15, v16), (16, (.int .i64 (List.length u15 : Int))), (17, (.int .i64 y27))] a ∧ Below w0.heap.size w0 w23 ∧ Sep w0.heap.size w23 [R.own ty_3 F17 v16 u15] ∧ F_spec_TimetableText_L1 u15 x1 m y26 y27 = some r) FU ?_ ?_)) a ha)))
  ·
   exact fun a ha => ⟨[], 0, ha.sub ⟨rfl, rfl, rfl, rfl, rfl, trivial⟩, hB20, (hS21.sel [0] rfl), hF⟩
  ·
   rintro m30 a w23 ⟨y26, y27, ha, hB24, hS25, hF⟩ KL29 hKL29
   refine W.at ?_ ha
   cases m30 with
   | zero => exact noneE hF
   | succ m30 =>
    obtain ⟨nx28, hnx28⟩ : ∃ k, k = F_spec_TimetableText_L1 u15 x1 m30 := ⟨_, rfl⟩
    rw [F_spec_TimetableText_L1, ← hnx28] at hF
    refine W.seq fun K31 hK31 => W.region (wl_lss rfl rfl rfl (WL.nil (fun a ha => hK31 _ _ (W.seq fun K32 hK32 => (W.cond rfl (fun h33 => ?_) (fun h33 => ?_))) a ha)))
    ·replace hF := ifP h33 hF
     refine W.skip fun a ha => hK32 _ _ (W.seq fun K34 hK34 => (W.block (W.seq fun K35 hK35 => (W.region (wl_move rfl rfl ?_))))) a ha
     obtain ⟨u36, hu36, hF⟩ := bindE hF
     refine wl_indexo (e := ty_3) (i := 0) Tryd.underlying59 rfl rfl rfl hS25 rfl hu36 ?_
     rintro p37 _ rfl hp38 ho39
     refine wl_load_p (vs := [(.int .i64 u36)]) (v := (.int .i64 u36)) tf_3 rfl rfl hp38 rfl rfl (wl_assign rfl rfl (wl_assign rfl rfl (WL.nil (fun a ha => hK35 _ _ (W.regionH mixed_ [] hB24 hS25 ?_) a ha))))
     intro w40 hb41 hB42 hS43
     have hSW44 := KeepX.refl w40 []
     refine WH.tk 0 rfl hP hSW44 (pr_move rfl rfl (WH.tk 1 rfl hP hSW44 (pr_move rfl rfl (WH.tk 4 rfl hP hSW44 (pr_move rfl rfl (WH.tk 5 rfl hP hSW44 (pr_move rfl rfl ?_)))))))
     obtain ⟨u45, hu45, hF⟩ := bindE hF
     refine WH.tk 6 rfl hP hSW44 (pr_index (e := ty_39) Tryd.underlying30 rfl rfl rfl h1_0 hu45 ?_)
     rintro p46 _ rfl hp47
     refine WH.tk 7 rfl hP hSW44 (pr_fieldp (o := 0) ff_39_0 rfl rfl (WH.tk 8 rfl hP hSW44 (pr_load_p (vs := [(.int .i64 u45.1)]) (v := (.int .i64 u45.1)) tf_3 rfl rfl (EAt.addk (hp47.kx hB42 (by simp)) 0) rfl rfl (WH.tk 12 rfl hP hSW44 (pr_move rfl rfl (WH.tk 13 rfl hP hSW44 (pr_move rfl rfl ?_)))))))
     obtain ⟨u48, hu48, hF⟩ := bindE hF
     refine WH.tk 14 rfl hP hSW44 (pr_index (e := ty_39) Tryd.underlying30 rfl rfl rfl h1_0 hu48 ?_)
     rintro p49 _ rfl hp50
     refine WH.tk 15 rfl hP hSW44 (pr_fieldp (o := 1) ff_39_1 rfl rfl (WH.tk 16 rfl hP hSW44 (pr_load_p (vs := [(.string (mkS u48.2))]) (v := (.string (mkS u48.2))) tf_9 rfl rfl (EAt.addk (hp50.kx hB42 (by simp)) 1) rfl rfl (WH.on1 2 rfl ?_))))
     obtain ⟨u51, hu51, hF⟩ := bindE hF
     refine wl_call rfl Tryd.call35 (C_spec_tiText w40 u36 _ hu51) rfl ?_
     rintro _ w52 ⟨rfl, hb53⟩
     refine ⟨_, rfl, ?_⟩
     have hB54 := hB42.trans (hb53.mono hB42.size)
     have hS55 := hS43.below hb53
     have hSW57 := hSW44.ext hb53
     refine WL.nil (WH.ret hSW57 ?_)
     obtain ⟨u58, hu58, hF⟩ := bindE hF
     refine WH.tk 3 rfl hP hSW57 (pr_stradd rfl rfl rfl hu58 (WH.on1 9 rfl ?_))
     obtain ⟨u59, hu59, hF⟩ := bindE hF
     refine wl_call rfl Tryd.call36 (C_spec_l1Num w52 u45.1 _ hu59) rfl ?_
     rintro _ w60 ⟨rfl, hb61⟩
     refine ⟨_, rfl, ?_⟩
     have hB62 := hB54.trans (hb61.mono hB54.size)
     have hS63 := hS55.below hb61
     have hSW65 := hSW57.ext hb61
     refine WL.nil (WH.ret hSW65 ?_)
     obtain ⟨u66, hu66, hF⟩ := bindE hF
     refine WH.tk 10 rfl hP hSW65 (pr_stradd rfl rfl rfl hu66 ?_)
     obtain ⟨u67, hu67, hF⟩ := bindE hF
     refine WH.tk 11 rfl hP hSW65 (pr_stradd rfl rfl rfl hu67 ?_)
     obtain ⟨u68, hu68, hF⟩ := bindE hF
     refine WH.tk 17 rfl hP hSW65 (pr_stradd rfl rfl rfl hu68 ?_)
     obtain ⟨u69, hu69, hF⟩ := bindE hF
     refine WH.tk 18 rfl hP hSW65 (pr_stradd rfl rfl rfl hu69 ?_)
     obtain ⟨u70, hu70, hF⟩ := bindE hF
     refine WH.tk 19 rfl hP hSW65 (pr_stradd rfl rfl rfl hu70 (WH.tk 20 rfl hP hSW65 (pr_assign rfl rfl (WH.done (by kernel_rfl) (fun a ha => hK34 _ _ (W.region (wl_add rfl rfl rfl (wl_move rfl rfl (WL.nil ?_)))) a ha)))))
     rw [hnx28] at hF
     exact fun a ha => hKL29 a _ m30 (Nat.lt_succ_self m30) ⟨u70, (w64 (y27 + 1)), ha.sub ⟨rfl, rfl, rfl, rfl, rfl, trivial⟩, hB62, (hS63.sel [0] rfl), hF⟩
    ·replace hF := ifN h33 hF
     refine W.exit fun a ha => hK13 _ _ (W.seq fun K71 hK71 => (W.region (wl_move rfl rfl (wl_assign rfl rfl (wl_assign rfl rfl (WL.nil (fun a ha => hK71 _ _ (W.ret ?_) a ha))))))) a ha
     have hr := Option.some.inj hF
     subst hr
     exact rets (vs := [(.string (mkS y26)), (.bool true)]) hQ rfl ⟨rv_tmp rfl, rv_tmp rfl, trivial⟩ ⟨rfl, hB24⟩
theorem C_impl_within (w0 : World) (x0 : Int) (x1 : Int) (x2 : Int) (r : Bool) (hF : F_impl_within x0 x1 x2 = some r) :
  Calls Tryd.prog 65 [(.int .i64 x0), (.int .i64 x1), (.int .i64 x2)].toArray w0 fun e w' => e = .returned (.bool r) ∧ Below w0.heap.size w0 w' := by
 refine calls_mk' Tryd.func65 rfl Tryd.ntmps65 rfl rfl fun Q hQ hP => ?_
 have hB : Below w0.heap.size w0 w0 := Below.refl _ _
 have hS : Sep w0.heap.size w0 [] := Sep.nil _ _
 unfold F_impl_within at hF
 refine W.seq fun K1 hK1 => W.region (wl_assign rfl rfl (WL.nil (fun a ha => hK1 _ _ (W.seq fun K2 hK2 => ?_) a ha)))
 obtain ⟨k7, hk7, hF⟩ := jE1 hF
 have hJ8 : ∀ (y6 : Bool) (w3 : World) (_ : k7 y6 = some r) (_ : Below w0.heap.size w0 w3) (_ : Sep w0.heap.size w3 []), ∀ a, St 15 [(6, (.bool y6))] a → K2 a w3 := by
  intro y6 w3 hF hB4 hS5
  subst hk7
  refine fun a ha => hK2 _ _ (W.ret ?_) a ha
  have hr := Option.some.inj hF
  subst hr
  exact rets (vs := [(.bool y6)]) hQ rfl ⟨rv_tmp rfl, trivial⟩ ⟨rfl, hB4⟩
 refine W.region (wl_move rfl rfl (wl_move rfl rfl (wl_geq rfl rfl rfl (wl_move rfl rfl ?_))))
 rcases bE (decide (x1 ≤ x0)) with h9 | h9
 ·replace hF := ifP h9 hF
  refine wl_on rfl rfl h9 (wl_move rfl rfl (wl_on rfl rfl h9 (wl_move rfl rfl (wl_on rfl rfl h9 (wl_leq rfl rfl rfl (wl_pick_t rfl rfl h9 rfl (wl_assign rfl rfl (WL.nil ?_))))))))
  exact fun a ha => hJ8 ((decide (x0 ≤ x2))) _ hF hB (hS.sel [] rfl) a (ha.sub ⟨rfl, trivial⟩)
 ·replace hF := ifN h9 hF
  refine wl_off rfl rfl rfl h9 (wl_off rfl rfl rfl h9 (wl_off rfl rfl rfl h9 (wl_pick_f rfl rfl h9 rfl (wl_assign rfl rfl (WL.nil ?_)))))
  exact fun a ha => hJ8 (false) _ hF hB (hS.sel [] rfl) a (ha.sub ⟨rfl, trivial⟩)
theorem C_impl_IsMusic (w0 : World) (x0 : (List (Int × Int))) (v0_0 : Value) (h0_0 : rdS ty_63 (· < w0.heap.size) w0 v0_0 x0) (r : Bool) (hF : F_impl_IsMusic x0 = some r) :
  Calls Tryd.prog 62 [v0_0].toArray w0 fun e w' => e = .returned (.bool r) ∧ Below w0.heap.size w0 w' := by
 refine calls_mk' Tryd.func62 rfl Tryd.ntmps62 rfl rfl fun Q hQ hP => ?_
 have hB : Below w0.heap.size w0 w0 := Below.refl _ _
 have hS : Sep w0.heap.size w0 [] := Sep.nil _ _
 unfold F_impl_IsMusic at hF
 refine W.seq fun K1 hK1 => W.region (wl_assign rfl rfl (WL.nil (fun a ha => hK1 _ _ (W.seq fun K2 hK2 => (W.seq fun K3 hK3 => (W.region (wl_move rfl rfl (wl_lenr (e := ty_63) (l := x0) Tryd.underlying28 rfl rfl h0_0 (wl_move rfl rfl (WL.nil (fun a ha => hK3 _ _ (W.block ?_) a ha)))))))) a ha)))
 refine W.loopk (fun m a w4 => ∃ (y7 : Int), St 25 [(0, v0_0), (5, v0_0), (6, (.int .i64 (List.length x0 : Int))), (7, (.int .i64 y7))] a ∧ Below w0.heap.size w0 w4 ∧ Sep w0.heap.size w4 [] ∧ F_impl_IsMusic_L1 x0 m y7 = some r) FU ?_ ?_
 ·
  exact fun a ha => ⟨0, ha.sub ⟨rfl, rfl, rfl, rfl, trivial⟩, hB, (hS.sel [] rfl), hF⟩
 ·
  rintro m10 a w4 ⟨y7, ha, hB5, hS6, hF⟩ KL9 hKL9
  refine W.at ?_ ha
  cases m10 with
  | zero => exact noneE hF
  | succ m10 =>
   obtain ⟨nx8, hnx8⟩ : ∃ k, k = F_impl_IsMusic_L1 x0 m10 := ⟨_, rfl⟩
   rw [F_impl_IsMusic_L1, ← hnx8] at hF
   refine W.seq fun K11 hK11 => W.region (wl_lss rfl rfl rfl (WL.nil (fun a ha => hK11 _ _ (W.seq fun K12 hK12 => (W.cond rfl (fun h13 => ?_) (fun h13 => ?_))) a ha)))
   ·replace hF := ifP h13 hF
    refine W.skip fun a ha => hK12 _ _ (W.seq fun K14 hK14 => (W.block (W.seq fun K15 hK15 => (W.region ?_)))) a ha
    obtain ⟨u16, hu16, hF⟩ := bindE hF
    refine wl_index (e := ty_63) Tryd.underlying28 rfl rfl rfl h0_0 hu16 ?_
    rintro p17 _ rfl hp18
    refine wl_load_p (vs := [(.int .i64 u16.1), (.int .i64 u16.2)]) (v := (.agg #[(.int .i64 u16.1), (.int .i64 u16.2)])) tf_63 rfl rfl (hp18.ro hB5) rfl rfl (wl_alloc (cs := [(.int .i64 0), (.int .i64 0)]) tf_63 rfl rfl hB5 hS6 ?_)
    intro b19 w20 hb21 hB22 hS23
    refine wl_store_blk (i := 0) (vs := [(.int .i64 u16.1), (.int .i64 u16.2)]) (cs' := [(.int .i64 u16.1), (.int .i64 u16.2)]) tf_63 rfl rfl rfl rfl hB22 hS23 rfl rfl ⟨rfl, rfl, trivial⟩ rfl ?_
    intro w24 hk27 hB25 hS26
    refine WL.nil fun a ha => hK15 _ _ (W.seq fun K28 hK28 => ?_) a ha
    obtain ⟨k33, hk33, hF⟩ := jE1 hF
    have hJ34 : ∀ (y32 : Bool) (w29 : World) (_ : k33 y32 = some r) (_ : Below w0.heap.size w0 w29) (_ : Sep w0.heap.size w29 []), ∀ a, St 25 [(0, v0_0), (5, v0_0), (6, (.int .i64 (List.length x0 : Int))), (7, (.int .i64 y7)), (20, (.bool y32))] a → K28 a w29 := by
     intro y32 w29 hF hB30 hS31
     subst hk33
     refine fun a ha => hK28 _ _ (W.cond rfl (fun h35 => ?_) (fun h35 => ?_)) a ha
     ·replace hF := ifP h35 hF
      refine W.seq fun K36 hK36 => W.region (wl_assign rfl rfl (WL.nil (fun a ha => hK36 _ _ (W.ret ?_) a ha)))
      have hr := Option.some.inj hF
      subst hr
      exact rets (vs := [(.bool false)]) hQ rfl ⟨rv_tmp rfl, trivial⟩ ⟨rfl, hB30⟩
     ·replace hF := ifN h35 hF
      refine W.skip fun a ha => hK14 _ _ (W.region (wl_add rfl rfl rfl (wl_move rfl rfl (WL.nil ?_)))) a ha
      rw [hnx8] at hF
      exact fun a ha => hKL9 a _ m10 (Nat.lt_succ_self m10) ⟨(w64 (y7 + 1)), ha.sub ⟨rfl, rfl, rfl, rfl, trivial⟩, hB30, (hS31.sel [] rfl), hF⟩
    refine W.region (wl_field (o := 0) (off' := 0) ff_63_0 rfl rfl rfl (wl_load_blk (i := 0) (vs := [(.int .i64 u16.1)]) (v := (.int .i64 u16.1)) tf_3 rfl rfl hS26 rfl rfl rfl ?_))
    obtain ⟨u37, hu37, hF⟩ := bindE hF
    refine wl_call rfl Tryd.call65 (C_impl_within w24 u16.1 1 12 _ hu37) rfl ?_
    rintro _ w38 ⟨rfl, hb39⟩
    refine ⟨_, rfl, ?_⟩
    have hB40 := hB25.trans (hb39.mono hB25.size)
    have hS41 := hS26.below hb39
    refine wl_not rfl rfl (wl_move rfl rfl ?_)
    rcases bE (!u37) with h43 | h43
    ·replace hF := ifP h43 hF
     refine wl_off rfl rfl rfl h43 (wl_off rfl rfl rfl h43 (wl_off rfl rfl rfl h43 (wl_off rfl rfl rfl h43 (wl_pick_t rfl rfl h43 rfl (WL.nil ?_)))))
     exact fun a ha => hJ34 (true) _ hF hB40 (hS41.sel [] rfl) a (ha.sub ⟨rfl, rfl, rfl, rfl, rfl, trivial⟩)
    ·replace hF := ifN h43 hF
     refine wl_on rfl rfl h43 (wl_field (o := 1) (off' := 1) ff_63_1 rfl rfl rfl (wl_on rfl rfl h43 (wl_load_blk (i := 0) (vs := [(.int .i64 u16.2)]) (v := (.int .i64 u16.2)) tf_3 rfl rfl hS41 rfl rfl rfl (wl_on rfl rfl h43 ?_))))
     obtain ⟨u44, hu44, hF⟩ := bindE hF
     refine wl_call rfl Tryd.call65 (C_impl_within w38 u16.2 40 220 _ hu44) rfl ?_
     rintro _ w45 ⟨rfl, hb46⟩
     refine ⟨_, rfl, ?_⟩
     have hB47 := hB40.trans (hb46.mono hB40.size)
     have hS48 := hS41.below hb46
     refine wl_on rfl rfl h43 (wl_not rfl rfl (wl_pick_f rfl rfl h43 rfl (WL.nil ?_)))
     exact fun a ha => hJ34 ((!u44)) _ hF hB47 (hS48.sel [] rfl) a (ha.sub ⟨rfl, rfl, rfl, rfl, rfl, trivial⟩)
   ·replace hF := ifN h13 hF
    refine W.exit fun a ha => hK2 _ _ (W.seq fun K50 hK50 => (W.region (wl_move rfl rfl (wl_lenr (e := ty_63) (l := x0) Tryd.underlying28 rfl rfl h0_0 ?_)))) a ha
    obtain ⟨u51, hu51, hF⟩ := bindE hF
    refine wl_call rfl Tryd.call65 (C_impl_within w4 (List.length x0 : Int) 1 40 _ hu51) rfl ?_
    rintro _ w52 ⟨rfl, hb53⟩
    refine ⟨_, rfl, ?_⟩
    have hB54 := hB5.trans (hb53.mono hB5.size)
    refine wl_assign rfl rfl (WL.nil (fun a ha => hK50 _ _ (W.ret ?_) a ha))
    have hr := Option.some.inj hF
    subst hr
    exact rets (vs := [(.bool u51)]) hQ rfl ⟨rv_tmp rfl, trivial⟩ ⟨rfl, hB54⟩
theorem C_impl_countsOf (w0 : World) (x0 : (List (Int × Int))) (v0_0 : Value) (h0_0 : rdS ty_63 (· < w0.heap.size) w0 v0_0 x0) (r : Int) (hF : F_impl_countsOf x0 = some r) :
  Calls Tryd.prog 57 [v0_0].toArray w0 fun e w' => e = .returned (.int .i64 r) ∧ Below w0.heap.size w0 w' := by
 refine calls_mk' Tryd.func57 rfl Tryd.ntmps57 rfl rfl fun Q hQ hP => ?_
 have hB : Below w0.heap.size w0 w0 := Below.refl _ _
 have hS : Sep w0.heap.size w0 [] := Sep.nil _ _
 unfold F_impl_countsOf at hF
 refine W.seq fun K1 hK1 => W.region (wl_assign rfl rfl (WL.nil (fun a ha => hK1 _ _ (W.seq fun K2 hK2 => (W.region (wl_assign rfl rfl (WL.nil (fun a ha => hK2 _ _ (W.seq fun K3 hK3 => (W.seq fun K4 hK4 => (W.region (wl_move rfl rfl ?_)))) a ha))))) a ha)))
 refine wl_lenr (e := ty_63) (l := x0) Tryd.underlying28 rfl rfl h0_0 (wl_move rfl rfl (WL.nil (fun a ha => hK4 _ _ (W.block (W.loopk (fun m a w5 => ∃ (y8 : Int) (y9 : Int), St 18 [(3, (.int .i64 y8)), (6, v0_0), (7, (.int .i64 (List.length x0 : Int))), (8, (.int .i64 y9))] a ∧ Below w0.heap.size w0 w5 ∧ Sep w0.heap.size w5 [] ∧ F_impl_countsOf_L1 x0 m y8 y9 = some r) FU ?_ ?_)) a ha)))
 ·
  exact fun a ha => ⟨0, 0, ha.sub ⟨rfl, rfl, rfl, rfl, trivial⟩, hB, (hS.sel [] rfl), hF⟩
 ·
  rintro m12 a w5 ⟨y8, y9, ha, hB6, hS7, hF⟩ KL11 hKL11
  refine W.at ?_ ha
  cases m12 with
  | zero => exact noneE hF
  | succ m12 =>
   obtain ⟨nx10, hnx10⟩ : ∃ k, k = F_impl_countsOf_L1 x0 m12 := ⟨_, rfl⟩
   rw [F_impl_countsOf_L1, ← hnx10] at hF
   refine W.seq fun K13 hK13 => W.region (wl_lss rfl rfl rfl (WL.nil (fun a ha => hK13 _ _ (W.seq fun K14 hK14 => (W.cond rfl (fun h15 => ?_) (fun h15 => ?_))) a ha)))
   ·replace hF := ifP h15 hF
    refine W.skip fun a ha => hK14 _ _ (W.seq fun K16 hK16 => (W.block (W.seq fun K17 hK17 => (W.region ?_)))) a ha
    obtain ⟨u18, hu18, hF⟩ := bindE hF
    refine wl_index (e := ty_63) Tryd.underlying28 rfl rfl rfl h0_0 hu18 ?_
    rintro p19 _ rfl hp20
    refine wl_load_p (vs := [(.int .i64 u18.1), (.int .i64 u18.2)]) (v := (.agg #[(.int .i64 u18.1), (.int .i64 u18.2)])) tf_63 rfl rfl (hp20.ro hB6) rfl rfl (wl_alloc (cs := [(.int .i64 0), (.int .i64 0)]) tf_63 rfl rfl hB6 hS7 ?_)
    intro b21 w22 hb23 hB24 hS25
    refine wl_store_blk (i := 0) (vs := [(.int .i64 u18.1), (.int .i64 u18.2)]) (cs' := [(.int .i64 u18.1), (.int .i64 u18.2)]) tf_63 rfl rfl rfl rfl hB24 hS25 rfl rfl ⟨rfl, rfl, trivial⟩ rfl ?_
    intro w26 hk29 hB27 hS28
    refine WL.nil fun a ha => hK17 _ _ (W.region (wl_move rfl rfl (wl_field (o := 0) (off' := 0) ff_63_0 rfl rfl rfl (wl_load_blk (i := 0) (vs := [(.int .i64 u18.1)]) (v := (.int .i64 u18.1)) tf_3 rfl rfl hS28 rfl rfl rfl (wl_add rfl rfl rfl (wl_assign rfl rfl (WL.nil (fun a ha => hK16 _ _ (W.region (wl_add rfl rfl rfl (wl_move rfl rfl (WL.nil ?_)))) a ha)))))))) a ha
    rw [hnx10] at hF
    exact fun a ha => hKL11 a _ m12 (Nat.lt_succ_self m12) ⟨(w64 (y8 + u18.1)), (w64 (y9 + 1)), ha.sub ⟨rfl, rfl, rfl, rfl, trivial⟩, hB27, (hS28.sel [] rfl), hF⟩
   ·replace hF := ifN h15 hF
    refine W.exit fun a ha => hK3 _ _ (W.seq fun K30 hK30 => (W.region (wl_move rfl rfl (wl_assign rfl rfl (WL.nil (fun a ha => hK30 _ _ (W.ret ?_) a ha)))))) a ha
    have hr := Option.some.inj hF
    subst hr
    exact rets (vs := [(.int .i64 y8)]) hQ rfl ⟨rv_tmp rfl, trivial⟩ ⟨rfl, hB6⟩
theorem C_impl_isName (w0 : World) (x0 : (List UInt8)) (r : Bool) (hF : F_impl_isName x0 = some r) :
  Calls Tryd.prog 76 [(.string (mkS x0))].toArray w0 fun e w' => e = .returned (.bool r) ∧ Below w0.heap.size w0 w' := by
 refine calls_mk' Tryd.func76 rfl Tryd.ntmps76 rfl rfl fun Q hQ hP => ?_
 have hB : Below w0.heap.size w0 w0 := Below.refl _ _
 have hS : Sep w0.heap.size w0 [] := Sep.nil _ _
 unfold F_impl_isName at hF
 refine W.seq fun K1 hK1 => W.region (wl_assign rfl rfl (WL.nil (fun a ha => hK1 _ _ (W.seq fun K2 hK2 => (W.seq fun K3 hK3 => (W.region (wl_assign rfl rfl (WL.nil (fun a ha => hK3 _ _ (W.block (W.loopk (fun m a w4 => ∃ (y7 : Int), St 23 [(0, (.string (mkS x0))), (3, (.int .i64 y7))] a ∧ Below w0.heap.size w0 w4 ∧ Sep w0.heap.size w4 [] ∧ F_impl_isName_L1 x0 m y7 = some r) FU ?_ ?_)) a ha)))))) a ha)))
 ·
  exact fun a ha => ⟨0, ha.sub ⟨rfl, rfl, trivial⟩, hB, (hS.sel [] rfl), hF⟩
 ·
  rintro m10 a w4 ⟨y7, ha, hB5, hS6, hF⟩ KL9 hKL9
  refine W.at ?_ ha
  cases m10 with
  | zero => exact noneE hF
  | succ m10 =>
   obtain ⟨nx8, hnx8⟩ : ∃ k, k = F_impl_isName_L1 x0 m10 := ⟨_, rfl⟩
   rw [F_impl_isName_L1, ← hnx8] at hF
   refine W.seq fun K11 hK11 => W.seq fun K12 hK12 => W.region (wl_move rfl rfl (wl_move rfl rfl (wl_strlen Tryd.underlying9 rfl rfl (wl_lss rfl rfl rfl (WL.nil (fun a ha => hK12 _ _ (W.cond rfl (fun h13 => ?_) (fun h13 => ?_)) a ha))))))
   ·replace hF := ifP h13 hF
    refine W.skip fun a ha => hK11 _ _ (W.seq fun K14 hK14 => (W.block (W.seq fun K15 hK15 => ?_))) a ha
    obtain ⟨k20, hk20, hF⟩ := jE1 hF
    have hJ21 : ∀ (y19 : Bool) (w16 : World) (_ : k20 y19 = some r) (_ : Below w0.heap.size w0 w16) (_ : Sep w0.heap.size w16 []), ∀ a, St 23 [(0, (.string (mkS x0))), (3, (.int .i64 y7)), (19, (.bool y19))] a → K15 a w16 := by
     intro y19 w16 hF hB17 hS18
     subst hk20
     refine fun a ha => hK15 _ _ (W.cond rfl (fun h22 => ?_) (fun h22 => ?_)) a ha
     ·replace hF := ifP h22 hF
      refine W.seq fun K23 hK23 => W.region (wl_assign rfl rfl (WL.nil (fun a ha => hK23 _ _ (W.ret ?_) a ha)))
      have hr := Option.some.inj hF
      subst hr
      exact rets (vs := [(.bool false)]) hQ rfl ⟨rv_tmp rfl, trivial⟩ ⟨rfl, hB17⟩
     ·replace hF := ifN h22 hF
      refine W.skip fun a ha => hK14 _ _ (W.region (wl_move rfl rfl (wl_add rfl rfl rfl (wl_assign rfl rfl (WL.nil ?_))))) a ha
      rw [hnx8] at hF
      exact fun a ha => hKL9 a _ m10 (Nat.lt_succ_self m10) ⟨(w64 (y7 + 1)), ha.sub ⟨rfl, rfl, trivial⟩, hB17, (hS18.sel [] rfl), hF⟩
    refine W.region (wl_move rfl rfl (wl_move rfl rfl ?_))
    obtain ⟨u24, hu24, hF⟩ := bindE hF
    refine wl_strindex Tryd.underlying9 rfl rfl rfl hu24 (wl_lss rfl rfl rfl (wl_move rfl rfl ?_))
    rcases bE (decide ((UInt8.toNat u24 : Int) < 97)) with h25 | h25
    ·replace hF := ifP h25 hF
     refine wl_off rfl rfl rfl h25 (wl_off rfl rfl rfl h25 (wl_off rfl rfl rfl h25 (wl_off rfl rfl rfl h25 (wl_pick_t rfl rfl h25 rfl (WL.nil ?_)))))
     exact fun a ha => hJ21 (true) _ hF hB5 (hS6.sel [] rfl) a (ha.sub ⟨rfl, rfl, rfl, trivial⟩)
    ·replace hF := ifN h25 hF
     refine wl_on rfl rfl h25 (wl_move rfl rfl (wl_on rfl rfl h25 (wl_move rfl rfl (wl_on rfl rfl h25 ?_))))
     obtain ⟨u26, hu26, hF⟩ := bindE hF
     refine wl_strindex Tryd.underlying9 rfl rfl rfl hu26 (wl_on rfl rfl h25 (wl_gtr rfl rfl rfl (wl_pick_f rfl rfl h25 rfl (WL.nil ?_))))
     exact fun a ha => hJ21 ((decide (122 < (UInt8.toNat u26 : Int)))) _ hF hB5 (hS6.sel [] rfl) a (ha.sub ⟨rfl, rfl, rfl, trivial⟩)
   ·replace hF := ifN h13 hF
    refine W.exit fun a ha => hK2 _ _ (W.seq fun K27 hK27 => (W.region (wl_move rfl rfl (wl_strlen Tryd.underlying9 rfl rfl ?_)))) a ha
    obtain ⟨u28, hu28, hF⟩ := bindE hF
    refine wl_call rfl Tryd.call65 (C_impl_within w4 (List.length x0 : Int) 1 12 _ hu28) rfl ?_
    rintro _ w29 ⟨rfl, hb30⟩
    refine ⟨_, rfl, ?_⟩
    have hB31 := hB5.trans (hb30.mono hB5.size)
    refine wl_assign rfl rfl (WL.nil (fun a ha => hK27 _ _ (W.ret ?_) a ha))
    have hr := Option.some.inj hF
    subst hr
    exact rets (vs := [(.bool u28)]) hQ rfl ⟨rv_tmp rfl, trivial⟩ ⟨rfl, hB31⟩
theorem C_impl_areCues_1 (w0 : World) (x0 : (Int × (List UInt8))) (y1 : (Int × (List UInt8))) (p1 : Addr) (hp1 : EAt (· < w0.heap.size) w0 p1 [(.int .i64 y1.1), (.string (mkS y1.2))]) (r : Bool) (hF : F_impl_areCues_1 x0 y1 = some r) :
  Calls Tryd.prog 78 [(.agg #[(.int .i64 x0.1), (.string (mkS x0.2))]), (.pointer (some p1))].toArray w0 fun e w' => e = .returned (.bool r) ∧ Below w0.heap.size w0 w' := by
 refine calls_mk' Tryd.func78 rfl Tryd.ntmps78 rfl rfl fun Q hQ hP => ?_
 have hB : Below w0.heap.size w0 w0 := Below.refl _ _
 have hS : Sep w0.heap.size w0 [] := Sep.nil _ _
 unfold F_impl_areCues_1 at hF
 refine W.seq fun K1 hK1 => W.region (wl_box (cs := [(.int .i64 x0.1), (.string (mkS x0.2))]) rfl rfl rfl hB hS ?_)
 intro b2 w3 hb4 hB5 hS6
 refine wl_assign rfl rfl (WL.nil (fun a ha => hK1 _ _ (W.seq fun K7 hK7 => (W.region (wl_field (o := 1) (off' := 1) ff_39_1 rfl rfl rfl (wl_load_blk (i := 0) (vs := [(.string (mkS x0.2))]) (v := (.string (mkS x0.2))) tf_9 rfl rfl hS6 rfl rfl rfl (wl_fieldp (o := 1) ff_39_1 rfl rfl (wl_load_p (vs := [(.string (mkS y1.2))]) (v := (.string (mkS y1.2))) tf_9 rfl rfl ((hp1.ro hB5).add 1) rfl rfl (wl_streql rfl rfl rfl (wl_assign rfl rfl (WL.nil (fun a ha => hK7 _ _ (W.ret ?_) a ha)))))))))) a ha))
 have hr := Option.some.inj hF
 subst hr
 exact rets (vs := [(.bool (x0.2 == y1.2))]) hQ rfl ⟨rv_tmp rfl, trivial⟩ ⟨rfl, hB5⟩
theorem C_slices_IndexFunc_impl_Cue_impl_Cue__impl_areCues_1 (w0 : World) (x0 : (List (Int × (List UInt8)))) (v0_0 : Value) (h0_0 : rdS ty_39 (· < w0.heap.size) w0 v0_0 x0) (y1_0 : (Int × (List UInt8))) (p1_0 : Addr) (hp1_0 : EAt (· < w0.heap.size) w0 p1_0 [(.int .i64 y1_0.1), (.string (mkS y1_0.2))]) (r : Int) (hF : F_slices_IndexFunc_impl_Cue_impl_Cue__impl_areCues_1 x0 y1_0 = some r) :
  Calls Tryd.prog 86 [v0_0, (.func (.func 78) #[] #[(.pointer (some p1_0))])].toArray w0 fun e w' => e = .returned (.int .i64 r) ∧ Below w0.heap.size w0 w' := by
 refine calls_mk' Tryd.func86 rfl Tryd.ntmps86 rfl rfl fun Q hQ hP => ?_
 have hB : Below w0.heap.size w0 w0 := Below.refl _ _
 have hS : Sep w0.heap.size w0 [] := Sep.nil _ _
 unfold F_slices_IndexFunc_impl_Cue_impl_Cue__impl_areCues_1 at hF
 refine W.seq fun K1 hK1 => W.region (wl_assign rfl rfl (WL.nil (fun a ha => hK1 _ _ (W.seq fun K2 hK2 => (W.seq fun K3 hK3 => (W.region (wl_move rfl rfl (wl_lenr (e := ty_39) (l := x0) Tryd.underlying30 rfl rfl h0_0 (wl_move rfl rfl (WL.nil (fun a ha => hK3 _ _ (W.block ?_) a ha)))))))) a ha)))
 refine W.loopk (fun m a w4 => ∃ (y7 : Int), St 19 [(0, v0_0), (1, (.func (.func 78) #[] #[(.pointer (some p1_0))])), (7, (.int .i64 (List.length x0 : Int))), (8, (.int .i64 y7))] a ∧ Below w0.heap.size w0 w4 ∧ Sep w0.heap.size w4 [] ∧ F_slices_IndexFunc_impl_Cue_impl_Cue__impl_areCues_1_L1 x0 y1_0 m y7 = some r) FU ?_ ?_
 ·
  exact fun a ha => ⟨0, ha.sub ⟨rfl, rfl, rfl, rfl, trivial⟩, hB, (hS.sel [] rfl), hF⟩
 ·
  rintro m10 a w4 ⟨y7, ha, hB5, hS6, hF⟩ KL9 hKL9
  refine W.at ?_ ha
  cases m10 with
  | zero => exact noneE hF
  | succ m10 =>
   obtain ⟨nx8, hnx8⟩ : ∃ k, k = F_slices_IndexFunc_impl_Cue_impl_Cue__impl_areCues_1_L1 x0 y1_0 m10 := ⟨_, rfl⟩
   rw [F_slices_IndexFunc_impl_Cue_impl_Cue__impl_areCues_1_L1, ← hnx8] at hF
   refine W.seq fun K11 hK11 => W.region (wl_lss rfl rfl rfl (WL.nil (fun a ha => hK11 _ _ (W.seq fun K12 hK12 => (W.cond rfl (fun h13 => ?_) (fun h13 => ?_))) a ha)))
   ·replace hF := ifP h13 hF
    refine W.skip fun a ha => hK12 _ _ (W.seq fun K14 hK14 => (W.block (W.seq fun K15 hK15 => (W.region (wl_move rfl rfl (wl_assign rfl rfl (WL.nil (fun a ha => hK15 _ _ (W.seq fun K16 hK16 => (W.region (wl_move rfl rfl (wl_move rfl rfl ?_)))) a ha)))))))) a ha
    refine wl_move rfl rfl ?_
    obtain ⟨u17, hu17, hF⟩ := bindE hF
    refine wl_index (e := ty_39) Tryd.underlying30 rfl rfl rfl h0_0 hu17 ?_
    rintro p18 _ rfl hp19
    refine wl_load_p (vs := [(.int .i64 u17.1), (.string (mkS u17.2))]) (v := (.agg #[(.int .i64 u17.1), (.string (mkS u17.2))])) tf_39 rfl rfl (hp19.ro hB5) rfl rfl ?_
    obtain ⟨u20, hu20, hF⟩ := bindE hF
    refine wl_callv (caps := [(.pointer (some p1_0))]) (vs := [(.agg #[(.int .i64 u17.1), (.string (mkS u17.2))])]) rfl rfl Tryd.call78 (C_impl_areCues_1 w4 u17 y1_0 p1_0 (hp1_0.ro hB5) _ hu20) rfl ?_
    rintro _ w21 ⟨rfl, hb22⟩
    refine ⟨_, rfl, ?_⟩
    have hB23 := hB5.trans (hb22.mono hB5.size)
    have hS24 := hS6.below hb22
    refine WL.nil fun a ha => hK16 _ _ (W.cond rfl (fun h26 => ?_) (fun h26 => ?_)) a ha
    ·replace hF := ifP h26 hF
     refine W.seq fun K27 hK27 => W.region (wl_move rfl rfl (wl_assign rfl rfl (WL.nil (fun a ha => hK27 _ _ (W.ret ?_) a ha))))
     have hr := Option.some.inj hF
     subst hr
     exact rets (vs := [(.int .i64 y7)]) hQ rfl ⟨rv_tmp rfl, trivial⟩ ⟨rfl, hB23⟩
    ·replace hF := ifN h26 hF
     refine W.skip fun a ha => hK14 _ _ (W.region (wl_add rfl rfl rfl (wl_move rfl rfl (WL.nil ?_)))) a ha
     rw [hnx8] at hF
     exact fun a ha => hKL9 a _ m10 (Nat.lt_succ_self m10) ⟨(w64 (y7 + 1)), ha.sub ⟨rfl, rfl, rfl, rfl, trivial⟩, hB23, (hS24.sel [] rfl), hF⟩
   ·replace hF := ifN h13 hF
    refine W.exit fun a ha => hK2 _ _ (W.seq fun K28 hK28 => (W.region (wl_assign rfl rfl (WL.nil (fun a ha => hK28 _ _ (W.ret ?_) a ha))))) a ha
    have hr := Option.some.inj hF
    subst hr
    exact rets (vs := [(.int .i64 (-1))]) hQ rfl ⟨rv_tmp rfl, trivial⟩ ⟨rfl, hB5⟩
theorem C_slices_ContainsFunc_impl_Cue_impl_Cue__impl_areCues_1 (w0 : World) (x0 : (List (Int × (List UInt8)))) (v0_0 : Value) (h0_0 : rdS ty_39 (· < w0.heap.size) w0 v0_0 x0) (y1_0 : (Int × (List UInt8))) (p1_0 : Addr) (hp1_0 : EAt (· < w0.heap.size) w0 p1_0 [(.int .i64 y1_0.1), (.string (mkS y1_0.2))]) (r : Bool) (hF : F_slices_ContainsFunc_impl_Cue_impl_Cue__impl_areCues_1 x0 y1_0 = some r) :
  Calls Tryd.prog 77 [v0_0, (.func (.func 78) #[] #[(.pointer (some p1_0))])].toArray w0 fun e w' => e = .returned (.bool r) ∧ Below w0.heap.size w0 w' := by
 refine calls_mk' Tryd.func77 rfl Tryd.ntmps77 rfl rfl fun Q hQ hP => ?_
 have hB : Below w0.heap.size w0 w0 := Below.refl _ _
 unfold F_slices_ContainsFunc_impl_Cue_impl_Cue__impl_areCues_1 at hF
 refine W.seq fun K1 hK1 => W.region (wl_assign rfl rfl (WL.nil (fun a ha => hK1 _ _ (W.seq fun K2 hK2 => (W.region (wl_move rfl rfl (wl_move rfl rfl ?_)))) a ha)))
 obtain ⟨u3, hu3, hF⟩ := bindE hF
 refine wl_call rfl Tryd.call86 (C_slices_IndexFunc_impl_Cue_impl_Cue__impl_areCues_1 w0 x0 v0_0 (h0_0.ro hB) y1_0 p1_0 (hp1_0.ro hB) _ hu3) rfl ?_
 rintro _ w4 ⟨rfl, hb5⟩
 refine ⟨_, rfl, ?_⟩
 have hB6 := hB.trans (hb5.mono hB.size)
 refine wl_geq rfl rfl rfl (wl_assign rfl rfl (WL.nil (fun a ha => hK2 _ _ (W.ret ?_) a ha)))
 have hr := Option.some.inj hF
 subst hr
 exact rets (vs := [(.bool (decide (0 ≤ u3)))]) hQ rfl ⟨rv_tmp rfl, trivial⟩ ⟨rfl, hB6⟩
theorem C_impl_areCues (w0 : World) (x0 : (List (Int × Int))) (v0_0 : Value) (h0_0 : rdS ty_63 (· < w0.heap.size) w0 v0_0 x0) (x1 : (List (Int × (List UInt8)))) (v1_0 : Value) (h1_0 : rdS ty_39 (· < w0.heap.size) w0 v1_0 x1) (r : Bool) (hF : F_impl_areCues x0 x1 = some r) :
  Calls Tryd.prog 50 [v0_0, v1_0].toArray w0 fun e w' => e = .returned (.bool r) ∧ Below w0.heap.size w0 w' := by
 refine calls_mk' Tryd.func50 rfl Tryd.ntmps50 rfl rfl fun Q hQ hP => ?_
 have hB : Below w0.heap.size w0 w0 := Below.refl _ _
 have hS : Sep w0.heap.size w0 [] := Sep.nil _ _
 unfold F_impl_areCues at hF
 refine W.seq fun K1 hK1 => W.region (wl_assign rfl rfl (WL.nil (fun a ha => hK1 _ _ (W.seq fun K2 hK2 => (W.seq fun K3 hK3 => (W.region (wl_move rfl rfl (wl_lenr (e := ty_39) (l := x1) Tryd.underlying30 rfl rfl h1_0 (wl_gtr rfl rfl rfl (WL.nil (fun a ha => hK3 _ _ (W.cond rfl (fun h4 => ?_) (fun h4 => ?_)) a ha)))))))) a ha)))
 ·replace hF := ifP h4 hF
  refine W.seq fun K5 hK5 => W.region (wl_assign rfl rfl (WL.nil (fun a ha => hK5 _ _ (W.ret ?_) a ha)))
  have hr := Option.some.inj hF
  subst hr
  exact rets (vs := [(.bool false)]) hQ rfl ⟨rv_tmp rfl, trivial⟩ ⟨rfl, hB⟩
 ·replace hF := ifN h4 hF
  refine W.skip fun a ha => hK2 _ _ (W.seq fun K6 hK6 => (W.region (wl_move rfl rfl ?_))) a ha
  obtain ⟨u7, hu7, hF⟩ := bindE hF
  refine wl_call rfl Tryd.call57 (C_impl_countsOf w0 x0 v0_0 (h0_0.ro hB) _ hu7) rfl ?_
  rintro _ w8 ⟨rfl, hb9⟩
  refine ⟨_, rfl, ?_⟩
  have hB10 := hB.trans (hb9.mono hB.size)
  have hS11 := hS.below hb9
  refine wl_assign rfl rfl (WL.nil (fun a ha => hK6 _ _ (W.seq fun K13 hK13 => (W.seq fun K14 hK14 => (W.region (wl_move rfl rfl (wl_lenr (e := ty_39) (l := x1) Tryd.underlying30 rfl rfl h1_0 (wl_move rfl rfl (WL.nil (fun a ha => hK14 _ _ (W.block (W.loopk (fun m a w15 => ∃ (y18 : Int), St 59 [(1, v1_0), (5, (.int .i64 u7)), (13, v1_0), (14, (.int .i64 (List.length x1 : Int))), (15, (.int .i64 y18))] a ∧ Below w0.heap.size w0 w15 ∧ Sep w0.heap.size w15 [] ∧ F_impl_areCues_L1 x1 u7 m y18 = some r) FU ?_ ?_)) a ha)))))))) a ha))
  ·
   exact fun a ha => ⟨0, ha.sub ⟨rfl, rfl, rfl, rfl, rfl, trivial⟩, hB10, (hS11.sel [] rfl), hF⟩
  ·
   rintro m21 a w15 ⟨y18, ha, hB16, hS17, hF⟩ KL20 hKL20
   refine W.at ?_ ha
   cases m21 with
   | zero => exact noneE hF
   | succ m21 =>
    obtain ⟨nx19, hnx19⟩ : ∃ k, k = F_impl_areCues_L1 x1 u7 m21 := ⟨_, rfl⟩
    rw [F_impl_areCues_L1, ← hnx19] at hF
    refine W.seq fun K22 hK22 => W.region (wl_lss rfl rfl rfl (WL.nil (fun a ha => hK22 _ _ (W.seq fun K23 hK23 => (W.cond rfl (fun h24 => ?_) (fun h24 => ?_))) a ha)))
    ·replace hF := ifP h24 hF
     refine W.skip fun a ha => hK23 _ _ (W.seq fun K25 hK25 => (W.block (W.seq fun K26 hK26 => (W.region (wl_move rfl rfl ?_))))) a ha
     obtain ⟨u27, hu27, hF⟩ := bindE hF
     refine wl_index (e := ty_39) Tryd.underlying30 rfl rfl rfl h1_0 hu27 ?_
     rintro p28 _ rfl hp29
     refine wl_load_p (vs := [(.int .i64 u27.1), (.string (mkS u27.2))]) (v := (.agg #[(.int .i64 u27.1), (.string (mkS u27.2))])) tf_39 rfl rfl (hp29.ro hB16) rfl rfl (wl_alloc (cs := [(.int .i64 0), (.string (mkS []))]) tf_39 rfl rfl hB16 hS17 ?_)
     intro b30 w31 hb32 hB33 hS34
     refine wl_assign rfl rfl (wl_store_blk (i := 0) (vs := [(.int .i64 u27.1), (.string (mkS u27.2))]) (cs' := [(.int .i64 u27.1), (.string (mkS u27.2))]) tf_39 rfl rfl rfl rfl hB33 hS34 rfl rfl ⟨rfl, rfl, trivial⟩ rfl ?_)
     intro w35 hk38 hB36 hS37
     refine WL.nil fun a ha => hK26 _ _ (W.seq fun K39 hK39 => (W.seq fun K40 hK40 => ?_)) a ha
     obtain ⟨k45, hk45, hF⟩ := jE1 hF
     have hJ46 : ∀ (y44 : Bool) (w41 : World) (_ : k45 y44 = some r) (_ : Below w0.heap.size w0 w41) (_ : Sep w0.heap.size w41 [R.blk b30 39 [(.int .i64 u27.1), (.string (mkS u27.2))]]), ∀ a, St 59 [(1, v1_0), (5, (.int .i64 u7)), (6, (.int .i64 y18)), (7, (.pointer (some ⟨b30, 0, none⟩))), (13, v1_0), (14, (.int .i64 (List.length x1 : Int))), (15, (.int .i64 y18)), (52, (.bool y44))] a → K40 a w41 := by
      intro y44 w41 hF hB42 hS43
      subst hk45
      refine fun a ha => hK40 _ _ (W.cond rfl (fun h47 => ?_) (fun h47 => ?_)) a ha
      ·replace hF := ifP h47 hF
       refine W.seq fun K48 hK48 => W.region (wl_assign rfl rfl (WL.nil (fun a ha => hK48 _ _ (W.ret ?_) a ha)))
       have hr := Option.some.inj hF
       subst hr
       exact rets (vs := [(.bool false)]) hQ rfl ⟨rv_tmp rfl, trivial⟩ ⟨rfl, hB42⟩
      ·replace hF := ifN h47 hF
       refine W.skip fun a ha => hK39 _ _ (W.seq fun K49 hK49 => (W.region (wl_move rfl rfl (wl_move rfl rfl ?_)))) a ha
       obtain ⟨u50, hu50, hF⟩ := bindE hF
       refine wl_slice (e := ty_39) Tryd.underlying30 rfl rfl h1_0 hu50 (.inl ⟨rfl, rfl⟩) (.inr ⟨_, _, rfl, rfl⟩) ?_
       intro v51 hv52
       refine wl_makeFunc (vs := [(.pointer (some ⟨b30, 0, none⟩))]) rfl rfl ?_
       obtain ⟨u53, hu53, hF⟩ := bindE hF
       refine wl_call rfl Tryd.call77 (C_slices_ContainsFunc_impl_Cue_impl_Cue__impl_areCues_1 w41 u50 v51 (hv52.ro hB42) u27 ⟨b30, 0, none⟩ (blk_EAt (i := 0) hS43 rfl) _ hu53) rfl ?_
       rintro _ w54 ⟨rfl, hb55⟩
       refine ⟨_, rfl, ?_⟩
       have hB56 := hB42.trans (hb55.mono hB42.size)
       have hS57 := hS43.below hb55
       refine WL.nil fun a ha => hK49 _ _ (W.cond rfl (fun h59 => ?_) (fun h59 => ?_)) a ha
       ·replace hF := ifP h59 hF
        refine W.seq fun K60 hK60 => W.region (wl_assign rfl rfl (WL.nil (fun a ha => hK60 _ _ (W.ret ?_) a ha)))
        have hr := Option.some.inj hF
        subst hr
        exact rets (vs := [(.bool false)]) hQ rfl ⟨rv_tmp rfl, trivial⟩ ⟨rfl, hB56⟩
       ·replace hF := ifN h59 hF
        refine W.skip fun a ha => hK25 _ _ (W.region (wl_add rfl rfl rfl (wl_move rfl rfl (WL.nil ?_)))) a ha
        rw [hnx19] at hF
        exact fun a ha => hKL20 a _ m21 (Nat.lt_succ_self m21) ⟨(w64 (y18 + 1)), ha.sub ⟨rfl, rfl, rfl, rfl, rfl, trivial⟩, hB56, (hS57.sel [] rfl), hF⟩
     refine W.regionH mixed_ [] hB36 hS37 ?_
     intro w61 hb62 hB63 hS64
     have hSW65 := KeepX.refl w61 []
     refine WH.tk 0 rfl hP hSW65 (pr_field (o := 0) (off' := 0) ff_39_0 rfl rfl rfl (WH.tk 1 rfl hP hSW65 (pr_load_blk (i := 0) (vs := [(.int .i64 u27.1)]) (v := (.int .i64 u27.1)) tf_3 rfl rfl hS64 rfl rfl rfl (by simp) (WH.tk 2 rfl hP hSW65 (pr_move rfl rfl (WH.tk 3 rfl hP hSW65 (pr_sub rfl rfl rfl (WH.on1 4 rfl ?_))))))))
     obtain ⟨u66, hu66, hF⟩ := bindE hF
     refine wl_call rfl Tryd.call65 (C_impl_within w61 u27.1 0 (w64 (u7 - 1)) _ hu66) rfl ?_
     rintro _ w67 ⟨rfl, hb68⟩
     refine ⟨_, rfl, ?_⟩
     have hB69 := hB63.trans (hb68.mono hB63.size)
     have hS70 := hS64.below hb68
     have hSW72 := hSW65.ext hb68
     refine WL.nil (WH.ret hSW72 (WH.tk 5 rfl hP hSW72 (pr_not rfl rfl (WH.tk 6 rfl hP hSW72 (pr_move rfl rfl ?_)))))
     rcases bE (!u66) with h73 | h73
     ·replace hF := ifP h73 hF
      refine WH.off (i := 7) rfl (by kernel_rfl) (by kernel_rfl) (by kernel_rfl) hP rfl rfl h73 rfl hSW72 (WH.off (i := 8) rfl (by kernel_rfl) (by kernel_rfl) (by kernel_rfl) hP rfl rfl h73 rfl hSW72 (WH.off (i := 9) rfl (by kernel_rfl) (by kernel_rfl) (by kernel_rfl) hP rfl rfl h73 rfl hSW72 (WH.off (i := 10) rfl (by kernel_rfl) (by kernel_rfl) (by kernel_rfl) hP rfl rfl h73 rfl hSW72 (WH.tk 11 rfl hP hSW72 (pr_pick_t rfl rfl h73 rfl (WH.tk 12 rfl hP hSW72 (pr_move rfl rfl (WH.off (i := 13) rfl (by kernel_rfl) (by kernel_rfl) (by kernel_rfl) hP rfl rfl rfl rfl hSW72 (WH.off (i := 14) rfl (by kernel_rfl) (by kernel_rfl) (by kernel_rfl) hP rfl rfl rfl rfl hSW72 (WH.off (i := 15) rfl (by kernel_rfl) (by kernel_rfl) (by kernel_rfl) hP rfl rfl rfl rfl hSW72 (WH.off (i := 16) rfl (by kernel_rfl) (by kernel_rfl) (by kernel_rfl) hP rfl rfl rfl rfl hSW72 (WH.tk 17 rfl hP hSW72 ?_))))))))))))
      refine pr_pick_t rfl rfl rfl rfl (WH.tk 18 rfl hP hSW72 (pr_move rfl rfl (WH.off (i := 19) rfl (by kernel_rfl) (by kernel_rfl) (by kernel_rfl) hP rfl rfl rfl rfl hSW72 (WH.off (i := 20) rfl (by kernel_rfl) (by kernel_rfl) (by kernel_rfl) hP rfl rfl rfl rfl hSW72 (WH.off (i := 21) rfl (by kernel_rfl) (by kernel_rfl) (by kernel_rfl) hP rfl rfl rfl rfl hSW72 (WH.offu (i := 22) rfl (by kernel_rfl) (by kernel_rfl) (by kernel_rfl) hP rfl rfl rfl hSW72 (WH.offu (i := 23) rfl (by kernel_rfl) (by kernel_rfl) (by kernel_rfl) hP rfl rfl rfl hSW72 (WH.offu (i := 24) rfl (by kernel_rfl) (by kernel_rfl) (by kernel_rfl) hP rfl rfl rfl hSW72 (WH.offu (i := 25) rfl (by kernel_rfl) (by kernel_rfl) (by kernel_rfl) hP rfl rfl rfl hSW72 (WH.offu (i := 26) rfl (by kernel_rfl) (by kernel_rfl) (by kernel_rfl) hP rfl rfl rfl hSW72 ?_))))))))))
      refine WH.offu (i := 27) rfl (by kernel_rfl) (by kernel_rfl) (by kernel_rfl) hP rfl rfl rfl hSW72 (WH.offu (i := 28) rfl (by kernel_rfl) (by kernel_rfl) (by kernel_rfl) hP rfl rfl rfl hSW72 (WH.offu (i := 29) rfl (by kernel_rfl) (by kernel_rfl) (by kernel_rfl) hP rfl rfl rfl hSW72 (WH.offu (i := 30) rfl (by kernel_rfl) (by kernel_rfl) (by kernel_rfl) hP rfl rfl rfl hSW72 (WH.off (i := 31) rfl (by kernel_rfl) (by kernel_rfl) (by kernel_rfl) hP rfl rfl rfl rfl hSW72 (WH.tk 32 rfl hP hSW72 (pr_pick_t rfl rfl rfl rfl (WH.done (by kernel_rfl) ?_)))))))
      exact fun a ha => hJ46 (true) _ hF hB69 (hS70.sel [0] rfl) a (ha.sub ⟨rfl, rfl, rfl, rfl, rfl, rfl, rfl, rfl, trivial⟩)
     ·replace hF := ifN h73 hF
      refine WH.takexg (i := 7) rfl (by kernel_rfl) (by kernel_rfl) (by kernel_rfl) hP rfl rfl h73 hSW72 (pr_field (o := 1) (off' := 1) ff_39_1 rfl rfl rfl (WH.takexg (i := 8) rfl (by kernel_rfl) (by kernel_rfl) (by kernel_rfl) hP rfl rfl h73 hSW72 (pr_load_blk (i := 0) (vs := [(.string (mkS u27.2))]) (v := (.string (mkS u27.2))) tf_9 rfl rfl hS64 rfl rfl rfl (by simp) (WH.takexg (i := 9) rfl (by kernel_rfl) (by kernel_rfl) (by kernel_rfl) hP rfl rfl h73 hSW72 (pr_strlen Tryd.underlying9 rfl rfl (WH.takexg (i := 10) rfl (by kernel_rfl) (by kernel_rfl) (by kernel_rfl) hP rfl rfl h73 hSW72 (pr_gtr rfl rfl rfl (WH.tk 11 rfl hP hSW72 (pr_pick_f rfl rfl h73 rfl (WH.tk 12 rfl hP hSW72 (pr_move rfl rfl ?_)))))))))))
      rcases bE (decide (8 < (List.length u27.2 : Int))) with h74 | h74
      ·replace hF := ifP h74 hF
       refine WH.off (i := 13) rfl (by kernel_rfl) (by kernel_rfl) (by kernel_rfl) hP rfl rfl h74 rfl hSW72 (WH.off (i := 14) rfl (by kernel_rfl) (by kernel_rfl) (by kernel_rfl) hP rfl rfl h74 rfl hSW72 (WH.off (i := 15) rfl (by kernel_rfl) (by kernel_rfl) (by kernel_rfl) hP rfl rfl h74 rfl hSW72 (WH.off (i := 16) rfl (by kernel_rfl) (by kernel_rfl) (by kernel_rfl) hP rfl rfl h74 rfl hSW72 (WH.tk 17 rfl hP hSW72 (pr_pick_t rfl rfl h74 rfl (WH.tk 18 rfl hP hSW72 (pr_move rfl rfl (WH.off (i := 19) rfl (by kernel_rfl) (by kernel_rfl) (by kernel_rfl) hP rfl rfl rfl rfl hSW72 (WH.off (i := 20) rfl (by kernel_rfl) (by kernel_rfl) (by kernel_rfl) hP rfl rfl rfl rfl hSW72 (WH.off (i := 21) rfl (by kernel_rfl) (by kernel_rfl) (by kernel_rfl) hP rfl rfl rfl rfl hSW72 (WH.offu (i := 22) rfl (by kernel_rfl) (by kernel_rfl) (by kernel_rfl) hP rfl rfl rfl hSW72 ?_)))))))))))
       refine WH.offu (i := 23) rfl (by kernel_rfl) (by kernel_rfl) (by kernel_rfl) hP rfl rfl rfl hSW72 (WH.offu (i := 24) rfl (by kernel_rfl) (by kernel_rfl) (by kernel_rfl) hP rfl rfl rfl hSW72 (WH.offu (i := 25) rfl (by kernel_rfl) (by kernel_rfl) (by kernel_rfl) hP rfl rfl rfl hSW72 (WH.offu (i := 26) rfl (by kernel_rfl) (by kernel_rfl) (by kernel_rfl) hP rfl rfl rfl hSW72 (WH.offu (i := 27) rfl (by kernel_rfl) (by kernel_rfl) (by kernel_rfl) hP rfl rfl rfl hSW72 (WH.offu (i := 28) rfl (by kernel_rfl) (by kernel_rfl) (by kernel_rfl) hP rfl rfl rfl hSW72 (WH.offu (i := 29) rfl (by kernel_rfl) (by kernel_rfl) (by kernel_rfl) hP rfl rfl rfl hSW72 (WH.offu (i := 30) rfl (by kernel_rfl) (by kernel_rfl) (by kernel_rfl) hP rfl rfl rfl hSW72 (WH.off (i := 31) rfl (by kernel_rfl) (by kernel_rfl) (by kernel_rfl) hP rfl rfl rfl rfl hSW72 (WH.tk 32 rfl hP hSW72 (pr_pick_t rfl rfl rfl rfl ?_))))))))))
       refine WH.done (by kernel_rfl) ?_
       exact fun a ha => hJ46 (true) _ hF hB69 (hS70.sel [0] rfl) a (ha.sub ⟨rfl, rfl, rfl, rfl, rfl, rfl, rfl, rfl, trivial⟩)
      ·replace hF := ifN h74 hF
       refine WH.takexg (i := 13) rfl (by kernel_rfl) (by kernel_rfl) (by kernel_rfl) hP rfl rfl h74 hSW72 (pr_field (o := 1) (off' := 1) ff_39_1 rfl rfl rfl (WH.takexg (i := 14) rfl (by kernel_rfl) (by kernel_rfl) (by kernel_rfl) hP rfl rfl h74 hSW72 (pr_load_blk (i := 0) (vs := [(.string (mkS u27.2))]) (v := (.string (mkS u27.2))) tf_9 rfl rfl hS64 rfl rfl rfl (by simp) (WH.on1 15 rfl (wl_on rfl rfl h74 ?_)))))
       obtain ⟨u75, hu75, hF⟩ := bindE hF
       refine wl_call rfl Tryd.call76 (C_impl_isName w67 u27.2 _ hu75) rfl ?_
       rintro _ w76 ⟨rfl, hb77⟩
       refine ⟨_, rfl, ?_⟩
       have hB78 := hB69.trans (hb77.mono hB69.size)
       have hS79 := hS70.below hb77
       have hSW81 := hSW72.ext hb77
       refine WL.nil (WH.ret hSW81 (WH.takexg (i := 16) rfl (by kernel_rfl) (by kernel_rfl) (by kernel_rfl) hP rfl rfl h74 hSW81 (pr_not rfl rfl (WH.tk 17 rfl hP hSW81 (pr_pick_f rfl rfl h74 rfl (WH.tk 18 rfl hP hSW81 (pr_move rfl rfl ?_)))))))
       rcases bE (!u75) with h82 | h82
       ·replace hF := ifP h82 hF
        refine WH.off (i := 19) rfl (by kernel_rfl) (by kernel_rfl) (by kernel_rfl) hP rfl rfl h82 rfl hSW81 (WH.off (i := 20) rfl (by kernel_rfl) (by kernel_rfl) (by kernel_rfl) hP rfl rfl h82 rfl hSW81 (WH.off (i := 21) rfl (by kernel_rfl) (by kernel_rfl) (by kernel_rfl) hP rfl rfl h82 rfl hSW81 (WH.offu (i := 22) rfl (by kernel_rfl) (by kernel_rfl) (by kernel_rfl) hP rfl rfl rfl hSW81 (WH.offu (i := 23) rfl (by kernel_rfl) (by kernel_rfl) (by kernel_rfl) hP rfl rfl rfl hSW81 (WH.offu (i := 24) rfl (by kernel_rfl) (by kernel_rfl) (by kernel_rfl) hP rfl rfl rfl hSW81 (WH.offu (i := 25) rfl (by kernel_rfl) (by kernel_rfl) (by kernel_rfl) hP rfl rfl rfl hSW81 (WH.offu (i := 26) rfl (by kernel_rfl) (by kernel_rfl) (by kernel_rfl) hP rfl rfl rfl hSW81 (WH.offu (i := 27) rfl (by kernel_rfl) (by kernel_rfl) (by kernel_rfl) hP rfl rfl rfl hSW81 ?_))))))))
        refine WH.offu (i := 28) rfl (by kernel_rfl) (by kernel_rfl) (by kernel_rfl) hP rfl rfl rfl hSW81 (WH.offu (i := 29) rfl (by kernel_rfl) (by kernel_rfl) (by kernel_rfl) hP rfl rfl rfl hSW81 (WH.offu (i := 30) rfl (by kernel_rfl) (by kernel_rfl) (by kernel_rfl) hP rfl rfl rfl hSW81 (WH.off (i := 31) rfl (by kernel_rfl) (by kernel_rfl) (by kernel_rfl) hP rfl rfl h82 rfl hSW81 (WH.tk 32 rfl hP hSW81 (pr_pick_t rfl rfl h82 rfl (WH.done (by kernel_rfl) ?_))))))
        exact fun a ha => hJ46 (true) _ hF hB78 (hS79.sel [0] rfl) a (ha.sub ⟨rfl, rfl, rfl, rfl, rfl, rfl, rfl, rfl, trivial⟩)
       ·replace hF := ifN h82 hF
        refine WH.takexg (i := 19) rfl (by kernel_rfl) (by kernel_rfl) (by kernel_rfl) hP rfl rfl h82 hSW81 (pr_move rfl rfl (WH.takexg (i := 20) rfl (by kernel_rfl) (by kernel_rfl) (by kernel_rfl) hP rfl rfl h82 hSW81 (pr_gtr rfl rfl rfl (WH.takexg (i := 21) rfl (by kernel_rfl) (by kernel_rfl) (by kernel_rfl) hP rfl rfl h82 hSW81 (pr_move rfl rfl ?_)))))
        rcases bE (decide (0 < y18)) with h83 | h83
        ·replace hF := ifP h83 hF
         refine WH.takexg (i := 22) rfl (by kernel_rfl) (by kernel_rfl) (by kernel_rfl) hP rfl rfl h83 hSW81 (pr_move rfl rfl (WH.takexg (i := 23) rfl (by kernel_rfl) (by kernel_rfl) (by kernel_rfl) hP rfl rfl h83 hSW81 (pr_move rfl rfl (WH.takexg (i := 24) rfl (by kernel_rfl) (by kernel_rfl) (by kernel_rfl) hP rfl rfl h83 hSW81 (pr_sub rfl rfl rfl ?_)))))
         obtain ⟨u84, hu84, hF⟩ := bindE hF
         refine WH.takexg (i := 25) rfl (by kernel_rfl) (by kernel_rfl) (by kernel_rfl) hP rfl rfl h83 hSW81 (pr_index (e := ty_39) Tryd.underlying30 rfl rfl rfl h1_0 hu84 ?_)
         rintro p85 _ rfl hp86
         refine WH.takexg (i := 26) rfl (by kernel_rfl) (by kernel_rfl) (by kernel_rfl) hP rfl rfl h83 hSW81 (pr_fieldp (o := 0) ff_39_0 rfl rfl (WH.takexg (i := 27) rfl (by kernel_rfl) (by kernel_rfl) (by kernel_rfl) hP rfl rfl h83 hSW81 (pr_load_p (vs := [(.int .i64 u84.1)]) (v := (.int .i64 u84.1)) tf_3 rfl rfl (EAt.addk (hp86.kx hB63 (by simp)) 0) rfl rfl (WH.takexg (i := 28) rfl (by kernel_rfl) (by kernel_rfl) (by kernel_rfl) hP rfl rfl h83 hSW81 (pr_field (o := 0) (off' := 0) ff_39_0 rfl rfl rfl (WH.takexg (i := 29) rfl (by kernel_rfl) (by kernel_rfl) (by kernel_rfl) hP rfl rfl h83 hSW81 (pr_load_blk (i := 0) (vs := [(.int .i64 u27.1)]) (v := (.int .i64 u27.1)) tf_3 rfl rfl hS64 rfl rfl rfl (by simp) (WH.takexg (i := 30) rfl (by kernel_rfl) (by kernel_rfl) (by kernel_rfl) hP rfl rfl h83 hSW81 (pr_geq rfl rfl rfl ?_)))))))))
         refine WH.takexg (i := 31) rfl (by kernel_rfl) (by kernel_rfl) (by kernel_rfl) hP rfl rfl h82 hSW81 (pr_pick_t rfl rfl h83 rfl (WH.tk 32 rfl hP hSW81 (pr_pick_f rfl rfl h82 rfl (WH.done (by kernel_rfl) ?_))))
         exact fun a ha => hJ46 ((decide (u27.1 ≤ u84.1))) _ hF hB78 (hS79.sel [0] rfl) a (ha.sub ⟨rfl, rfl, rfl, rfl, rfl, rfl, rfl, rfl, trivial⟩)
        ·replace hF := ifN h83 hF
         refine WH.off (i := 22) rfl (by kernel_rfl) (by kernel_rfl) (by kernel_rfl) hP rfl rfl h83 rfl hSW81 (WH.off (i := 23) rfl (by kernel_rfl) (by kernel_rfl) (by kernel_rfl) hP rfl rfl h83 rfl hSW81 (WH.off (i := 24) rfl (by kernel_rfl) (by kernel_rfl) (by kernel_rfl) hP rfl rfl h83 rfl hSW81 (WH.off (i := 25) rfl (by kernel_rfl) (by kernel_rfl) (by kernel_rfl) hP rfl rfl h83 rfl hSW81 (WH.off (i := 26) rfl (by kernel_rfl) (by kernel_rfl) (by kernel_rfl) hP rfl rfl h83 rfl hSW81 (WH.off (i := 27) rfl (by kernel_rfl) (by kernel_rfl) (by kernel_rfl) hP rfl rfl h83 rfl hSW81 (WH.off (i := 28) rfl (by kernel_rfl) (by kernel_rfl) (by kernel_rfl) hP rfl rfl h83 rfl hSW81 (WH.off (i := 29) rfl (by kernel_rfl) (by kernel_rfl) (by kernel_rfl) hP rfl rfl h83 rfl hSW81 (WH.off (i := 30) rfl (by kernel_rfl) (by kernel_rfl) (by kernel_rfl) hP rfl rfl h83 rfl hSW81 ?_))))))))
         refine WH.takexg (i := 31) rfl (by kernel_rfl) (by kernel_rfl) (by kernel_rfl) hP rfl rfl h82 hSW81 (pr_pick_f rfl rfl h83 rfl (WH.tk 32 rfl hP hSW81 (pr_pick_f rfl rfl h82 rfl (WH.done (by kernel_rfl) ?_))))
         exact fun a ha => hJ46 (false) _ hF hB78 (hS79.sel [0] rfl) a (ha.sub ⟨rfl, rfl, rfl, rfl, rfl, rfl, rfl, rfl, trivial⟩)
    ·replace hF := ifN h24 hF
     refine W.exit fun a ha => hK13 _ _ (W.seq fun K87 hK87 => (W.region (wl_assign rfl rfl (WL.nil (fun a ha => hK87 _ _ (W.ret ?_) a ha))))) a ha
     have hr := Option.some.inj hF
     subst hr
     exact rets (vs := [(.bool true)]) hQ rfl ⟨rv_tmp rfl, trivial⟩ ⟨rfl, hB16⟩
theorem C_impl_haveCues (w0 : World) (x0 : (List (Int × Int))) (v0_0 : Value) (h0_0 : rdS ty_63 (· < w0.heap.size) w0 v0_0 x0) (x1 : (List (Int × (List UInt8)))) (v1_0 : Value) (h1_0 : rdS ty_39 (· < w0.heap.size) w0 v1_0 x1) (r : Bool) (hF : F_impl_haveCues x0 x1 = some r) :
  Calls Tryd.prog 39 [v0_0, v1_0].toArray w0 fun e w' => e = .returned (.bool r) ∧ Below w0.heap.size w0 w' := by
 refine calls_mk' Tryd.func39 rfl Tryd.ntmps39 rfl rfl fun Q hQ hP => ?_
 have hB : Below w0.heap.size w0 w0 := Below.refl _ _
 have hS : Sep w0.heap.size w0 [] := Sep.nil _ _
 unfold F_impl_haveCues at hF
 refine W.seq fun K1 hK1 => W.region (wl_assign rfl rfl (WL.nil (fun a ha => hK1 _ _ (W.seq fun K2 hK2 => ?_) a ha)))
 obtain ⟨k7, hk7, hF⟩ := jE1 hF
 have hJ8 : ∀ (y6 : Bool) (w3 : World) (_ : k7 y6 = some r) (_ : Below w0.heap.size w0 w3) (_ : Sep w0.heap.size w3 []), ∀ a, St 12 [(4, (.bool y6))] a → K2 a w3 := by
  intro y6 w3 hF hB4 hS5
  subst hk7
  refine fun a ha => hK2 _ _ (W.ret ?_) a ha
  have hr := Option.some.inj hF
  subst hr
  exact rets (vs := [(.bool y6)]) hQ rfl ⟨rv_tmp rfl, trivial⟩ ⟨rfl, hB4⟩
 refine W.region (wl_move rfl rfl ?_)
 obtain ⟨u9, hu9, hF⟩ := bindE hF
 refine wl_call rfl Tryd.call62 (C_impl_IsMusic w0 x0 v0_0 (h0_0.ro hB) _ hu9) rfl ?_
 rintro _ w10 ⟨rfl, hb11⟩
 refine ⟨_, rfl, ?_⟩
 have hB12 := hB.trans (hb11.mono hB.size)
 have hS13 := hS.below hb11
 refine wl_move rfl rfl ?_
 rcases bE u9 with h15 | h15
 ·replace hF := ifP h15 hF
  refine wl_on rfl rfl h15 (wl_move rfl rfl (wl_on rfl rfl h15 (wl_move rfl rfl (wl_on rfl rfl h15 ?_))))
  obtain ⟨u16, hu16, hF⟩ := bindE hF
  refine wl_call rfl Tryd.call50 (C_impl_areCues w10 x0 v0_0 (h0_0.ro hB12) x1 v1_0 (h1_0.ro hB12) _ hu16) rfl ?_
  rintro _ w17 ⟨rfl, hb18⟩
  refine ⟨_, rfl, ?_⟩
  have hB19 := hB12.trans (hb18.mono hB12.size)
  have hS20 := hS13.below hb18
  refine wl_pick_t rfl rfl h15 rfl (wl_assign rfl rfl (WL.nil ?_))
  exact fun a ha => hJ8 (u16) _ hF hB19 (hS20.sel [] rfl) a (ha.sub ⟨rfl, trivial⟩)
 ·replace hF := ifN h15 hF
  refine wl_off rfl rfl rfl h15 (wl_off rfl rfl rfl h15 (wl_off rfl rfl rfl h15 (wl_pick_f rfl rfl h15 rfl (wl_assign rfl rfl (WL.nil ?_)))))
  exact fun a ha => hJ8 (false) _ hF hB12 (hS13.sel [] rfl) a (ha.sub ⟨rfl, trivial⟩)
theorem C_impl_timeOf (w0 : World) (x0 : (List (Int × Int))) (v0_0 : Value) (h0_0 : rdS ty_63 (· < w0.heap.size) w0 v0_0 x0) (x1 : Int) (r : Int) (hF : F_impl_timeOf x0 x1 = some r) :
  Calls Tryd.prog 42 [v0_0, (.int .i64 x1)].toArray w0 fun e w' => e = .returned (.int .i64 r) ∧ Below w0.heap.size w0 w' := by
 refine calls_mk' Tryd.func42 rfl Tryd.ntmps42 rfl rfl fun Q hQ hP => ?_
 have hB : Below w0.heap.size w0 w0 := Below.refl _ _
 have hS : Sep w0.heap.size w0 [] := Sep.nil _ _
 unfold F_impl_timeOf at hF
 refine W.seq fun K1 hK1 => W.region (wl_assign rfl rfl (WL.nil (fun a ha => hK1 _ _ (W.seq fun K2 hK2 => (W.region (wl_assign rfl rfl (WL.nil (fun a ha => hK2 _ _ (W.seq fun K3 hK3 => (W.seq fun K4 hK4 => (W.region (wl_move rfl rfl ?_)))) a ha))))) a ha)))
 refine wl_lenr (e := ty_63) (l := x0) Tryd.underlying28 rfl rfl h0_0 (wl_move rfl rfl (WL.nil (fun a ha => hK4 _ _ (W.block (W.loopk (fun m a w5 => ∃ (y8 : Int) (y9 : Int) (y10 : Int), St 39 [(1, (.int .i64 y8)), (5, (.int .i64 y9)), (8, v0_0), (9, (.int .i64 (List.length x0 : Int))), (10, (.int .i64 y10))] a ∧ Below w0.heap.size w0 w5 ∧ Sep w0.heap.size w5 [] ∧ F_impl_timeOf_L1 x0 m y8 y9 y10 = some r) FU ?_ ?_)) a ha)))
 ·
  exact fun a ha => ⟨x1, 0, 0, ha.sub ⟨rfl, rfl, rfl, rfl, rfl, trivial⟩, hB, (hS.sel [] rfl), hF⟩
 ·
  rintro m13 a w5 ⟨y8, y9, y10, ha, hB6, hS7, hF⟩ KL12 hKL12
  refine W.at ?_ ha
  cases m13 with
  | zero => exact noneE hF
  | succ m13 =>
   obtain ⟨nx11, hnx11⟩ : ∃ k, k = F_impl_timeOf_L1 x0 m13 := ⟨_, rfl⟩
   rw [F_impl_timeOf_L1, ← hnx11] at hF
   refine W.seq fun K14 hK14 => W.region (wl_lss rfl rfl rfl (WL.nil (fun a ha => hK14 _ _ (W.seq fun K15 hK15 => (W.cond rfl (fun h16 => ?_) (fun h16 => ?_))) a ha)))
   ·replace hF := ifP h16 hF
    refine W.skip fun a ha => hK15 _ _ (W.seq fun K17 hK17 => (W.block (W.seq fun K18 hK18 => (W.region ?_)))) a ha
    obtain ⟨u19, hu19, hF⟩ := bindE hF
    refine wl_index (e := ty_63) Tryd.underlying28 rfl rfl rfl h0_0 hu19 ?_
    rintro p20 _ rfl hp21
    refine wl_load_p (vs := [(.int .i64 u19.1), (.int .i64 u19.2)]) (v := (.agg #[(.int .i64 u19.1), (.int .i64 u19.2)])) tf_63 rfl rfl (hp21.ro hB6) rfl rfl (wl_alloc (cs := [(.int .i64 0), (.int .i64 0)]) tf_63 rfl rfl hB6 hS7 ?_)
    intro b22 w23 hb24 hB25 hS26
    refine wl_store_blk (i := 0) (vs := [(.int .i64 u19.1), (.int .i64 u19.2)]) (cs' := [(.int .i64 u19.1), (.int .i64 u19.2)]) tf_63 rfl rfl rfl rfl hB25 hS26 rfl rfl ⟨rfl, rfl, trivial⟩ rfl ?_
    intro w27 hk30 hB28 hS29
    refine WL.nil fun a ha => hK18 _ _ (W.seq fun K31 hK31 => (W.seq fun K32 hK32 => (W.region (wl_move rfl rfl (wl_field (o := 0) (off' := 0) ff_63_0 rfl rfl rfl (wl_load_blk (i := 0) (vs := [(.int .i64 u19.1)]) (v := (.int .i64 u19.1)) tf_3 rfl rfl hS29 rfl rfl rfl (wl_lss rfl rfl rfl (WL.nil (fun a ha => hK32 _ _ (W.cond rfl (fun h33 => ?_) (fun h33 => ?_)) a ha))))))))) a ha
    ·replace hF := ifP h33 hF
     refine W.seq fun K34 hK34 => W.region (wl_move rfl rfl (wl_move rfl rfl (wl_mul rfl rfl rfl (wl_field (o := 1) (off' := 1) ff_63_1 rfl rfl rfl (wl_load_blk (i := 0) (vs := [(.int .i64 u19.2)]) (v := (.int .i64 u19.2)) tf_3 rfl rfl hS29 rfl rfl rfl ?_)))))
     have h35 : u19.2 ≠ 0 := fun h35 => noneE (ifP h35 hF)
     replace hF := ifNP h35 hF
     refine wl_quo rfl rfl rfl h35 (wl_add rfl rfl rfl (wl_assign rfl rfl (WL.nil (fun a ha => hK34 _ _ (W.ret ?_) a ha))))
     have hr := Option.some.inj hF
     subst hr
     exact rets (vs := [(.int .i64 (w64 (y9 + (w64 (Int.tdiv (w64 (60000 * y8)) u19.2)))))]) hQ rfl ⟨rv_tmp rfl, trivial⟩ ⟨rfl, hB28⟩
    ·replace hF := ifN h33 hF
     refine W.skip fun a ha => hK31 _ _ (W.seq fun K36 hK36 => (W.region (wl_move rfl rfl (wl_field (o := 0) (off' := 0) ff_63_0 rfl rfl rfl (wl_load_blk (i := 0) (vs := [(.int .i64 u19.1)]) (v := (.int .i64 u19.1)) tf_3 rfl rfl hS29 rfl rfl rfl (wl_mul rfl rfl rfl (wl_field (o := 1) (off' := 1) ff_63_1 rfl rfl rfl (wl_load_blk (i := 0) (vs := [(.int .i64 u19.2)]) (v := (.int .i64 u19.2)) tf_3 rfl rfl hS29 rfl rfl rfl ?_)))))))) a ha
     have h37 : u19.2 ≠ 0 := fun h37 => noneE (ifP h37 hF)
     replace hF := ifNP h37 hF
     refine wl_quo rfl rfl rfl h37 (wl_add rfl rfl rfl (wl_assign rfl rfl (WL.nil (fun a ha => hK36 _ _ (W.region (wl_move rfl rfl (wl_field (o := 0) (off' := 0) ff_63_0 rfl rfl rfl (wl_load_blk (i := 0) (vs := [(.int .i64 u19.1)]) (v := (.int .i64 u19.1)) tf_3 rfl rfl hS29 rfl rfl rfl (wl_sub rfl rfl rfl (wl_assign rfl rfl (WL.nil (fun a ha => hK17 _ _ (W.region ?_) a ha)))))))) a ha))))
     refine wl_add rfl rfl rfl (wl_move rfl rfl (WL.nil ?_))
     rw [hnx11] at hF
     exact fun a ha => hKL12 a _ m13 (Nat.lt_succ_self m13) ⟨(w64 (y8 - u19.1)), (w64 (y9 + (w64 (Int.tdiv (w64 (60000 * u19.1)) u19.2)))), (w64 (y10 + 1)), ha.sub ⟨rfl, rfl, rfl, rfl, rfl, trivial⟩, hB28, (hS29.sel [] rfl), hF⟩
   ·replace hF := ifN h16 hF
    refine W.exit fun a ha => hK3 _ _ (W.seq fun K38 hK38 => (W.region (wl_move rfl rfl (wl_assign rfl rfl (WL.nil (fun a ha => hK38 _ _ (W.ret ?_) a ha)))))) a ha
    have hr := Option.some.inj hF
    subst hr
    exact rets (vs := [(.int .i64 y9)]) hQ rfl ⟨rv_tmp rfl, trivial⟩ ⟨rfl, hB6⟩
theorem C_impl_padded (w0 : World) (hT : Tab w0) (x0 : Int) (x1 : Int) (r : (List UInt8)) (hF : F_impl_padded x0 x1 = some r) :
  Calls Tryd.prog 72 [(.int .i64 x0), (.int .i64 x1)].toArray w0 fun e w' => e = .returned (.string (mkS r)) ∧ Below w0.heap.size w0 w' := by
 refine calls_mk' Tryd.func72 rfl Tryd.ntmps72 rfl rfl fun Q hQ hP => ?_
 have hB : Below w0.heap.size w0 w0 := Below.refl _ _
 have hS : Sep w0.heap.size w0 [] := Sep.nil _ _
 unfold F_impl_padded at hF
 refine W.seq fun K1 hK1 => W.region (wl_assign rfl rfl (WL.nil (fun a ha => hK1 _ _ (W.seq fun K2 hK2 => (W.region (wl_move rfl rfl ?_))) a ha)))
 obtain ⟨u3, hu3, hF⟩ := bindE hF
 refine wl_call rfl Tryd.call43 (C_strconv_Itoa w0 (hT.st hB) x0 _ hu3) rfl ?_
 rintro _ w4 ⟨rfl, hb5⟩
 refine ⟨_, rfl, ?_⟩
 have hB6 := hB.trans (hb5.mono hB.size)
 have hS7 := hS.below hb5
 refine wl_assign rfl rfl (WL.nil (fun a ha => hK2 _ _ (W.seq fun K9 hK9 => (W.block (W.loopk (fun m a w10 => ∃ (y13 : (List UInt8)), St 15 [(1, (.int .i64 x1)), (5, (.string (mkS y13)))] a ∧ Below w0.heap.size w0 w10 ∧ Sep w0.heap.size w10 [] ∧ F_impl_padded_L1 x1 m y13 = some r) FU ?_ ?_))) a ha))
 ·
  exact fun a ha => ⟨u3, ha.sub ⟨rfl, rfl, trivial⟩, hB6, (hS7.sel [] rfl), hF⟩
 ·
  rintro m16 a w10 ⟨y13, ha, hB11, hS12, hF⟩ KL15 hKL15
  refine W.at ?_ ha
  cases m16 with
  | zero => exact noneE hF
  | succ m16 =>
   obtain ⟨nx14, hnx14⟩ : ∃ k, k = F_impl_padded_L1 x1 m16 := ⟨_, rfl⟩
   rw [F_impl_padded_L1, ← hnx14] at hF
   refine W.seq fun K17 hK17 => W.seq fun K18 hK18 => W.region (wl_move rfl rfl (wl_strlen Tryd.underlying9 rfl rfl (wl_move rfl rfl (wl_lss rfl rfl rfl (WL.nil (fun a ha => hK18 _ _ (W.cond rfl (fun h19 => ?_) (fun h19 => ?_)) a ha))))))
   ·replace hF := ifP h19 hF
    refine W.skip fun a ha => hK17 _ _ (W.block (W.region (wl_move rfl rfl ?_))) a ha
    obtain ⟨u20, hu20, hF⟩ := bindE hF
    refine wl_stradd rfl rfl rfl hu20 (wl_assign rfl rfl (WL.nil ?_))
    rw [hnx14] at hF
    exact fun a ha => hKL15 a _ m16 (Nat.lt_succ_self m16) ⟨u20, ha.sub ⟨rfl, rfl, trivial⟩, hB11, (hS12.sel [] rfl), hF⟩
   ·replace hF := ifN h19 hF
    refine W.exit fun a ha => hK9 _ _ (W.seq fun K21 hK21 => (W.region (wl_move rfl rfl (wl_assign rfl rfl (WL.nil (fun a ha => hK21 _ _ (W.ret ?_) a ha)))))) a ha
    have hr := Option.some.inj hF
    subst hr
    exact rets (vs := [(.string (mkS y13))]) hQ rfl ⟨rv_tmp rfl, trivial⟩ ⟨rfl, hB11⟩
theorem C_impl_timeText (w0 : World) (hT : Tab w0) (x0 : Int) (r : (List UInt8)) (hF : F_impl_timeText x0 = some r) :
  Calls Tryd.prog 41 [(.int .i64 x0)].toArray w0 fun e w' => e = .returned (.string (mkS r)) ∧ Below w0.heap.size w0 w' := by
 refine calls_mk' Tryd.func41 rfl Tryd.ntmps41 rfl rfl fun Q hQ hP => ?_
 have hB : Below w0.heap.size w0 w0 := Below.refl _ _
 unfold F_impl_timeText at hF
 refine W.seq fun K1 hK1 => W.region (wl_assign rfl rfl (WL.nil (fun a ha => hK1 _ _ (W.seq fun K2 hK2 => (W.region (wl_move rfl rfl (wl_quo rfl rfl rfl (by decide) ?_)))) a ha)))
 obtain ⟨u3, hu3, hF⟩ := bindE hF
 refine wl_call rfl Tryd.call43 (C_strconv_Itoa w0 (hT.st hB) (w64 (Int.tdiv x0 60000)) _ hu3) rfl ?_
 rintro _ w4 ⟨rfl, hb5⟩
 refine ⟨_, rfl, ?_⟩
 have hB6 := hB.trans (hb5.mono hB.size)
 obtain ⟨u9, hu9, hF⟩ := bindE hF
 refine wl_stradd rfl rfl rfl hu9 (wl_move rfl rfl (wl_quo rfl rfl rfl (by decide) (wl_rem rfl rfl rfl (by decide) ?_)))
 obtain ⟨u10, hu10, hF⟩ := bindE hF
 refine wl_call rfl Tryd.call72 (C_impl_padded w4 (hT.st hB6) (Int.tmod (w64 (Int.tdiv x0 1000)) 60) 2 _ hu10) rfl ?_
 rintro _ w11 ⟨rfl, hb12⟩
 refine ⟨_, rfl, ?_⟩
 have hB13 := hB6.trans (hb12.mono hB6.size)
 obtain ⟨u16, hu16, hF⟩ := bindE hF
 refine wl_stradd rfl rfl rfl hu16 ?_
 obtain ⟨u17, hu17, hF⟩ := bindE hF
 refine wl_stradd rfl rfl rfl hu17 (wl_move rfl rfl (wl_rem rfl rfl rfl (by decide) ?_))
 obtain ⟨u18, hu18, hF⟩ := bindE hF
 refine wl_call rfl Tryd.call72 (C_impl_padded w11 (hT.st hB13) (Int.tmod x0 1000) 3 _ hu18) rfl ?_
 rintro _ w19 ⟨rfl, hb20⟩
 refine ⟨_, rfl, ?_⟩
 have hB21 := hB13.trans (hb20.mono hB13.size)
 obtain ⟨u24, hu24, hF⟩ := bindE hF
 refine wl_stradd rfl rfl rfl hu24 (wl_assign rfl rfl (WL.nil (fun a ha => hK2 _ _ (W.ret ?_) a ha)))
 have hr := Option.some.inj hF
 subst hr
 exact rets (vs := [(.string (mkS u24))]) hQ rfl ⟨rv_tmp rfl, trivial⟩ ⟨rfl, hB21⟩
theorem C_impl_TimetableText (w0 : World) (hT : Tab w0) (x0 : (List (Int × Int))) (v0_0 : Value) (h0_0 : rdS ty_63 (· < w0.heap.size) w0 v0_0 x0) (x1 : (List (Int × (List UInt8)))) (v1_0 : Value) (h1_0 : rdS ty_39 (· < w0.heap.size) w0 v1_0 x1) (r : ((List UInt8) × Bool)) (hF : F_impl_TimetableText x0 x1 = some r) :
  Calls Tryd.prog 10 [v0_0, v1_0].toArray w0 fun e w' => e = .returned (.tuple #[(.string (mkS r.1)), (.bool r.2)]) ∧ Below w0.heap.size w0 w' := by
 refine calls_mk' Tryd.func10 rfl Tryd.ntmps10 rfl rfl fun Q hQ hP => ?_
 have hB : Below w0.heap.size w0 w0 := Below.refl _ _
 have hS : Sep w0.heap.size w0 [] := Sep.nil _ _
 unfold F_impl_TimetableText at hF
 refine W.seq fun K1 hK1 => W.region (wl_assign rfl rfl (wl_assign rfl rfl (WL.nil (fun a ha => hK1 _ _ (W.seq fun K2 hK2 => (W.seq fun K3 hK3 => (W.region (wl_move rfl rfl (wl_move rfl rfl ?_))))) a ha))))
 obtain ⟨u4, hu4, hF⟩ := bindE hF
 refine wl_call rfl Tryd.call39 (C_impl_haveCues w0 x0 v0_0 (h0_0.ro hB) x1 v1_0 (h1_0.ro hB) _ hu4) rfl ?_
 rintro _ w5 ⟨rfl, hb6⟩
 refine ⟨_, rfl, ?_⟩
 have hB7 := hB.trans (hb6.mono hB.size)
 have hS8 := hS.below hb6
 refine wl_not rfl rfl (WL.nil (fun a ha => hK3 _ _ (W.cond rfl (fun h10 => ?_) (fun h10 => ?_)) a ha))
 ·replace hF := ifP h10 hF
  refine W.seq fun K11 hK11 => W.region (wl_assign rfl rfl (wl_assign rfl rfl (WL.nil (fun a ha => hK11 _ _ (W.ret ?_) a ha))))
  have hr := Option.some.inj hF
  subst hr
  exact rets (vs := [(.string (mkS [])), (.bool false)]) hQ rfl ⟨rv_tmp rfl, rv_tmp rfl, trivial⟩ ⟨rfl, hB7⟩
 ·replace hF := ifN h10 hF
  refine W.skip fun a ha => hK2 _ _ (W.seq fun K12 hK12 => (W.region (wl_alloc (cs := [(.pointer none), (.slice none 0 0)]) tf_69 rfl rfl hB7 hS8 ?_))) a ha
  intro b13 w14 hb15 hB16 hS17
  refine WL.nil fun a ha => hK12 _ _ (W.seq fun K18 hK18 => (W.seq fun K19 hK19 => (W.region (wl_move rfl rfl (wl_lenr (e := ty_39) (l := x1) Tryd.underlying30 rfl rfl h1_0 (wl_move rfl rfl (WL.nil (fun a ha => hK19 _ _ (W.block (W.loopk (fun m a w20 => ∃ (l25 : (List Int)) (y28 : Int) (v23 : Value) (v26 : Value) (F27 : List Nat), St 37 [(0, v0_0), (6, (.pointer (some ⟨b13, 0, none⟩))), (13, v1_0), (14, (.int .i64 (List.length x1 : Int))), (15, (.int .i64 y28))] a ∧ Below w0.heap.size w0 w20 ∧ Sep w0.heap.size w20 [R.own ty_5 F27 v26 l25, R.blk b13 69 [v23, v26]] ∧ (v23 = .pointer none ∨ v23 = .pointer (some ⟨b13, 0, none⟩)) ∧ F_impl_TimetableText_L1 x1 x0 m l25 y28 = some r) FU ?_ ?_)) a ha)))))))) a ha
  ·
   have hS30 := hS17.push0 (r := R.own ty_5 [] (.slice none 0 0) []) rfl fun _ => .inl ⟨rfl, rfl, rfl⟩
   exact fun a ha => ⟨[], 0, (.pointer none), (.slice none 0 0), [], ha.sub ⟨rfl, rfl, rfl, rfl, rfl, trivial⟩, hB16, (hS30.sel [0, 1] rfl), (.inl rfl), hF⟩
  ·
   rintro m32 a w20 ⟨l25, y28, v23, v26, F27, ha, hB21, hS22, hp24, hF⟩ KL31 hKL31
   refine W.at ?_ ha
   cases m32 with
   | zero => exact noneE hF
   | succ m32 =>
    obtain ⟨nx29, hnx29⟩ : ∃ k, k = F_impl_TimetableText_L1 x1 x0 m32 := ⟨_, rfl⟩
    rw [F_impl_TimetableText_L1, ← hnx29] at hF
    refine W.seq fun K33 hK33 => W.region (wl_lss rfl rfl rfl (WL.nil (fun a ha => hK33 _ _ (W.seq fun K34 hK34 => (W.cond rfl (fun h35 => ?_) (fun h35 => ?_))) a ha)))
    ·replace hF := ifP h35 hF
     refine W.skip fun a ha => hK34 _ _ (W.seq fun K36 hK36 => (W.block (W.seq fun K37 hK37 => (W.region ?_)))) a ha
     obtain ⟨u38, hu38, hF⟩ := bindE hF
     refine wl_index (e := ty_39) Tryd.underlying30 rfl rfl rfl h1_0 hu38 ?_
     rintro p39 _ rfl hp40
     refine wl_load_p (vs := [(.int .i64 u38.1), (.string (mkS u38.2))]) (v := (.agg #[(.int .i64 u38.1), (.string (mkS u38.2))])) tf_39 rfl rfl (hp40.ro hB21) rfl rfl (wl_alloc (cs := [(.int .i64 0), (.string (mkS []))]) tf_39 rfl rfl hB21 hS22 ?_)
     intro b41 w42 hb43 hB44 hS45
     refine wl_store_blk (i := 0) (vs := [(.int .i64 u38.1), (.string (mkS u38.2))]) (cs' := [(.int .i64 u38.1), (.string (mkS u38.2))]) tf_39 rfl rfl rfl rfl hB44 hS45 rfl rfl ⟨rfl, rfl, trivial⟩ rfl ?_
     intro w46 hk49 hB47 hS48
     refine WL.nil fun a ha => hK37 _ _ (W.regionH mixed_ (F27 ++ [b13]) hB47 hS48 ?_) a ha
     intro w50 hb51 hB52 hS53
     have hSW54 := KeepX.refl w50 (F27 ++ [b13])
     refine WH.tk 0 rfl hP hSW54 (pr_move rfl rfl (WH.tk 1 rfl hP hSW54 (pr_field (o := 0) (off' := 0) ff_39_0 rfl rfl rfl (WH.tk 2 rfl hP hSW54 (pr_load_blk (i := 0) (vs := [(.int .i64 u38.1)]) (v := (.int .i64 u38.1)) tf_3 rfl rfl hS53 rfl rfl rfl (fun hb => (List.mem_append.1 hb).elim (hS53.disj (i := 0) (j := 1) rfl rfl rfl b41 (by simp [R.blk])) (hS53.disj (i := 0) (j := 2) rfl rfl rfl b41 (by simp [R.blk]))) (WH.tk 6 rfl hP hSW54 (pr_field (o := 0) (off' := 0) ff_39_0 rfl rfl rfl (WH.tk 7 rfl hP hSW54 (pr_load_blk (i := 0) (vs := [(.int .i64 u38.1)]) (v := (.int .i64 u38.1)) tf_3 rfl rfl hS53 rfl rfl rfl (fun hb => (List.mem_append.1 hb).elim (hS53.disj (i := 0) (j := 1) rfl rfl rfl b41 (by simp [R.blk])) (hS53.disj (i := 0) (j := 2) rfl rfl rfl b41 (by simp [R.blk]))) (WH.tk 11 rfl hP hSW54 (pr_field (o := 1) (off' := 1) ff_39_1 rfl rfl rfl (WH.tk 12 rfl hP hSW54 ?_))))))))))))
     refine pr_load_blk (i := 0) (vs := [(.string (mkS u38.2))]) (v := (.string (mkS u38.2))) tf_9 rfl rfl hS53 rfl rfl rfl (fun hb => (List.mem_append.1 hb).elim (hS53.disj (i := 0) (j := 1) rfl rfl rfl b41 (by simp [R.blk])) (hS53.disj (i := 0) (j := 2) rfl rfl rfl b41 (by simp [R.blk]))) (WH.on1 3 rfl ?_)
     obtain ⟨u55, hu55, hF⟩ := bindE hF
     refine wl_call rfl Tryd.call42 (C_impl_timeOf w50 x0 v0_0 (h0_0.ro hB52) u38.1 _ hu55) rfl ?_
     rintro _ w56 ⟨rfl, hb57⟩
     refine ⟨_, rfl, ?_⟩
     have hB58 := hB52.trans (hb57.mono hB52.size)
     have hS59 := hS53.below hb57
     have hSW61 := hSW54.ext hb57
     refine WL.nil (WH.ret hSW61 (WH.on1 4 rfl ?_))
     obtain ⟨u63, hu63, hF⟩ := bindE hF
     refine wl_call rfl Tryd.call41 (C_impl_timeText w56 (hT.st hB58) u55 _ hu63) rfl ?_
     rintro _ w65 ⟨rfl, hb66⟩
     refine ⟨_, rfl, ?_⟩
     have hB67 := hB58.trans (hb66.mono hB58.size)
     have hS68 := hS59.below hb66
     have hSW70 := hSW61.ext hb66
     refine WL.nil (WH.ret hSW70 ?_)
     obtain ⟨u72, hu72, hF⟩ := bindE hF
     refine WH.tk 5 rfl hP hSW70 (pr_stradd rfl rfl rfl hu72 (WH.on1 8 rfl ?_))
     obtain ⟨u73, hu73, hF⟩ := bindE hF
     refine wl_call rfl Tryd.call43 (C_strconv_Itoa w65 (hT.st hB67) u38.1 _ hu73) rfl ?_
     rintro _ w74 ⟨rfl, hb75⟩
     refine ⟨_, rfl, ?_⟩
     have hB76 := hB67.trans (hb75.mono hB67.size)
     have hS77 := hS68.below hb75
     have hSW79 := hSW70.ext hb75
     refine WL.nil (WH.ret hSW79 ?_)
     obtain ⟨u81, hu81, hF⟩ := bindE hF
     refine WH.tk 9 rfl hP hSW79 (pr_stradd rfl rfl rfl hu81 ?_)
     obtain ⟨u82, hu82, hF⟩ := bindE hF
     refine WH.tk 10 rfl hP hSW79 (pr_stradd rfl rfl rfl hu82 ?_)
     obtain ⟨u83, hu83, hF⟩ := bindE hF
     refine WH.tk 13 rfl hP hSW79 (pr_stradd rfl rfl rfl hu83 ?_)
     obtain ⟨u84, hu84, hF⟩ := bindE hF
     refine WH.tk 14 rfl hP hSW79 (pr_stradd rfl rfl rfl hu84 (WH.on1 15 rfl ?_))
     obtain ⟨u85, hu85, hF⟩ := bindE hF
     refine wl_call rfl Tryd.call40 (C_Builder_WriteString w74 b13 v23 v26 hp24 F27 l25 u84 (hS77.sel [2, 1] rfl).base0 _ hu85) rfl ?_
     rintro _ w86 ⟨rfl, hE87, v91, F92, hM88, hM88z⟩
     refine ⟨_, rfl, ?_⟩
     have hB89 := hS77.takeB [2, 1] rfl (M := [R.blk b13 69 [v23, v26], R.own ty_5 F27 v26 l25]) rfl hB76 hE87 hM88
     have hS90 : Sep w0.heap.size w86 [R.blk b13 69 [(.pointer (some ⟨b13, 0, none⟩)), v91], R.own ty_5 F92 v91 u85, R.blk b41 39 [(.int .i64 u38.1), (.string (mkS u38.2))]] := hS77.take [2, 1] [0] rfl (M := [R.blk b13 69 [v23, v26], R.own ty_5 F27 v26 l25]) rfl hM88 hB76.size
     have hk93 := bld_kept hM88 hM88z
     have hSW94 := hSW79.wr' hk93.1 hk93.2 (fun b hlt hb => (List.mem_append.1 hb).elim ((fun _ _ h => List.mem_append_right _ h) b hlt) ((fun _ _ h => List.mem_append_left _ (h)) b hlt))
     refine WL.nil (WH.ret hSW94 (WH.done (by kernel_rfl) (fun a ha => hK36 _ _ (W.region (wl_add rfl rfl rfl (wl_move rfl rfl (WL.nil ?_)))) a ha)))
     rw [hnx29] at hF
     exact fun a ha => hKL31 a _ m32 (Nat.lt_succ_self m32) ⟨u85, (w64 (y28 + 1)), (.pointer (some ⟨b13, 0, none⟩)), v91, F92, ha.sub ⟨rfl, rfl, rfl, rfl, rfl, trivial⟩, hB89, (hS90.sel [1, 0] rfl), (.inr rfl), hF⟩
    ·replace hF := ifN h35 hF
     refine W.exit fun a ha => hK18 _ _ (W.seq fun K95 hK95 => (W.region ?_)) a ha
     obtain ⟨u96, hu96, hF⟩ := bindE hF
     refine wl_call rfl Tryd.call44 (C_Builder_String w0 w20 b13 v23 v26 hp24 F27 l25 hB21 (hS22.sel [1, 0] rfl) _ hu96) rfl ?_
     rintro _ w97 ⟨rfl, hB98⟩
     refine ⟨_, rfl, (wl_assign rfl rfl (wl_assign rfl rfl (WL.nil (fun a ha => hK95 _ _ (W.ret ?_) a ha))))⟩
     have hr := Option.some.inj hF
     subst hr
     exact rets (vs := [(.string (mkS u96)), (.bool true)]) hQ rfl ⟨rv_tmp rfl, rv_tmp rfl, trivial⟩ ⟨rfl, hB98⟩
theorem C_laws_eqMeasure (w0 : World) (x0 : (Int × Int)) (x1 : (Int × Int)) (r : Bool) (hF : F_laws_eqMeasure x0 x1 = some r) :
  Calls Tryd.prog 45 [(.agg #[(.int .i64 x0.1), (.int .i64 x0.2)]), (.agg #[(.int .i64 x1.1), (.int .i64 x1.2)])].toArray w0 fun e w' => e = .returned (.bool r) ∧ Below w0.heap.size w0 w' := by
 refine calls_mk' Tryd.func45 rfl Tryd.ntmps45 rfl rfl fun Q hQ hP => ?_
 have hB : Below w0.heap.size w0 w0 := Below.refl _ _
 have hS : Sep w0.heap.size w0 [] := Sep.nil _ _
 unfold F_laws_eqMeasure at hF
 refine W.seq fun K1 hK1 => W.region (wl_box (cs := [(.int .i64 x0.1), (.int .i64 x0.2)]) rfl rfl rfl hB hS ?_)
 intro b2 w3 hb4 hB5 hS6
 refine wl_box (cs := [(.int .i64 x1.1), (.int .i64 x1.2)]) rfl rfl rfl hB5 hS6 ?_
 intro b7 w8 hb9 hB10 hS11
 refine wl_assign rfl rfl (WL.nil (fun a ha => hK1 _ _ (W.seq fun K12 hK12 => (W.seq fun K13 hK13 => (W.region (wl_field (o := 0) (off' := 0) ff_63_0 rfl rfl rfl (wl_load_blk (i := 1) (vs := [(.int .i64 x0.1)]) (v := (.int .i64 x0.1)) tf_3 rfl rfl hS11 rfl rfl rfl (wl_field (o := 0) (off' := 0) ff_63_0 rfl rfl rfl (wl_load_blk (i := 0) (vs := [(.int .i64 x1.1)]) (v := (.int .i64 x1.1)) tf_3 rfl rfl hS11 rfl rfl rfl (wl_neq rfl rfl rfl (WL.nil (fun a ha => hK13 _ _ (W.cond rfl (fun h14 => ?_) (fun h14 => ?_)) a ha)))))))))) a ha))
 ·replace hF := ifP h14 hF
  refine W.seq fun K15 hK15 => W.region (wl_assign rfl rfl (WL.nil (fun a ha => hK15 _ _ (W.ret ?_) a ha)))
  have hr := Option.some.inj hF
  subst hr
  exact rets (vs := [(.bool false)]) hQ rfl ⟨rv_tmp rfl, trivial⟩ ⟨rfl, hB10⟩
 ·replace hF := ifN h14 hF
  refine W.skip fun a ha => hK12 _ _ (W.seq fun K16 hK16 => (W.seq fun K17 hK17 => (W.region (wl_field (o := 1) (off' := 1) ff_63_1 rfl rfl rfl (wl_load_blk (i := 1) (vs := [(.int .i64 x0.2)]) (v := (.int .i64 x0.2)) tf_3 rfl rfl hS11 rfl rfl rfl (wl_field (o := 1) (off' := 1) ff_63_1 rfl rfl rfl (wl_load_blk (i := 0) (vs := [(.int .i64 x1.2)]) (v := (.int .i64 x1.2)) tf_3 rfl rfl hS11 rfl rfl rfl (wl_neq rfl rfl rfl (WL.nil (fun a ha => hK17 _ _ (W.cond rfl (fun h18 => ?_) (fun h18 => ?_)) a ha)))))))))) a ha
  ·replace hF := ifP h18 hF
   refine W.seq fun K19 hK19 => W.region (wl_assign rfl rfl (WL.nil (fun a ha => hK19 _ _ (W.ret ?_) a ha)))
   have hr := Option.some.inj hF
   subst hr
   exact rets (vs := [(.bool false)]) hQ rfl ⟨rv_tmp rfl, trivial⟩ ⟨rfl, hB10⟩
  ·replace hF := ifN h18 hF
   refine W.skip fun a ha => hK16 _ _ (W.seq fun K20 hK20 => (W.region (wl_assign rfl rfl (WL.nil (fun a ha => hK20 _ _ (W.ret ?_) a ha))))) a ha
   have hr := Option.some.inj hF
   subst hr
   exact rets (vs := [(.bool true)]) hQ rfl ⟨rv_tmp rfl, trivial⟩ ⟨rfl, hB10⟩
theorem C_laws_eqMeasureS (w0 : World) (x0 : (List (Int × Int))) (v0_0 : Value) (h0_0 : rdS ty_63 (· < w0.heap.size) w0 v0_0 x0) (x1 : (List (Int × Int))) (v1_0 : Value) (h1_0 : rdS ty_63 (· < w0.heap.size) w0 v1_0 x1) (r : Bool) (hF : F_laws_eqMeasureS x0 x1 = some r) :
  Calls Tryd.prog 11 [v0_0, v1_0].toArray w0 fun e w' => e = .returned (.bool r) ∧ Below w0.heap.size w0 w' := by
 refine calls_mk' Tryd.func11 rfl Tryd.ntmps11 rfl rfl fun Q hQ hP => ?_
 have hB : Below w0.heap.size w0 w0 := Below.refl _ _
 have hS : Sep w0.heap.size w0 [] := Sep.nil _ _
 unfold F_laws_eqMeasureS at hF
 refine W.seq fun K1 hK1 => W.region (wl_assign rfl rfl (WL.nil (fun a ha => hK1 _ _ (W.seq fun K2 hK2 => (W.seq fun K3 hK3 => (W.region (wl_move rfl rfl (wl_lenr (e := ty_63) (l := x0) Tryd.underlying28 rfl rfl h0_0 (wl_move rfl rfl (wl_lenr (e := ty_63) (l := x1) Tryd.underlying28 rfl rfl h1_0 (wl_neq rfl rfl rfl (WL.nil ?_))))))))) a ha)))
 refine fun a ha => hK3 _ _ (W.cond rfl (fun h4 => ?_) (fun h4 => ?_)) a ha
 ·replace hF := ifP h4 hF
  refine W.seq fun K5 hK5 => W.region (wl_assign rfl rfl (WL.nil (fun a ha => hK5 _ _ (W.ret ?_) a ha)))
  have hr := Option.some.inj hF
  subst hr
  exact rets (vs := [(.bool false)]) hQ rfl ⟨rv_tmp rfl, trivial⟩ ⟨rfl, hB⟩
 ·replace hF := ifN h4 hF
  refine W.skip fun a ha => hK2 _ _ (W.seq fun K6 hK6 => (W.seq fun K7 hK7 => (W.region (wl_assign rfl rfl (WL.nil (fun a ha => hK7 _ _ (W.block (W.loopk (fun m a w8 => ∃ (y11 : Int), St 27 [(0, v0_0), (1, v1_0), (5, (.int .i64 y11))] a ∧ Below w0.heap.size w0 w8 ∧ Sep w0.heap.size w8 [] ∧ F_laws_eqMeasureS_L1 x0 x1 m y11 = some r) FU ?_ ?_)) a ha)))))) a ha
  ·
   exact fun a ha => ⟨0, ha.sub ⟨rfl, rfl, rfl, trivial⟩, hB, (hS.sel [] rfl), hF⟩
  ·
   rintro m14 a w8 ⟨y11, ha, hB9, hS10, hF⟩ KL13 hKL13
   refine W.at ?_ ha
   cases m14 with
   | zero => exact noneE hF
   | succ m14 =>
    obtain ⟨nx12, hnx12⟩ : ∃ k, k = F_laws_eqMeasureS_L1 x0 x1 m14 := ⟨_, rfl⟩
    rw [F_laws_eqMeasureS_L1, ← hnx12] at hF
    refine W.seq fun K15 hK15 => W.seq fun K16 hK16 => W.region (wl_move rfl rfl (wl_move rfl rfl (wl_lenr (e := ty_63) (l := x0) Tryd.underlying28 rfl rfl h0_0 (wl_lss rfl rfl rfl (WL.nil (fun a ha => hK16 _ _ (W.cond rfl (fun h17 => ?_) (fun h17 => ?_)) a ha))))))
    ·replace hF := ifP h17 hF
     refine W.skip fun a ha => hK15 _ _ (W.seq fun K18 hK18 => (W.block (W.seq fun K19 hK19 => (W.regionH mixed_ [] hB9 hS10 ?_)))) a ha
     intro w20 hb21 hB22 hS23
     have hSW24 := KeepX.refl w20 []
     refine WH.tk 0 rfl hP hSW24 (pr_move rfl rfl (WH.tk 1 rfl hP hSW24 (pr_move rfl rfl ?_)))
     obtain ⟨u25, hu25, hF⟩ := bindE hF
     refine WH.tk 2 rfl hP hSW24 (pr_index (e := ty_63) Tryd.underlying28 rfl rfl rfl h0_0 hu25 ?_)
     rintro p26 _ rfl hp27
     refine WH.tk 3 rfl hP hSW24 (pr_load_p (vs := [(.int .i64 u25.1), (.int .i64 u25.2)]) (v := (.agg #[(.int .i64 u25.1), (.int .i64 u25.2)])) tf_63 rfl rfl (hp27.kx hB22 (by simp)) rfl rfl (WH.tk 4 rfl hP hSW24 (pr_move rfl rfl (WH.tk 5 rfl hP hSW24 (pr_move rfl rfl ?_)))))
     obtain ⟨u28, hu28, hF⟩ := bindE hF
     refine WH.tk 6 rfl hP hSW24 (pr_index (e := ty_63) Tryd.underlying28 rfl rfl rfl h1_0 hu28 ?_)
     rintro p29 _ rfl hp30
     refine WH.tk 7 rfl hP hSW24 (pr_load_p (vs := [(.int .i64 u28.1), (.int .i64 u28.2)]) (v := (.agg #[(.int .i64 u28.1), (.int .i64 u28.2)])) tf_63 rfl rfl (hp30.kx hB22 (by simp)) rfl rfl (WH.on1 8 rfl ?_))
     obtain ⟨u31, hu31, hF⟩ := bindE hF
     refine wl_call rfl Tryd.call45 (C_laws_eqMeasure w20 u25 u28 _ hu31) rfl ?_
     rintro _ w32 ⟨rfl, hb33⟩
     refine ⟨_, rfl, ?_⟩
     have hB34 := hB22.trans (hb33.mono hB22.size)
     have hS35 := hS23.below hb33
     have hSW37 := hSW24.ext hb33
     refine WL.nil (WH.ret hSW37 (WH.tk 9 rfl hP hSW37 (pr_not rfl rfl (WH.done (by kernel_rfl) (fun a ha => hK19 _ _ (W.cond rfl (fun h38 => ?_) (fun h38 => ?_)) a ha)))))
     ·replace hF := ifP h38 hF
      refine W.seq fun K39 hK39 => W.region (wl_assign rfl rfl (WL.nil (fun a ha => hK39 _ _ (W.ret ?_) a ha)))
      have hr := Option.some.inj hF
      subst hr
      exact rets (vs := [(.bool false)]) hQ rfl ⟨rv_tmp rfl, trivial⟩ ⟨rfl, hB34⟩
     ·replace hF := ifN h38 hF
      refine W.skip fun a ha => hK18 _ _ (W.region (wl_move rfl rfl (wl_add rfl rfl rfl (wl_assign rfl rfl (WL.nil ?_))))) a ha
      rw [hnx12] at hF
      exact fun a ha => hKL13 a _ m14 (Nat.lt_succ_self m14) ⟨(w64 (y11 + 1)), ha.sub ⟨rfl, rfl, rfl, trivial⟩, hB34, (hS35.sel [] rfl), hF⟩
    ·replace hF := ifN h17 hF
     refine W.exit fun a ha => hK6 _ _ (W.seq fun K40 hK40 => (W.region (wl_assign rfl rfl (WL.nil (fun a ha => hK40 _ _ (W.ret ?_) a ha))))) a ha
     have hr := Option.some.inj hF
     subst hr
     exact rets (vs := [(.bool true)]) hQ rfl ⟨rv_tmp rfl, trivial⟩ ⟨rfl, hB9⟩
theorem C_laws_eqCue (w0 : World) (x0 : (Int × (List UInt8))) (x1 : (Int × (List UInt8))) (r : Bool) (hF : F_laws_eqCue x0 x1 = some r) :
  Calls Tryd.prog 46 [(.agg #[(.int .i64 x0.1), (.string (mkS x0.2))]), (.agg #[(.int .i64 x1.1), (.string (mkS x1.2))])].toArray w0 fun e w' => e = .returned (.bool r) ∧ Below w0.heap.size w0 w' := by
 refine calls_mk' Tryd.func46 rfl Tryd.ntmps46 rfl rfl fun Q hQ hP => ?_
 have hB : Below w0.heap.size w0 w0 := Below.refl _ _
 have hS : Sep w0.heap.size w0 [] := Sep.nil _ _
 unfold F_laws_eqCue at hF
 refine W.seq fun K1 hK1 => W.region (wl_box (cs := [(.int .i64 x0.1), (.string (mkS x0.2))]) rfl rfl rfl hB hS ?_)
 intro b2 w3 hb4 hB5 hS6
 refine wl_box (cs := [(.int .i64 x1.1), (.string (mkS x1.2))]) rfl rfl rfl hB5 hS6 ?_
 intro b7 w8 hb9 hB10 hS11
 refine wl_assign rfl rfl (WL.nil (fun a ha => hK1 _ _ (W.seq fun K12 hK12 => (W.seq fun K13 hK13 => (W.region (wl_field (o := 0) (off' := 0) ff_39_0 rfl rfl rfl (wl_load_blk (i := 1) (vs := [(.int .i64 x0.1)]) (v := (.int .i64 x0.1)) tf_3 rfl rfl hS11 rfl rfl rfl (wl_field (o := 0) (off' := 0) ff_39_0 rfl rfl rfl (wl_load_blk (i := 0) (vs := [(.int .i64 x1.1)]) (v := (.int .i64 x1.1)) tf_3 rfl rfl hS11 rfl rfl rfl (wl_neq rfl rfl rfl (WL.nil (fun a ha => hK13 _ _ (W.cond rfl (fun h14 => ?_) (fun h14 => ?_)) a ha)))))))))) a ha))
 ·replace hF := ifP h14 hF
  refine W.seq fun K15 hK15 => W.region (wl_assign rfl rfl (WL.nil (fun a ha => hK15 _ _ (W.ret ?_) a ha)))
  have hr := Option.some.inj hF
  subst hr
  exact rets (vs := [(.bool false)]) hQ rfl ⟨rv_tmp rfl, trivial⟩ ⟨rfl, hB10⟩
 ·replace hF := ifN h14 hF
  refine W.skip fun a ha => hK12 _ _ (W.seq fun K16 hK16 => (W.seq fun K17 hK17 => (W.region (wl_field (o := 1) (off' := 1) ff_39_1 rfl rfl rfl (wl_load_blk (i := 1) (vs := [(.string (mkS x0.2))]) (v := (.string (mkS x0.2))) tf_9 rfl rfl hS11 rfl rfl rfl (wl_field (o := 1) (off' := 1) ff_39_1 rfl rfl rfl (wl_load_blk (i := 0) (vs := [(.string (mkS x1.2))]) (v := (.string (mkS x1.2))) tf_9 rfl rfl hS11 rfl rfl rfl (wl_strneq rfl rfl rfl (WL.nil (fun a ha => hK17 _ _ (W.cond rfl (fun h18 => ?_) (fun h18 => ?_)) a ha)))))))))) a ha
  ·replace hF := ifP h18 hF
   refine W.seq fun K19 hK19 => W.region (wl_assign rfl rfl (WL.nil (fun a ha => hK19 _ _ (W.ret ?_) a ha)))
   have hr := Option.some.inj hF
   subst hr
   exact rets (vs := [(.bool false)]) hQ rfl ⟨rv_tmp rfl, trivial⟩ ⟨rfl, hB10⟩
  ·replace hF := ifN h18 hF
   refine W.skip fun a ha => hK16 _ _ (W.seq fun K20 hK20 => (W.region (wl_assign rfl rfl (WL.nil (fun a ha => hK20 _ _ (W.ret ?_) a ha))))) a ha
   have hr := Option.some.inj hF
   subst hr
   exact rets (vs := [(.bool true)]) hQ rfl ⟨rv_tmp rfl, trivial⟩ ⟨rfl, hB10⟩
theorem C_laws_eqCueS (w0 : World) (x0 : (List (Int × (List UInt8)))) (v0_0 : Value) (h0_0 : rdS ty_39 (· < w0.heap.size) w0 v0_0 x0) (x1 : (List (Int × (List UInt8)))) (v1_0 : Value) (h1_0 : rdS ty_39 (· < w0.heap.size) w0 v1_0 x1) (r : Bool) (hF : F_laws_eqCueS x0 x1 = some r) :
  Calls Tryd.prog 12 [v0_0, v1_0].toArray w0 fun e w' => e = .returned (.bool r) ∧ Below w0.heap.size w0 w' := by
 refine calls_mk' Tryd.func12 rfl Tryd.ntmps12 rfl rfl fun Q hQ hP => ?_
 have hB : Below w0.heap.size w0 w0 := Below.refl _ _
 have hS : Sep w0.heap.size w0 [] := Sep.nil _ _
 unfold F_laws_eqCueS at hF
 refine W.seq fun K1 hK1 => W.region (wl_assign rfl rfl (WL.nil (fun a ha => hK1 _ _ (W.seq fun K2 hK2 => (W.seq fun K3 hK3 => (W.region (wl_move rfl rfl (wl_lenr (e := ty_39) (l := x0) Tryd.underlying30 rfl rfl h0_0 (wl_move rfl rfl (wl_lenr (e := ty_39) (l := x1) Tryd.underlying30 rfl rfl h1_0 (wl_neq rfl rfl rfl (WL.nil ?_))))))))) a ha)))
 refine fun a ha => hK3 _ _ (W.cond rfl (fun h4 => ?_) (fun h4 => ?_)) a ha
 ·replace hF := ifP h4 hF
  refine W.seq fun K5 hK5 => W.region (wl_assign rfl rfl (WL.nil (fun a ha => hK5 _ _ (W.ret ?_) a ha)))
  have hr := Option.some.inj hF
  subst hr
  exact rets (vs := [(.bool false)]) hQ rfl ⟨rv_tmp rfl, trivial⟩ ⟨rfl, hB⟩
 ·replace hF := ifN h4 hF
  refine W.skip fun a ha => hK2 _ _ (W.seq fun K6 hK6 => (W.seq fun K7 hK7 => (W.region (wl_assign rfl rfl (WL.nil (fun a ha => hK7 _ _ (W.block (W.loopk (fun m a w8 => ∃ (y11 : Int), St 27 [(0, v0_0), (1, v1_0), (5, (.int .i64 y11))] a ∧ Below w0.heap.size w0 w8 ∧ Sep w0.heap.size w8 [] ∧ F_laws_eqCueS_L1 x0 x1 m y11 = some r) FU ?_ ?_)) a ha)))))) a ha
  ·
   exact fun a ha => ⟨0, ha.sub ⟨rfl, rfl, rfl, trivial⟩, hB, (hS.sel [] rfl), hF⟩
  ·
   rintro m14 a w8 ⟨y11, ha, hB9, hS10, hF⟩ KL13 hKL13
   refine W.at ?_ ha
   cases m14 with
   | zero => exact noneE hF
   | succ m14 =>
    obtain ⟨nx12, hnx12⟩ : ∃ k, k = F_laws_eqCueS_L1 x0 x1 m14 := ⟨_, rfl⟩
    rw [F_laws_eqCueS_L1, ← hnx12] at hF
    refine W.seq fun K15 hK15 => W.seq fun K16 hK16 => W.region (wl_move rfl rfl (wl_move rfl rfl (wl_lenr (e := ty_39) (l := x0) Tryd.underlying30 rfl rfl h0_0 (wl_lss rfl rfl rfl (WL.nil (fun a ha => hK16 _ _ (W.cond rfl (fun h17 => ?_) (fun h17 => ?_)) a ha))))))
    ·replace hF := ifP h17 hF
     refine W.skip fun a ha => hK15 _ _ (W.seq fun K18 hK18 => (W.block (W.seq fun K19 hK19 => (W.regionH mixed_ [] hB9 hS10 ?_)))) a ha
     intro w20 hb21 hB22 hS23
     have hSW24 := KeepX.refl w20 []
     refine WH.tk 0 rfl hP hSW24 (pr_move rfl rfl (WH.tk 1 rfl hP hSW24 (pr_move rfl rfl ?_)))
     obtain ⟨u25, hu25, hF⟩ := bindE hF
     refine WH.tk 2 rfl hP hSW24 (pr_index (e := ty_39) Tryd.underlying30 rfl rfl rfl h0_0 hu25 ?_)
     rintro p26 _ rfl hp27
     refine WH.tk 3 rfl hP hSW24 (pr_load_p (vs := [(.int .i64 u25.1), (.string (mkS u25.2))]) (v := (.agg #[(.int .i64 u25.1), (.string (mkS u25.2))])) tf_39 rfl rfl (hp27.kx hB22 (by simp)) rfl rfl (WH.tk 4 rfl hP hSW24 (pr_move rfl rfl (WH.tk 5 rfl hP hSW24 (pr_move rfl rfl ?_)))))
     obtain ⟨u28, hu28, hF⟩ := bindE hF
     refine WH.tk 6 rfl hP hSW24 (pr_index (e := ty_39) Tryd.underlying30 rfl rfl rfl h1_0 hu28 ?_)
     rintro p29 _ rfl hp30
     refine WH.tk 7 rfl hP hSW24 (pr_load_p (vs := [(.int .i64 u28.1), (.string (mkS u28.2))]) (v := (.agg #[(.int .i64 u28.1), (.string (mkS u28.2))])) tf_39 rfl rfl (hp30.kx hB22 (by simp)) rfl rfl (WH.on1 8 rfl ?_))
     obtain ⟨u31, hu31, hF⟩ := bindE hF
     refine wl_call rfl Tryd.call46 (C_laws_eqCue w20 u25 u28 _ hu31) rfl ?_
     rintro _ w32 ⟨rfl, hb33⟩
     refine ⟨_, rfl, ?_⟩
     have hB34 := hB22.trans (hb33.mono hB22.size)
     have hS35 := hS23.below hb33
     have hSW37 := hSW24.ext hb33
     refine WL.nil (WH.ret hSW37 (WH.tk 9 rfl hP hSW37 (pr_not rfl rfl (WH.done (by kernel_rfl) (fun a ha => hK19 _ _ (W.cond rfl (fun h38 => ?_) (fun h38 => ?_)) a ha)))))
     ·replace hF := ifP h38 hF
      refine W.seq fun K39 hK39 => W.region (wl_assign rfl rfl (WL.nil (fun a ha => hK39 _ _ (W.ret ?_) a ha)))
      have hr := Option.some.inj hF
      subst hr
      exact rets (vs := [(.bool false)]) hQ rfl ⟨rv_tmp rfl, trivial⟩ ⟨rfl, hB34⟩
     ·replace hF := ifN h38 hF
      refine W.skip fun a ha => hK18 _ _ (W.region (wl_move rfl rfl (wl_add rfl rfl rfl (wl_assign rfl rfl (WL.nil ?_))))) a ha
      rw [hnx12] at hF
      exact fun a ha => hKL13 a _ m14 (Nat.lt_succ_self m14) ⟨(w64 (y11 + 1)), ha.sub ⟨rfl, rfl, rfl, trivial⟩, hB34, (hS35.sel [] rfl), hF⟩
    ·replace hF := ifN h17 hF
     refine W.exit fun a ha => hK6 _ _ (W.seq fun K40 hK40 => (W.region (wl_assign rfl rfl (WL.nil (fun a ha => hK40 _ _ (W.ret ?_) a ha))))) a ha
     have hr := Option.some.inj hF
     subst hr
     exact rets (vs := [(.bool true)]) hQ rfl ⟨rv_tmp rfl, trivial⟩ ⟨rfl, hB9⟩
theorem C_laws_FnExactTimetableText (w0 : World) (hT : Tab w0) (x0 : (List (Int × Int))) (v0_0 : Value) (h0_0 : rdS ty_65 (· < w0.heap.size) w0 v0_0 x0) (x1 : (List (Int × (List UInt8)))) (v1_0 : Value) (h1_0 : rdS ty_57 (· < w0.heap.size) w0 v1_0 x1) (r : Bool) (hF : F_laws_FnExactTimetableText x0 x1 = some r) :
  Calls Tryd.prog 3 [v0_0, v1_0].toArray w0 fun e w' => e = .returned (.bool r) ∧ Below w0.heap.size w0 w' := by
 refine calls_mk' Tryd.func3 rfl Tryd.ntmps3 rfl rfl fun Q hQ hP => ?_
 have hB : Below w0.heap.size w0 w0 := Below.refl _ _
 have hS : Sep w0.heap.size w0 [] := Sep.nil _ _
 unfold F_laws_FnExactTimetableText at hF
 refine W.seq fun K1 hK1 => W.region (wl_assign rfl rfl (WL.nil (fun a ha => hK1 _ _ (W.seq fun K2 hK2 => (W.region (wl_assign rfl rfl (WL.nil (fun a ha => hK2 _ _ (W.seq fun K3 hK3 => (W.region (wl_move rfl rfl (wl_move rfl rfl ?_)))) a ha))))) a ha)))
 obtain ⟨u4, hu4, hF⟩ := bindE hF
 refine wl_call rfl Tryd.call5 (C_laws_szMeasureS w0 x0 v0_0 (h0_0.ro hB) 1048576 _ hu4) rfl ?_
 rintro _ w5 ⟨rfl, hb6⟩
 refine ⟨_, rfl, ?_⟩
 have hB7 := hB.trans (hb6.mono hB.size)
 have hS8 := hS.below hb6
 refine wl_assign rfl rfl (WL.nil (fun a ha => hK3 _ _ (W.seq fun K10 hK10 => (W.seq fun K11 hK11 => (W.region (wl_move rfl rfl (wl_lss rfl rfl rfl (WL.nil (fun a ha => hK11 _ _ (W.cond rfl (fun h12 => ?_) (fun h12 => ?_)) a ha))))))) a ha))
 ·replace hF := ifP h12 hF
  refine W.seq fun K13 hK13 => W.region (wl_assign rfl rfl (WL.nil (fun a ha => hK13 _ _ (W.ret ?_) a ha)))
  have hr := Option.some.inj hF
  subst hr
  exact rets (vs := [(.bool true)]) hQ rfl ⟨rv_tmp rfl, trivial⟩ ⟨rfl, hB7⟩
 ·replace hF := ifN h12 hF
  refine W.skip fun a ha => hK10 _ _ (W.seq fun K14 hK14 => (W.region (wl_move rfl rfl (wl_move rfl rfl ?_)))) a ha
  obtain ⟨u15, hu15, hF⟩ := bindE hF
  refine wl_call rfl Tryd.call6 (C_laws_szCueS w5 x1 v1_0 (h1_0.ro hB7) u4 _ hu15) rfl ?_
  rintro _ w16 ⟨rfl, hb17⟩
  refine ⟨_, rfl, ?_⟩
  have hB18 := hB7.trans (hb17.mono hB7.size)
  have hS19 := hS8.below hb17
  refine wl_assign rfl rfl (WL.nil (fun a ha => hK14 _ _ (W.seq fun K21 hK21 => (W.seq fun K22 hK22 => (W.region (wl_move rfl rfl (wl_lss rfl rfl rfl (WL.nil (fun a ha => hK22 _ _ (W.cond rfl (fun h23 => ?_) (fun h23 => ?_)) a ha))))))) a ha))
  ·replace hF := ifP h23 hF
   refine W.seq fun K24 hK24 => W.region (wl_assign rfl rfl (WL.nil (fun a ha => hK24 _ _ (W.ret ?_) a ha)))
   have hr := Option.some.inj hF
   subst hr
   exact rets (vs := [(.bool true)]) hQ rfl ⟨rv_tmp rfl, trivial⟩ ⟨rfl, hB18⟩
  ·replace hF := ifN h23 hF
   refine W.skip fun a ha => hK21 _ _ (W.seq fun K25 hK25 => (W.region (wl_move rfl rfl ?_))) a ha
   obtain ⟨u26, hu26, hF⟩ := bindE hF
   refine wl_call rfl Tryd.call8 (C_laws_toMeasureS w16 x0 v0_0 (h0_0.ro hB18) _ hu26) rfl ?_
   rintro _ w29 ⟨v27, F28, rfl, hb30, hM33⟩
   refine ⟨_, rfl, ?_⟩
   have hB31 := hB18.trans (hb30.mono hB18.size)
   have hS32 := hS19.join hb30 hM33 hB18.size
   refine wl_move rfl rfl ?_
   obtain ⟨u34, hu34, hF⟩ := bindE hF
   refine wl_call rfl Tryd.call9 (C_laws_toCueS w29 x1 v1_0 (h1_0.ro hB31) _ hu34) rfl ?_
   rintro _ w37 ⟨v35, F36, rfl, hb38, hM41⟩
   refine ⟨_, rfl, ?_⟩
   have hB39 := hB31.trans (hb38.mono hB31.size)
   have hS40 := hS32.join hb38 hM41 hB31.size
   obtain ⟨u42, hu42, hF⟩ := bindE hF
   refine wl_call rfl Tryd.call7 (C_spec_TimetableText w37 u26 v27 (hS40.own_ro (i := 1) rfl) u34 v35 (hS40.own_ro (i := 0) rfl) _ hu42) rfl ?_
   rintro _ w43 ⟨rfl, hb44⟩
   refine ⟨_, rfl, ?_⟩
   have hB45 := hB39.trans (hb44.mono hB39.size)
   have hS46 := hS40.below hb44
   refine wl_move rfl rfl (wl_extract rfl rfl rfl (wl_extract rfl rfl rfl (wl_assign rfl rfl (wl_assign rfl rfl (WL.nil (fun a ha => hK25 _ _ (W.seq fun K48 hK48 => (W.region (wl_move rfl rfl ?_))) a ha))))))
   obtain ⟨u49, hu49, hF⟩ := bindE hF
   refine wl_call rfl Tryd.call8 (C_laws_toMeasureS w43 x0 v0_0 (h0_0.ro hB45) _ hu49) rfl ?_
   rintro _ w52 ⟨v50, F51, rfl, hb53, hM56⟩
   refine ⟨_, rfl, ?_⟩
   have hB54 := hB45.trans (hb53.mono hB45.size)
   have hS55 := hS46.join hb53 hM56 hB45.size
   refine wl_assign rfl rfl (WL.nil (fun a ha => hK48 _ _ (W.seq fun K57 hK57 => (W.region (wl_move rfl rfl ?_))) a ha))
   obtain ⟨u58, hu58, hF⟩ := bindE hF
   refine wl_call rfl Tryd.call9 (C_laws_toCueS w52 x1 v1_0 (h1_0.ro hB54) _ hu58) rfl ?_
   rintro _ w61 ⟨v59, F60, rfl, hb62, hM65⟩
   refine ⟨_, rfl, ?_⟩
   have hB63 := hB54.trans (hb62.mono hB54.size)
   have hS64 := hS55.join hb62 hM65 hB54.size
   refine wl_assign rfl rfl (WL.nil (fun a ha => hK57 _ _ (W.seq fun K66 hK66 => (W.region (wl_move rfl rfl (wl_move rfl rfl ?_)))) a ha))
   obtain ⟨u67, hu67, hF⟩ := bindE hF
   refine wl_call rfl Tryd.call10 (C_impl_TimetableText w61 (hT.st hB63) u49 v50 (hS64.own_ro (i := 1) rfl) u58 v59 (hS64.own_ro (i := 0) rfl) _ hu67) rfl ?_
   rintro _ w68 ⟨rfl, hb69⟩
   refine ⟨_, rfl, ?_⟩
   have hB70 := hB63.trans (hb69.mono hB63.size)
   have hS71 := hS64.below hb69
   refine wl_move rfl rfl (wl_extract rfl rfl rfl (wl_extract rfl rfl rfl (wl_assign rfl rfl (wl_assign rfl rfl (WL.nil (fun a ha => hK66 _ _ (W.seq fun K73 hK73 => (W.seq fun K74 hK74 => ?_)) a ha))))))
   obtain ⟨k79, hk79, hF⟩ := jE1 hF
   have hJ80 : ∀ (y78 : Bool) (w75 : World) (_ : k79 y78 = some r) (_ : Below w0.heap.size w0 w75) (_ : Sep w0.heap.size w75 [R.own ty_63 F51 v50 u49, R.own ty_39 F60 v59 u58]), ∀ a, St 58 [(0, v0_0), (1, v1_0), (8, v50), (9, v59), (47, (.bool y78))] a → K74 a w75 := by
    intro y78 w75 hF hB76 hS77
    subst hk79
    refine fun a ha => hK74 _ _ (W.cond rfl (fun h81 => ?_) (fun h81 => ?_)) a ha
    ·replace hF := ifP h81 hF
     refine W.seq fun K82 hK82 => W.region (wl_assign rfl rfl (WL.nil (fun a ha => hK82 _ _ (W.ret ?_) a ha)))
     have hr := Option.some.inj hF
     subst hr
     exact rets (vs := [(.bool false)]) hQ rfl ⟨rv_tmp rfl, trivial⟩ ⟨rfl, hB76⟩
    ·replace hF := ifN h81 hF
     refine W.skip fun a ha => hK73 _ _ (W.seq fun K83 hK83 => (W.seq fun K84 hK84 => (W.region (wl_move rfl rfl (wl_move rfl rfl ?_))))) a ha
     obtain ⟨u85, hu85, hF⟩ := bindE hF
     refine wl_call rfl Tryd.call8 (C_laws_toMeasureS w75 x0 v0_0 (h0_0.ro hB76) _ hu85) rfl ?_
     rintro _ w88 ⟨v86, F87, rfl, hb89, hM92⟩
     refine ⟨_, rfl, ?_⟩
     have hB90 := hB76.trans (hb89.mono hB76.size)
     have hS91 := hS77.join hb89 hM92 hB76.size
     obtain ⟨u93, hu93, hF⟩ := bindE hF
     refine wl_call rfl Tryd.call11 (C_laws_eqMeasureS w88 u49 v50 (hS91.own_ro (i := 1) rfl) u85 v86 (hS91.own_ro (i := 0) rfl) _ hu93) rfl ?_
     rintro _ w94 ⟨rfl, hb95⟩
     refine ⟨_, rfl, ?_⟩
     have hB96 := hB90.trans (hb95.mono hB90.size)
     have hS97 := hS91.below hb95
     refine wl_not rfl rfl (WL.nil (fun a ha => hK84 _ _ (W.cond rfl (fun h99 => ?_) (fun h99 => ?_)) a ha))
     ·replace hF := ifP h99 hF
      refine W.seq fun K100 hK100 => W.region (wl_assign rfl rfl (WL.nil (fun a ha => hK100 _ _ (W.ret ?_) a ha)))
      have hr := Option.some.inj hF
      subst hr
      exact rets (vs := [(.bool false)]) hQ rfl ⟨rv_tmp rfl, trivial⟩ ⟨rfl, hB96⟩
     ·replace hF := ifN h99 hF
      refine W.skip fun a ha => hK83 _ _ (W.seq fun K101 hK101 => (W.seq fun K102 hK102 => (W.region (wl_move rfl rfl (wl_move rfl rfl ?_))))) a ha
      obtain ⟨u103, hu103, hF⟩ := bindE hF
      refine wl_call rfl Tryd.call9 (C_laws_toCueS w94 x1 v1_0 (h1_0.ro hB96) _ hu103) rfl ?_
      rintro _ w106 ⟨v104, F105, rfl, hb107, hM110⟩
      refine ⟨_, rfl, ?_⟩
      have hB108 := hB96.trans (hb107.mono hB96.size)
      have hS109 := hS97.join hb107 hM110 hB96.size
      obtain ⟨u111, hu111, hF⟩ := bindE hF
      refine wl_call rfl Tryd.call12 (C_laws_eqCueS w106 u58 v59 (hS109.own_ro (i := 3) rfl) u103 v104 (hS109.own_ro (i := 0) rfl) _ hu111) rfl ?_
      rintro _ w112 ⟨rfl, hb113⟩
      refine ⟨_, rfl, ?_⟩
      have hB114 := hB108.trans (hb113.mono hB108.size)
      refine wl_not rfl rfl (WL.nil (fun a ha => hK102 _ _ (W.cond rfl (fun h117 => ?_) (fun h117 => ?_)) a ha))
      ·replace hF := ifP h117 hF
       refine W.seq fun K118 hK118 => W.region (wl_assign rfl rfl (WL.nil (fun a ha => hK118 _ _ (W.ret ?_) a ha)))
       have hr := Option.some.inj hF
       subst hr
       exact rets (vs := [(.bool false)]) hQ rfl ⟨rv_tmp rfl, trivial⟩ ⟨rfl, hB114⟩
      ·replace hF := ifN h117 hF
       refine W.skip fun a ha => hK101 _ _ (W.seq fun K119 hK119 => (W.region (wl_assign rfl rfl (WL.nil (fun a ha => hK119 _ _ (W.ret ?_) a ha))))) a ha
       have hr := Option.some.inj hF
       subst hr
       exact rets (vs := [(.bool true)]) hQ rfl ⟨rv_tmp rfl, trivial⟩ ⟨rfl, hB114⟩
   refine W.region (wl_move rfl rfl (wl_move rfl rfl (wl_strneq rfl rfl rfl (wl_move rfl rfl ?_))))
   rcases bE (u67.1 != u42.1) with h120 | h120
   ·replace hF := ifP h120 hF
    refine wl_off rfl rfl rfl h120 (wl_off rfl rfl rfl h120 (wl_off rfl rfl rfl h120 (wl_pick_t rfl rfl h120 rfl (WL.nil ?_))))
    exact fun a ha => hJ80 (true) _ hF hB70 (hS71.sel [1, 0] rfl) a (ha.sub ⟨rfl, rfl, rfl, rfl, rfl, trivial⟩)
   ·replace hF := ifN h120 hF
    refine wl_on rfl rfl h120 (wl_move rfl rfl (wl_on rfl rfl h120 (wl_move rfl rfl (wl_on rfl rfl h120 (wl_neqb Tryd.underlying4 rfl rfl rfl (wl_pick_f rfl rfl h120 rfl (WL.nil ?_)))))))
    exact fun a ha => hJ80 ((u67.2 != u42.2)) _ hF hB70 (hS71.sel [1, 0] rfl) a (ha.sub ⟨rfl, rfl, rfl, rfl, rfl, trivial⟩)
end Go.Proofs.YtejhnpimhjmpdaaDoor
