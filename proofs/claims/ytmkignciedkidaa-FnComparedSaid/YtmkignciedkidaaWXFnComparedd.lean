/-
  THE WALKS of functions of this seat, by program (gen.py, prune.py).
-/
import Derived.Test.YtmkignciedkidaaWXFnComparedc
set_option linter.unusedSimpArgs false
set_option linter.unusedVariables false
set_option maxRecDepth 100000
set_option maxHeartbeats 1600000
namespace Go.Proofs.Ytmkignciedkidaa
open Go Go.RowKit
theorem C_spec_cpSquares (w0 : World) (x0 : ((List (List (Int × Int))) × (List Int) × Int × Int)) (v0_0 : Value) (h0_0 : rdS ty_63 (· < w0.heap.size) w0 v0_0 x0.1) (v0_1 : Value) (h0_1 : rdS ty_3 (· < w0.heap.size) w0 v0_1 x0.2.1) (x1 : Int) (r : (List Int)) (hF : F_spec_cpSquares x0 x1 = some r) :
  Calls Try.prog 155 [(.agg #[v0_0, v0_1, (.int .i64 x0.2.2.1), (.int .i64 x0.2.2.2)]), (.int .i64 x1)].toArray w0 fun e w' => ∃ (q0 : Value) (G0 : List Nat), e = .returned q0 ∧ Below w0.heap.size w0 w' ∧ Sep w0.heap.size w' [R.own ty_3 G0 q0 r] := by
 refine calls_mk' Try.func155 rfl Try.ntmps155 rfl rfl fun Q hQ hP => ?_
 have hB : Below w0.heap.size w0 w0 := Below.refl _ _
 have hS : Sep w0.heap.size w0 [] := Sep.nil _ _
 unfold F_spec_cpSquares at hF
 refine W.seq fun K1 hK1 => W.region (wl_box (cs := [v0_0, v0_1, (.int .i64 x0.2.2.1), (.int .i64 x0.2.2.2)]) rfl rfl rfl hB hS ?_)
 intro b2 w3 hb4 hB5 hS6
 refine wl_assign rfl rfl (WL.nil (fun a ha => hK1 _ _ (W.seq fun K7 hK7 => (W.region (wl_assign rfl rfl (WL.nil (fun a ha => hK7 _ _ (W.seq fun K8 hK8 => (W.seq fun K9 hK9 => (W.region (wl_load_blk (i := 0) (vs := [v0_0, v0_1, (.int .i64 x0.2.2.1), (.int .i64 x0.2.2.2)]) (v := (.agg #[v0_0, v0_1, (.int .i64 x0.2.2.1), (.int .i64 x0.2.2.2)])) tf_53 rfl rfl hS6 rfl rfl rfl (wl_move rfl rfl ?_))))) a ha))))) a ha))
 obtain ⟨u10, hu10, hF⟩ := bindE hF
 refine wl_call rfl Try.call160 (C_spec_swMoves w3 x0 v0_0 (h0_0.ro hB5) v0_1 (h0_1.ro hB5) x1 _ hu10) rfl ?_
 rintro _ w13 ⟨v11, F12, rfl, hb14, hM17⟩
 refine ⟨_, rfl, ?_⟩
 have hB15 := hB5.trans (hb14.mono hB5.size)
 have hS16 := hS6.join hb14 hM17 hB5.size
 refine wl_lenr (e := ty_70) (l := u10) Try.underlying64 rfl rfl (hS16.own_ro (i := 0) rfl) (wl_move rfl rfl (WL.nil (fun a ha => hK9 _ _ (W.block (W.loopk (fun m a w18 => ∃ (l21 : (List Int)) (y24 : Int) (v22 : Value) (F23 : List Nat), St 26 [(5, v22), (10, v11), (11, (.int .i64 (List.length u10 : Int))), (12, (.int .i64 y24))] a ∧ Below w0.heap.size w0 w18 ∧ Sep w0.heap.size w18 [R.own ty_3 F23 v22 l21, R.own ty_70 F12 v11 u10] ∧ F_spec_cpSquares_L1 u10 m l21 y24 = some r) FU ?_ ?_)) a ha)))
 ·
  have hS26 := hS16.push0 (r := R.own ty_3 [] (.slice none 0 0) []) rfl fun _ => .inl ⟨rfl, rfl, rfl⟩
  exact fun a ha => ⟨[], 0, (.slice none 0 0), [], ha.sub ⟨rfl, rfl, rfl, rfl, trivial⟩, hB15, (hS26.sel [0, 1] rfl), hF⟩
 ·
  rintro m28 a w18 ⟨l21, y24, v22, F23, ha, hB19, hS20, hF⟩ KL27 hKL27
  refine W.at ?_ ha
  cases m28 with
  | zero => exact noneE hF
  | succ m28 =>
   obtain ⟨nx25, hnx25⟩ : ∃ k, k = F_spec_cpSquares_L1 u10 m28 := ⟨_, rfl⟩
   rw [F_spec_cpSquares_L1, ← hnx25] at hF
   refine W.seq fun K29 hK29 => W.region (wl_lss rfl rfl rfl (WL.nil (fun a ha => hK29 _ _ (W.seq fun K30 hK30 => (W.cond rfl (fun h31 => ?_) (fun h31 => ?_))) a ha)))
   ·replace hF := ifP h31 hF
    refine W.skip fun a ha => hK30 _ _ (W.seq fun K32 hK32 => (W.block (W.seq fun K33 hK33 => (W.region ?_)))) a ha
    obtain ⟨u34, hu34, hF⟩ := bindE hF
    refine wl_indexo (e := ty_70) (i := 1) Try.underlying64 rfl rfl rfl hS20 rfl hu34 ?_
    rintro p35 _ rfl hp36 ho37
    refine wl_load_p (vs := [(.int .i64 u34.1.1), (.int .i64 u34.1.2), (.int .i64 u34.2.1.1), (.int .i64 u34.2.1.2), (.int .i64 u34.2.2)]) (v := (.agg #[(.int .i64 u34.1.1), (.int .i64 u34.1.2), (.int .i64 u34.2.1.1), (.int .i64 u34.2.1.2), (.int .i64 u34.2.2)])) tf_70 rfl rfl hp36 rfl rfl (wl_alloc (cs := [(.int .i64 0), (.int .i64 0), (.int .i64 0), (.int .i64 0), (.int .i64 0)]) tf_70 rfl rfl hB19 hS20 ?_)
    intro b38 w39 hb40 hB41 hS42
    refine wl_store_blk (i := 0) (vs := [(.int .i64 u34.1.1), (.int .i64 u34.1.2), (.int .i64 u34.2.1.1), (.int .i64 u34.2.1.2), (.int .i64 u34.2.2)]) (cs' := [(.int .i64 u34.1.1), (.int .i64 u34.1.2), (.int .i64 u34.2.1.1), (.int .i64 u34.2.1.2), (.int .i64 u34.2.2)]) tf_70 rfl rfl rfl rfl hB41 hS42 rfl rfl ⟨rfl, rfl, rfl, rfl, rfl, trivial⟩ rfl ?_
    intro w43 hk46 hB44 hS45
    refine WL.nil fun a ha => hK33 _ _ (W.region (wl_move rfl rfl (wl_field (o := 0) (off' := 0) ff_70_0 rfl rfl rfl (wl_load_blk (i := 0) (vs := [(.int .i64 u34.1.1), (.int .i64 u34.1.2)]) (v := (.agg #[(.int .i64 u34.1.1), (.int .i64 u34.1.2)])) tf_68 rfl rfl hS45 rfl rfl rfl (wl_field (o := 2) (off' := 2) ff_70_1 rfl rfl rfl (wl_load_blk (i := 0) (vs := [(.int .i64 u34.2.1.1), (.int .i64 u34.2.1.2)]) (v := (.agg #[(.int .i64 u34.2.1.1), (.int .i64 u34.2.1.2)])) tf_68 rfl rfl hS45 rfl rfl rfl ?_)))))) a ha
    obtain ⟨u47, hu47, hF⟩ := bindE hF
    refine wl_call rfl Try.call197 (C_spec_stSquare w43 u34.1 u34.2.1 _ hu47) rfl ?_
    rintro _ w48 ⟨rfl, hb49⟩
    refine ⟨_, rfl, ?_⟩
    have hB50 := hB44.trans (hb49.mono hB44.size)
    have hS51 := hS45.below hb49
    refine wl_lit (vs := [(.int .i64 u47)]) (l := [u47]) fl_3 Try.underlying29 rfl rfl rfl rfl rfl rfl hB50 hS51 ?_
    intro v53 F54 w55 hb56 hB57 hS58
    obtain ⟨u59, hu59, hF⟩ := bindE hF
    refine wl_append (i := 2) (S := (· < w55.heap.size)) fl_3 Try.underlying29 rfl rfl rfl hB57 hS58 rfl (hS58.own_ro (i := 0) rfl) hu59 ?_
    intro v60 F61 w62 hk63 hB64 hS65
    refine wl_assign rfl rfl (WL.nil (fun a ha => hK32 _ _ (W.region (wl_add rfl rfl rfl (wl_move rfl rfl (WL.nil ?_)))) a ha))
    rw [hnx25] at hF
    exact fun a ha => hKL27 a _ m28 (Nat.lt_succ_self m28) ⟨u59, (w64 (y24 + 1)), v60, F61, ha.sub ⟨rfl, rfl, rfl, rfl, trivial⟩, hB64, (hS65.sel [2, 3] rfl), hF⟩
   ·replace hF := ifN h31 hF
    refine W.exit fun a ha => hK8 _ _ (W.seq fun K66 hK66 => (W.region (wl_move rfl rfl (wl_assign rfl rfl (WL.nil (fun a ha => hK66 _ _ (W.ret ?_) a ha)))))) a ha
    have hr := Option.some.inj hF
    subst hr
    exact rets (vs := [v22]) hQ rfl ⟨rv_tmp rfl, trivial⟩ ⟨v22, F23, rfl, hB19, hS20.sel [0] rfl⟩
theorem C_spec_cpWays (w0 : World) (x0 : ((List (List (Int × Int))) × (List Int) × Int × Int)) (v0_0 : Value) (h0_0 : rdS ty_63 (· < w0.heap.size) w0 v0_0 x0.1) (v0_1 : Value) (h0_1 : rdS ty_3 (· < w0.heap.size) w0 v0_1 x0.2.1) (r : (List Int)) (hF : F_spec_cpWays x0 = some r) :
  Calls Try.prog 151 [(.agg #[v0_0, v0_1, (.int .i64 x0.2.2.1), (.int .i64 x0.2.2.2)])].toArray w0 fun e w' => ∃ (q0 : Value) (G0 : List Nat), e = .returned q0 ∧ Below w0.heap.size w0 w' ∧ Sep w0.heap.size w' [R.own ty_3 G0 q0 r] := by
 refine calls_mk' Try.func151 rfl Try.ntmps151 rfl rfl fun Q hQ hP => ?_
 have hB : Below w0.heap.size w0 w0 := Below.refl _ _
 have hS : Sep w0.heap.size w0 [] := Sep.nil _ _
 unfold F_spec_cpWays at hF
 refine W.seq fun K1 hK1 => W.region (wl_box (cs := [v0_0, v0_1, (.int .i64 x0.2.2.1), (.int .i64 x0.2.2.2)]) rfl rfl rfl hB hS ?_)
 intro b2 w3 hb4 hB5 hS6
 refine wl_assign rfl rfl (WL.nil (fun a ha => hK1 _ _ (W.seq fun K7 hK7 => (W.region (wl_field (o := 0) (off' := 0) ff_53_0 rfl rfl rfl (wl_load_blk (i := 0) (vs := [v0_0]) (v := v0_0) tf_51 rfl rfl hS6 rfl rfl rfl ?_)))) a ha))
 obtain ⟨u8, hu8, hF⟩ := bindE hF
 refine wl_index (e := ty_63) Try.underlying51 rfl rfl rfl h0_0 hu8 ?_
 rintro p9 _ ⟨v11, rfl, hv12⟩ hp10
 refine wl_load_p (vs := [v11]) (v := v11) tf_63 rfl rfl (hp10.ro hB5) rfl rfl (wl_lenr (e := ty_68) (l := u8) Try.underlying63 rfl rfl hv12 ?_)
 obtain ⟨u13, hu13, hF⟩ := bindE hF
 refine wl_make (e := ty_3) Try.underlying29 rfl rfl hu13 hB5 hS6 ?_
 intro v14 F15 w16 hb17 hB18 hS19
 refine wl_assign rfl rfl (WL.nil (fun a ha => hK7 _ _ (W.seq fun K20 hK20 => (W.seq fun K21 hK21 => (W.region (wl_field (o := 1) (off' := 1) ff_53_1 rfl rfl rfl (wl_load_blk (i := 1) (vs := [v0_1]) (v := v0_1) tf_29 rfl rfl hS19 rfl rfl rfl (wl_lenr (e := ty_3) (l := x0.2.1) Try.underlying29 rfl rfl h0_1 (wl_move rfl rfl (WL.nil (fun a ha => hK21 _ _ (W.block (W.loopk (fun m a w22 => ∃ (l25 : (List Int)) (y28 : Int) (v26 : Value) (F27 : List Nat), St 38 [(1, (.pointer (some ⟨b2, 0, none⟩))), (3, v26), (15, (.int .i64 (List.length x0.2.1 : Int))), (16, (.int .i64 y28))] a ∧ Below w0.heap.size w0 w22 ∧ Sep w0.heap.size w22 [R.blk b2 53 [v0_0, v0_1, (.int .i64 x0.2.2.1), (.int .i64 x0.2.2.2)], R.own ty_3 F27 v26 l25] ∧ F_spec_cpWays_L1 x0 m l25 y28 = some r) FU ?_ ?_)) a ha))))))))) a ha))
 ·
  exact fun a ha => ⟨u13, 0, v14, F15, ha.sub ⟨rfl, rfl, rfl, rfl, trivial⟩, hB18, (hS19.sel [1, 0] rfl), hF⟩
 ·
  rintro m31 a w22 ⟨l25, y28, v26, F27, ha, hB23, hS24, hF⟩ KL30 hKL30
  refine W.at ?_ ha
  cases m31 with
  | zero => exact noneE hF
  | succ m31 =>
   obtain ⟨nx29, hnx29⟩ : ∃ k, k = F_spec_cpWays_L1 x0 m31 := ⟨_, rfl⟩
   rw [F_spec_cpWays_L1, ← hnx29] at hF
   refine W.seq fun K32 hK32 => W.region (wl_lss rfl rfl rfl (WL.nil (fun a ha => hK32 _ _ (W.seq fun K33 hK33 => (W.cond rfl (fun h34 => ?_) (fun h34 => ?_))) a ha)))
   ·replace hF := ifP h34 hF
    refine W.skip fun a ha => hK33 _ _ (W.seq fun K35 hK35 => (W.block (W.seq fun K36 hK36 => (W.region (wl_move rfl rfl (wl_assign rfl rfl (WL.nil (fun a ha => hK36 _ _ (W.seq fun K37 hK37 => (W.region (wl_load_blk (i := 0) (vs := [v0_0, v0_1, (.int .i64 x0.2.2.1), (.int .i64 x0.2.2.2)]) (v := (.agg #[v0_0, v0_1, (.int .i64 x0.2.2.1), (.int .i64 x0.2.2.2)])) tf_53 rfl rfl hS24 rfl rfl rfl (wl_move rfl rfl ?_)))) a ha)))))))) a ha
    obtain ⟨u38, hu38, hF⟩ := bindE hF
    refine wl_call rfl Try.call155 (C_spec_cpSquares w22 x0 v0_0 (h0_0.ro hB23) v0_1 (h0_1.ro hB23) y28 _ hu38) rfl ?_
    rintro _ w41 ⟨v39, F40, rfl, hb42, hM45⟩
    refine ⟨_, rfl, ?_⟩
    have hB43 := hB23.trans (hb42.mono hB23.size)
    have hS44 := hS24.join hb42 hM45 hB23.size
    refine wl_lenr (e := ty_3) (l := u38) Try.underlying29 rfl rfl (hS44.own_ro (i := 0) rfl) (wl_move rfl rfl (WL.nil (fun a ha => hK37 _ _ (W.block (W.loopk (fun m a w46 => ∃ (l49 : (List Int)) (y52 : Int) (v50 : Value) (F51 : List Nat), St 38 [(1, (.pointer (some ⟨b2, 0, none⟩))), (3, v50), (15, (.int .i64 (List.length x0.2.1 : Int))), (16, (.int .i64 y28)), (21, v39), (22, (.int .i64 (List.length u38 : Int))), (23, (.int .i64 y52))] a ∧ Below w0.heap.size w0 w46 ∧ Sep w0.heap.size w46 [R.blk b2 53 [v0_0, v0_1, (.int .i64 x0.2.2.1), (.int .i64 x0.2.2.2)], R.own ty_3 F51 v50 l49, R.own ty_3 F40 v39 u38] ∧ F_spec_cpWays_L2 u38 nx29 y28 m l49 y52 = some r) FU ?_ ?_)) a ha)))
    ·
     exact fun a ha => ⟨l25, 0, v26, F27, ha.sub ⟨rfl, rfl, rfl, rfl, rfl, rfl, rfl, trivial⟩, hB43, (hS44.sel [1, 2, 0] rfl), hF⟩
    ·
     rintro m55 a w46 ⟨l49, y52, v50, F51, ha, hB47, hS48, hF⟩ KL54 hKL54
     refine W.at ?_ ha
     cases m55 with
     | zero => exact noneE hF
     | succ m55 =>
      obtain ⟨nx53, hnx53⟩ : ∃ k, k = F_spec_cpWays_L2 u38 nx29 y28 m55 := ⟨_, rfl⟩
      rw [F_spec_cpWays_L2, ← hnx53] at hF
      refine W.seq fun K56 hK56 => W.region (wl_lss rfl rfl rfl (WL.nil (fun a ha => hK56 _ _ (W.seq fun K57 hK57 => (W.cond rfl (fun h58 => ?_) (fun h58 => ?_))) a ha)))
      ·replace hF := ifP h58 hF
       refine W.skip fun a ha => hK57 _ _ (W.seq fun K59 hK59 => (W.block (W.seq fun K60 hK60 => (W.region (wl_move rfl rfl ?_))))) a ha
       obtain ⟨u61, hu61, hF⟩ := bindE hF
       refine wl_indexo (e := ty_3) (i := 2) Try.underlying29 rfl rfl rfl hS48 rfl hu61 ?_
       rintro p62 _ rfl hp63 ho64
       refine wl_load_p (vs := [(.int .i64 u61)]) (v := (.int .i64 u61)) tf_3 rfl rfl hp63 rfl rfl (wl_assign rfl rfl (wl_assign rfl rfl (WL.nil (fun a ha => hK60 _ _ (W.region (wl_move rfl rfl (wl_move rfl rfl ?_))) a ha))))
       obtain ⟨u65, hu65, hF⟩ := bindE hF
       refine wl_indexo (e := ty_3) (i := 1) Try.underlying29 rfl rfl rfl hS48 rfl hu65 ?_
       rintro p66 _ rfl hp67 ho68
       refine wl_load_p (vs := [(.int .i64 u65)]) (v := (.int .i64 u65)) tf_3 rfl rfl hp67 rfl rfl (wl_move rfl rfl (wl_add rfl rfl rfl ?_))
       obtain ⟨u69, hu69, hF⟩ := bindE hF
       refine wl_indexo (e := ty_3) (i := 1) Try.underlying29 rfl rfl rfl hS48 rfl hu69 ?_
       rintro p70 _ rfl hp71 ho72
       refine wl_storeo (i := 1) (o := 0) (vs := [(.int .i64 (w64 (u65 + u61)))]) (u' := (w64 (u65 + u61))) fl_3 tf_3 rfl rfl rfl rfl ho72 hu69 hB47 hS48 rfl rfl ⟨rfl, trivial⟩ rfl ?_
       intro w73 hk76 hB74 hS75
       refine WL.nil fun a ha => hK59 _ _ (W.region (wl_add rfl rfl rfl (wl_move rfl rfl (WL.nil ?_)))) a ha
       rw [hnx53] at hF
       exact fun a ha => hKL54 a _ m55 (Nat.lt_succ_self m55) ⟨(seti l49 y52 (w64 (u65 + u61))), (w64 (y52 + 1)), v50, F51, ha.sub ⟨rfl, rfl, rfl, rfl, rfl, rfl, rfl, trivial⟩, hB74, (hS75.sel [0, 1, 2] rfl), hF⟩
      ·replace hF := ifN h58 hF
       refine W.exit fun a ha => hK35 _ _ (W.region (wl_add rfl rfl rfl (wl_move rfl rfl (WL.nil ?_)))) a ha
       rw [hnx29] at hF
       exact fun a ha => hKL30 a _ m31 (Nat.lt_succ_self m31) ⟨l49, (w64 (y28 + 1)), v50, F51, ha.sub ⟨rfl, rfl, rfl, rfl, trivial⟩, hB47, (hS48.sel [0, 1] rfl), hF⟩
   ·replace hF := ifN h34 hF
    refine W.exit fun a ha => hK20 _ _ (W.seq fun K77 hK77 => (W.region (wl_move rfl rfl (wl_assign rfl rfl (WL.nil (fun a ha => hK77 _ _ (W.ret ?_) a ha)))))) a ha
    have hr := Option.some.inj hF
    subst hr
    exact rets (vs := [v26]) hQ rfl ⟨rv_tmp rfl, trivial⟩ ⟨v26, F27, rfl, hB23, hS24.sel [1] rfl⟩
theorem C_spec_WaySums (w0 : World) (x0 : ((List (List (Int × Int))) × (List Int) × Int × Int)) (v0_0 : Value) (h0_0 : rdS ty_63 (· < w0.heap.size) w0 v0_0 x0.1) (v0_1 : Value) (h0_1 : rdS ty_3 (· < w0.heap.size) w0 v0_1 x0.2.1) (r : ((List Int) × Bool)) (hF : F_spec_WaySums x0 = some r) :
  Calls Try.prog 41 [(.agg #[v0_0, v0_1, (.int .i64 x0.2.2.1), (.int .i64 x0.2.2.2)])].toArray w0 fun e w' => ∃ (q0 : Value) (G0 : List Nat), e = .returned (.tuple #[q0, (.bool r.2)]) ∧ Below w0.heap.size w0 w' ∧ Sep w0.heap.size w' [R.own ty_3 G0 q0 r.1] := by
 refine calls_mk' Try.func41 rfl Try.ntmps41 rfl rfl fun Q hQ hP => ?_
 have hB : Below w0.heap.size w0 w0 := Below.refl _ _
 have hS : Sep w0.heap.size w0 [] := Sep.nil _ _
 unfold F_spec_WaySums at hF
 refine W.seq fun K1 hK1 => W.region (wl_box (cs := [v0_0, v0_1, (.int .i64 x0.2.2.1), (.int .i64 x0.2.2.2)]) rfl rfl rfl hB hS ?_)
 intro b2 w3 hb4 hB5 hS6
 refine wl_assign rfl rfl (wl_assign rfl rfl (WL.nil (fun a ha => hK1 _ _ (W.seq fun K7 hK7 => (W.seq fun K8 hK8 => (W.region (wl_load_blk (i := 0) (vs := [v0_0, v0_1, (.int .i64 x0.2.2.1), (.int .i64 x0.2.2.2)]) (v := (.agg #[v0_0, v0_1, (.int .i64 x0.2.2.1), (.int .i64 x0.2.2.2)])) tf_53 rfl rfl hS6 rfl rfl rfl ?_)))) a ha)))
 obtain ⟨u9, hu9, hF⟩ := bindE hF
 refine wl_call rfl Try.call145 (C_spec_swGood w3 x0 v0_0 (h0_0.ro hB5) v0_1 (h0_1.ro hB5) _ hu9) rfl ?_
 rintro _ w10 ⟨rfl, hb11⟩
 refine ⟨_, rfl, ?_⟩
 have hB12 := hB5.trans (hb11.mono hB5.size)
 have hS13 := hS6.below hb11
 refine wl_not rfl rfl (WL.nil (fun a ha => hK8 _ _ (W.cond rfl (fun h15 => ?_) (fun h15 => ?_)) a ha))
 ·replace hF := ifP h15 hF
  refine W.seq fun K16 hK16 => W.region (wl_assign rfl rfl (wl_assign rfl rfl (WL.nil (fun a ha => hK16 _ _ (W.ret ?_) a ha))))
  have hS17 := hS13.push0 (r := R.own ty_3 [] (.slice none 0 0) []) rfl fun _ => .inl ⟨rfl, rfl, rfl⟩
  have hr := Option.some.inj hF
  subst hr
  exact rets (vs := [(.slice none 0 0), (.bool false)]) hQ rfl ⟨rv_tmp rfl, rv_tmp rfl, trivial⟩ ⟨(.slice none 0 0), [], rfl, hB12, hS17.sel [0] rfl⟩
 ·replace hF := ifN h15 hF
  refine W.skip fun a ha => hK7 _ _ (W.seq fun K18 hK18 => (W.region (wl_load_blk (i := 0) (vs := [v0_0, v0_1, (.int .i64 x0.2.2.1), (.int .i64 x0.2.2.2)]) (v := (.agg #[v0_0, v0_1, (.int .i64 x0.2.2.1), (.int .i64 x0.2.2.2)])) tf_53 rfl rfl hS13 rfl rfl rfl ?_))) a ha
  obtain ⟨u19, hu19, hF⟩ := bindE hF
  refine wl_call rfl Try.call151 (C_spec_cpWays w10 x0 v0_0 (h0_0.ro hB12) v0_1 (h0_1.ro hB12) _ hu19) rfl ?_
  rintro _ w22 ⟨v20, F21, rfl, hb23, hM26⟩
  refine ⟨_, rfl, ?_⟩
  have hB24 := hB12.trans (hb23.mono hB12.size)
  have hS25 := hS13.join hb23 hM26 hB12.size
  refine wl_assign rfl rfl (wl_assign rfl rfl (WL.nil (fun a ha => hK18 _ _ (W.ret ?_) a ha)))
  have hr := Option.some.inj hF
  subst hr
  exact rets (vs := [v20, (.bool true)]) hQ rfl ⟨rv_tmp rfl, rv_tmp rfl, trivial⟩ ⟨v20, F21, rfl, hB24, hS25.sel [0] rfl⟩
theorem C_impl_WidestPart (w0 : World) (x0 : ((List (List (Int × Int))) × (List Int) × Int × Int)) (v0_0 : Value) (h0_0 : rdS ty_63 (· < w0.heap.size) w0 v0_0 x0.1) (v0_1 : Value) (h0_1 : rdS ty_3 (· < w0.heap.size) w0 v0_1 x0.2.1) (r : (Int × Int × Bool)) (hF : F_impl_WidestPart x0 = some r) :
  Calls Try.prog 42 [(.agg #[v0_0, v0_1, (.int .i64 x0.2.2.1), (.int .i64 x0.2.2.2)])].toArray w0 fun e w' => e = .returned (.tuple #[(.int .i64 r.1), (.int .i64 r.2.1), (.bool r.2.2)]) ∧ Below w0.heap.size w0 w' := by
 refine calls_mk' Try.func42 rfl Try.ntmps42 rfl rfl fun Q hQ hP => ?_
 have hB : Below w0.heap.size w0 w0 := Below.refl _ _
 have hS : Sep w0.heap.size w0 [] := Sep.nil _ _
 unfold F_impl_WidestPart at hF
 refine W.seq fun K1 hK1 => W.region (wl_box (cs := [v0_0, v0_1, (.int .i64 x0.2.2.1), (.int .i64 x0.2.2.2)]) rfl rfl rfl hB hS ?_)
 intro b2 w3 hb4 hB5 hS6
 refine wl_assign rfl rfl (wl_assign rfl rfl (wl_assign rfl rfl (WL.nil (fun a ha => hK1 _ _ (W.seq fun K7 hK7 => (W.seq fun K8 hK8 => (W.region (wl_load_blk (i := 0) (vs := [v0_0, v0_1, (.int .i64 x0.2.2.1), (.int .i64 x0.2.2.2)]) (v := (.agg #[v0_0, v0_1, (.int .i64 x0.2.2.1), (.int .i64 x0.2.2.2)])) tf_53 rfl rfl hS6 rfl rfl rfl ?_)))) a ha))))
 obtain ⟨u9, hu9, hF⟩ := bindE hF
 refine wl_call rfl Try.call60 (C_impl_IsShow w3 x0 v0_0 (h0_0.ro hB5) v0_1 (h0_1.ro hB5) _ hu9) rfl ?_
 rintro _ w10 ⟨rfl, hb11⟩
 refine ⟨_, rfl, ?_⟩
 have hB12 := hB5.trans (hb11.mono hB5.size)
 have hS13 := hS6.below hb11
 refine wl_not rfl rfl (WL.nil (fun a ha => hK8 _ _ (W.cond rfl (fun h15 => ?_) (fun h15 => ?_)) a ha))
 ·replace hF := ifP h15 hF
  refine W.seq fun K16 hK16 => W.region (wl_assign rfl rfl (wl_assign rfl rfl (wl_assign rfl rfl (WL.nil (fun a ha => hK16 _ _ (W.ret ?_) a ha)))))
  have hr := Option.some.inj hF
  subst hr
  exact rets (vs := [(.int .i64 0), (.int .i64 0), (.bool false)]) hQ rfl ⟨rv_tmp rfl, rv_tmp rfl, rv_tmp rfl, trivial⟩ ⟨rfl, hB12⟩
 ·replace hF := ifN h15 hF
  refine W.skip fun a ha => hK7 _ _ (W.seq fun K17 hK17 => (W.region (wl_assign rfl rfl (wl_assign rfl rfl (WL.nil (fun a ha => hK17 _ _ (W.seq fun K18 hK18 => (W.seq fun K19 hK19 => (W.region (wl_field (o := 1) (off' := 1) ff_53_1 rfl rfl rfl (wl_load_blk (i := 0) (vs := [v0_1]) (v := v0_1) tf_29 rfl rfl hS13 rfl rfl rfl (wl_lenr (e := ty_3) (l := x0.2.1) Try.underlying29 rfl rfl h0_1 ?_)))))) a ha)))))) a ha
  refine wl_move rfl rfl (WL.nil (fun a ha => hK19 _ _ (W.block (W.loopk (fun m a w20 => ∃ (y23 : Int) (y24 : Int) (y25 : Int), St 44 [(1, (.pointer (some ⟨b2, 0, none⟩))), (5, (.int .i64 y23)), (6, (.int .i64 y24)), (16, (.int .i64 (List.length x0.2.1 : Int))), (17, (.int .i64 y25))] a ∧ Below w0.heap.size w0 w20 ∧ Sep w0.heap.size w20 [R.blk b2 53 [v0_0, v0_1, (.int .i64 x0.2.2.1), (.int .i64 x0.2.2.2)]] ∧ F_impl_WidestPart_L1 x0 m y23 y24 y25 = some r) FU ?_ ?_)) a ha))
  ·
   exact fun a ha => ⟨0, (-1), 0, ha.sub ⟨rfl, rfl, rfl, rfl, rfl, trivial⟩, hB12, (hS13.sel [0] rfl), hF⟩
  ·
   rintro m28 a w20 ⟨y23, y24, y25, ha, hB21, hS22, hF⟩ KL27 hKL27
   refine W.at ?_ ha
   cases m28 with
   | zero => exact noneE hF
   | succ m28 =>
    obtain ⟨nx26, hnx26⟩ : ∃ k, k = F_impl_WidestPart_L1 x0 m28 := ⟨_, rfl⟩
    rw [F_impl_WidestPart_L1, ← hnx26] at hF
    refine W.seq fun K29 hK29 => W.region (wl_lss rfl rfl rfl (WL.nil (fun a ha => hK29 _ _ (W.seq fun K30 hK30 => (W.cond rfl (fun h31 => ?_) (fun h31 => ?_))) a ha)))
    ·replace hF := ifP h31 hF
     refine W.skip fun a ha => hK30 _ _ (W.seq fun K32 hK32 => ?_) a ha
     obtain ⟨k38, hk38, hF⟩ := jE2 hF
     have hJ39 : ∀ (y36 : Int) (y37 : Int) (w33 : World) (_ : k38 y36 y37 = some r) (_ : Below w0.heap.size w0 w33) (_ : Sep w0.heap.size w33 [R.blk b2 53 [v0_0, v0_1, (.int .i64 x0.2.2.1), (.int .i64 x0.2.2.2)]]), ∀ a, St 44 [(1, (.pointer (some ⟨b2, 0, none⟩))), (5, (.int .i64 y36)), (6, (.int .i64 y37)), (16, (.int .i64 (List.length x0.2.1 : Int))), (17, (.int .i64 y25))] a → K32 a w33 := by
      intro y36 y37 w33 hF hB34 hS35
      subst hk38
      refine fun a ha => hK32 _ _ (W.region (wl_add rfl rfl rfl (wl_move rfl rfl (WL.nil ?_)))) a ha
      rw [hnx26] at hF
      exact fun a ha => hKL27 a _ m28 (Nat.lt_succ_self m28) ⟨y36, y37, (w64 (y25 + 1)), ha.sub ⟨rfl, rfl, rfl, rfl, rfl, trivial⟩, hB34, (hS35.sel [0] rfl), hF⟩
     refine W.block (W.seq fun K40 hK40 => (W.region (wl_move rfl rfl (wl_assign rfl rfl (WL.nil (fun a ha => hK40 _ _ (W.seq fun K41 hK41 => (W.region (wl_assign rfl rfl (WL.nil (fun a ha => hK41 _ _ (W.seq fun K42 hK42 => (W.seq fun K43 hK43 => ?_)) a ha))))) a ha))))))
     refine W.region (wl_load_blk (i := 0) (vs := [v0_0, v0_1, (.int .i64 x0.2.2.1), (.int .i64 x0.2.2.2)]) (v := (.agg #[v0_0, v0_1, (.int .i64 x0.2.2.1), (.int .i64 x0.2.2.2)])) tf_53 rfl rfl hS22 rfl rfl rfl (wl_move rfl rfl ?_))
     obtain ⟨u44, hu44, hF⟩ := bindE hF
     refine wl_call rfl Try.call152 (C_impl_showMoves w20 x0 v0_0 (h0_0.ro hB21) v0_1 (h0_1.ro hB21) y25 _ hu44) rfl ?_
     rintro _ w47 ⟨v45, F46, rfl, hb48, hM51⟩
     refine ⟨_, rfl, ?_⟩
     have hB49 := hB21.trans (hb48.mono hB21.size)
     have hS50 := hS22.join hb48 hM51 hB21.size
     refine wl_lenr (e := ty_70) (l := u44) Try.underlying64 rfl rfl (hS50.own_ro (i := 0) rfl) (wl_move rfl rfl (WL.nil (fun a ha => hK43 _ _ (W.block (W.loopk (fun m a w52 => ∃ (y55 : Int) (y56 : Int), St 44 [(1, (.pointer (some ⟨b2, 0, none⟩))), (5, (.int .i64 y23)), (6, (.int .i64 y24)), (7, (.int .i64 y25)), (8, (.int .i64 y55)), (16, (.int .i64 (List.length x0.2.1 : Int))), (17, (.int .i64 y25)), (22, v45), (23, (.int .i64 (List.length u44 : Int))), (24, (.int .i64 y56))] a ∧ Below w0.heap.size w0 w52 ∧ Sep w0.heap.size w52 [R.blk b2 53 [v0_0, v0_1, (.int .i64 x0.2.2.1), (.int .i64 x0.2.2.2)], R.own ty_70 F46 v45 u44] ∧ F_impl_WidestPart_L2 u44 y24 k38 y25 y23 m y55 y56 = some r) FU ?_ ?_)) a ha)))
     ·
      exact fun a ha => ⟨0, 0, ha.sub ⟨rfl, rfl, rfl, rfl, rfl, rfl, rfl, rfl, rfl, rfl, trivial⟩, hB49, (hS50.sel [1, 0] rfl), hF⟩
     ·
      rintro m59 a w52 ⟨y55, y56, ha, hB53, hS54, hF⟩ KL58 hKL58
      refine W.at ?_ ha
      cases m59 with
      | zero => exact noneE hF
      | succ m59 =>
       obtain ⟨nx57, hnx57⟩ : ∃ k, k = F_impl_WidestPart_L2 u44 y24 k38 y25 y23 m59 := ⟨_, rfl⟩
       rw [F_impl_WidestPart_L2, ← hnx57] at hF
       refine W.seq fun K60 hK60 => W.region (wl_lss rfl rfl rfl (WL.nil (fun a ha => hK60 _ _ (W.seq fun K61 hK61 => (W.cond rfl (fun h62 => ?_) (fun h62 => ?_))) a ha)))
       ·replace hF := ifP h62 hF
        refine W.skip fun a ha => hK61 _ _ (W.seq fun K63 hK63 => (W.block (W.seq fun K64 hK64 => (W.region ?_)))) a ha
        obtain ⟨u65, hu65, hF⟩ := bindE hF
        refine wl_indexo (e := ty_70) (i := 1) Try.underlying64 rfl rfl rfl hS54 rfl hu65 ?_
        rintro p66 _ rfl hp67 ho68
        refine wl_load_p (vs := [(.int .i64 u65.1.1), (.int .i64 u65.1.2), (.int .i64 u65.2.1.1), (.int .i64 u65.2.1.2), (.int .i64 u65.2.2)]) (v := (.agg #[(.int .i64 u65.1.1), (.int .i64 u65.1.2), (.int .i64 u65.2.1.1), (.int .i64 u65.2.1.2), (.int .i64 u65.2.2)])) tf_70 rfl rfl hp67 rfl rfl (wl_alloc (cs := [(.int .i64 0), (.int .i64 0), (.int .i64 0), (.int .i64 0), (.int .i64 0)]) tf_70 rfl rfl hB53 hS54 ?_)
        intro b69 w70 hb71 hB72 hS73
        refine wl_store_blk (i := 0) (vs := [(.int .i64 u65.1.1), (.int .i64 u65.1.2), (.int .i64 u65.2.1.1), (.int .i64 u65.2.1.2), (.int .i64 u65.2.2)]) (cs' := [(.int .i64 u65.1.1), (.int .i64 u65.1.2), (.int .i64 u65.2.1.1), (.int .i64 u65.2.1.2), (.int .i64 u65.2.2)]) tf_70 rfl rfl rfl rfl hB72 hS73 rfl rfl ⟨rfl, rfl, rfl, rfl, rfl, trivial⟩ rfl ?_
        intro w74 hk77 hB75 hS76
        refine WL.nil fun a ha => hK64 _ _ (W.region (wl_move rfl rfl (wl_field (o := 0) (off' := 0) ff_70_0 rfl rfl rfl (wl_load_blk (i := 0) (vs := [(.int .i64 u65.1.1), (.int .i64 u65.1.2)]) (v := (.agg #[(.int .i64 u65.1.1), (.int .i64 u65.1.2)])) tf_68 rfl rfl hS76 rfl rfl rfl (wl_field (o := 2) (off' := 2) ff_70_1 rfl rfl rfl (wl_load_blk (i := 0) (vs := [(.int .i64 u65.2.1.1), (.int .i64 u65.2.1.2)]) (v := (.agg #[(.int .i64 u65.2.1.1), (.int .i64 u65.2.1.2)])) tf_68 rfl rfl hS76 rfl rfl rfl ?_)))))) a ha
        obtain ⟨u78, hu78, hF⟩ := bindE hF
        refine wl_call rfl Try.call153 (C_impl_squareOf w74 u65.1 u65.2.1 _ hu78) rfl ?_
        rintro _ w79 ⟨rfl, hb80⟩
        refine ⟨_, rfl, ?_⟩
        have hB81 := hB75.trans (hb80.mono hB75.size)
        have hS82 := hS76.below hb80
        refine wl_add rfl rfl rfl (wl_assign rfl rfl (WL.nil (fun a ha => hK63 _ _ (W.region (wl_add rfl rfl rfl (wl_move rfl rfl (WL.nil ?_)))) a ha)))
        rw [hnx57] at hF
        exact fun a ha => hKL58 a _ m59 (Nat.lt_succ_self m59) ⟨(w64 (y55 + u78)), (w64 (y56 + 1)), ha.sub ⟨rfl, rfl, rfl, rfl, rfl, rfl, rfl, rfl, rfl, rfl, trivial⟩, hB81, (hS82.sel [1, 2] rfl), hF⟩
       ·replace hF := ifN h62 hF
        refine W.exit fun a ha => hK42 _ _ (W.seq fun K84 hK84 => (W.region (wl_move rfl rfl (wl_move rfl rfl (wl_gtr rfl rfl rfl (WL.nil (fun a ha => hK84 _ _ (W.cond rfl (fun h85 => ?_) (fun h85 => ?_)) a ha))))))) a ha
        ·replace hF := ifP h85 hF
         refine W.region (wl_move rfl rfl (wl_move rfl rfl (wl_assign rfl rfl (wl_assign rfl rfl (WL.nil ?_)))))
         exact fun a ha => hJ39 (y25) (y55) _ hF hB53 (hS54.sel [0] rfl) a (ha.sub ⟨rfl, rfl, rfl, rfl, rfl, trivial⟩)
        ·replace hF := ifN h85 hF
         refine W.skip ?_
         exact fun a ha => hJ39 (y23) (y24) _ hF hB53 (hS54.sel [0] rfl) a (ha.sub ⟨rfl, rfl, rfl, rfl, rfl, trivial⟩)
    ·replace hF := ifN h31 hF
     refine W.exit fun a ha => hK18 _ _ (W.seq fun K86 hK86 => (W.region (wl_move rfl rfl (wl_move rfl rfl (wl_assign rfl rfl (wl_assign rfl rfl (wl_assign rfl rfl (WL.nil (fun a ha => hK86 _ _ (W.ret ?_) a ha))))))))) a ha
     have hr := Option.some.inj hF
     subst hr
     exact rets (vs := [(.int .i64 y23), (.int .i64 y24), (.bool true)]) hQ rfl ⟨rv_tmp rfl, rv_tmp rfl, rv_tmp rfl, trivial⟩ ⟨rfl, hB21⟩
theorem C_spec_cpSum (w0 : World) (x0 : (List Int)) (v0_0 : Value) (h0_0 : rdS ty_3 (· < w0.heap.size) w0 v0_0 x0) (r : Int) (hF : F_spec_cpSum x0 = some r) :
  Calls Try.prog 154 [v0_0].toArray w0 fun e w' => e = .returned (.int .i64 r) ∧ Below w0.heap.size w0 w' := by
 refine calls_mk' Try.func154 rfl Try.ntmps154 rfl rfl fun Q hQ hP => ?_
 have hB : Below w0.heap.size w0 w0 := Below.refl _ _
 have hS : Sep w0.heap.size w0 [] := Sep.nil _ _
 unfold F_spec_cpSum at hF
 refine W.seq fun K1 hK1 => W.region (wl_assign rfl rfl (WL.nil (fun a ha => hK1 _ _ (W.seq fun K2 hK2 => (W.region (wl_assign rfl rfl (WL.nil (fun a ha => hK2 _ _ (W.seq fun K3 hK3 => (W.seq fun K4 hK4 => (W.region (wl_move rfl rfl ?_)))) a ha))))) a ha)))
 refine wl_lenr (e := ty_3) (l := x0) Try.underlying29 rfl rfl h0_0 (wl_move rfl rfl (WL.nil (fun a ha => hK4 _ _ (W.block (W.loopk (fun m a w5 => ∃ (y8 : Int) (y9 : Int), St 17 [(3, (.int .i64 y8)), (6, v0_0), (7, (.int .i64 (List.length x0 : Int))), (8, (.int .i64 y9))] a ∧ Below w0.heap.size w0 w5 ∧ Sep w0.heap.size w5 [] ∧ F_spec_cpSum_L1 x0 m y8 y9 = some r) FU ?_ ?_)) a ha)))
 ·
  exact fun a ha => ⟨0, 0, ha.sub ⟨rfl, rfl, rfl, rfl, trivial⟩, hB, (hS.sel [] rfl), hF⟩
 ·
  rintro m12 a w5 ⟨y8, y9, ha, hB6, hS7, hF⟩ KL11 hKL11
  refine W.at ?_ ha
  cases m12 with
  | zero => exact noneE hF
  | succ m12 =>
   obtain ⟨nx10, hnx10⟩ : ∃ k, k = F_spec_cpSum_L1 x0 m12 := ⟨_, rfl⟩
   rw [F_spec_cpSum_L1, ← hnx10] at hF
   refine W.seq fun K13 hK13 => W.region (wl_lss rfl rfl rfl (WL.nil (fun a ha => hK13 _ _ (W.seq fun K14 hK14 => (W.cond rfl (fun h15 => ?_) (fun h15 => ?_))) a ha)))
   ·replace hF := ifP h15 hF
    refine W.skip fun a ha => hK14 _ _ (W.seq fun K16 hK16 => (W.block (W.seq fun K17 hK17 => (W.region ?_)))) a ha
    obtain ⟨u18, hu18, hF⟩ := bindE hF
    refine wl_index (e := ty_3) Try.underlying29 rfl rfl rfl h0_0 hu18 ?_
    rintro p19 _ rfl hp20
    refine wl_load_p (vs := [(.int .i64 u18)]) (v := (.int .i64 u18)) tf_3 rfl rfl (hp20.ro hB6) rfl rfl (wl_assign rfl rfl (WL.nil (fun a ha => hK17 _ _ (W.region (wl_move rfl rfl (wl_move rfl rfl (wl_add rfl rfl rfl (wl_assign rfl rfl (WL.nil (fun a ha => hK16 _ _ (W.region (wl_add rfl rfl rfl (wl_move rfl rfl ?_))) a ha))))))) a ha)))
    refine WL.nil ?_
    rw [hnx10] at hF
    exact fun a ha => hKL11 a _ m12 (Nat.lt_succ_self m12) ⟨(w64 (y8 + u18)), (w64 (y9 + 1)), ha.sub ⟨rfl, rfl, rfl, rfl, trivial⟩, hB6, (hS7.sel [] rfl), hF⟩
   ·replace hF := ifN h15 hF
    refine W.exit fun a ha => hK3 _ _ (W.seq fun K21 hK21 => (W.region (wl_move rfl rfl (wl_assign rfl rfl (WL.nil (fun a ha => hK21 _ _ (W.ret ?_) a ha)))))) a ha
    have hr := Option.some.inj hF
    subst hr
    exact rets (vs := [(.int .i64 y8)]) hQ rfl ⟨rv_tmp rfl, trivial⟩ ⟨rfl, hB6⟩
theorem C_spec_WidestPart (w0 : World) (x0 : ((List (List (Int × Int))) × (List Int) × Int × Int)) (v0_0 : Value) (h0_0 : rdS ty_63 (· < w0.heap.size) w0 v0_0 x0.1) (v0_1 : Value) (h0_1 : rdS ty_3 (· < w0.heap.size) w0 v0_1 x0.2.1) (r : (Int × Int × Bool)) (hF : F_spec_WidestPart x0 = some r) :
  Calls Try.prog 43 [(.agg #[v0_0, v0_1, (.int .i64 x0.2.2.1), (.int .i64 x0.2.2.2)])].toArray w0 fun e w' => e = .returned (.tuple #[(.int .i64 r.1), (.int .i64 r.2.1), (.bool r.2.2)]) ∧ Below w0.heap.size w0 w' := by
 refine calls_mk' Try.func43 rfl Try.ntmps43 rfl rfl fun Q hQ hP => ?_
 have hB : Below w0.heap.size w0 w0 := Below.refl _ _
 have hS : Sep w0.heap.size w0 [] := Sep.nil _ _
 unfold F_spec_WidestPart at hF
 refine W.seq fun K1 hK1 => W.region (wl_box (cs := [v0_0, v0_1, (.int .i64 x0.2.2.1), (.int .i64 x0.2.2.2)]) rfl rfl rfl hB hS ?_)
 intro b2 w3 hb4 hB5 hS6
 refine wl_assign rfl rfl (wl_assign rfl rfl (wl_assign rfl rfl (WL.nil (fun a ha => hK1 _ _ (W.seq fun K7 hK7 => (W.seq fun K8 hK8 => (W.region (wl_load_blk (i := 0) (vs := [v0_0, v0_1, (.int .i64 x0.2.2.1), (.int .i64 x0.2.2.2)]) (v := (.agg #[v0_0, v0_1, (.int .i64 x0.2.2.1), (.int .i64 x0.2.2.2)])) tf_53 rfl rfl hS6 rfl rfl rfl ?_)))) a ha))))
 obtain ⟨u9, hu9, hF⟩ := bindE hF
 refine wl_call rfl Try.call145 (C_spec_swGood w3 x0 v0_0 (h0_0.ro hB5) v0_1 (h0_1.ro hB5) _ hu9) rfl ?_
 rintro _ w10 ⟨rfl, hb11⟩
 refine ⟨_, rfl, ?_⟩
 have hB12 := hB5.trans (hb11.mono hB5.size)
 have hS13 := hS6.below hb11
 refine wl_not rfl rfl (WL.nil (fun a ha => hK8 _ _ (W.cond rfl (fun h15 => ?_) (fun h15 => ?_)) a ha))
 ·replace hF := ifP h15 hF
  refine W.seq fun K16 hK16 => W.region (wl_assign rfl rfl (wl_assign rfl rfl (wl_assign rfl rfl (WL.nil (fun a ha => hK16 _ _ (W.ret ?_) a ha)))))
  have hr := Option.some.inj hF
  subst hr
  exact rets (vs := [(.int .i64 0), (.int .i64 0), (.bool false)]) hQ rfl ⟨rv_tmp rfl, rv_tmp rfl, rv_tmp rfl, trivial⟩ ⟨rfl, hB12⟩
 ·replace hF := ifN h15 hF
  refine W.skip fun a ha => hK7 _ _ (W.seq fun K17 hK17 => (W.region (wl_assign rfl rfl (wl_assign rfl rfl (WL.nil (fun a ha => hK17 _ _ (W.seq fun K18 hK18 => (W.seq fun K19 hK19 => (W.region (wl_field (o := 1) (off' := 1) ff_53_1 rfl rfl rfl (wl_load_blk (i := 0) (vs := [v0_1]) (v := v0_1) tf_29 rfl rfl hS13 rfl rfl rfl (wl_lenr (e := ty_3) (l := x0.2.1) Try.underlying29 rfl rfl h0_1 ?_)))))) a ha)))))) a ha
  refine wl_move rfl rfl (WL.nil (fun a ha => hK19 _ _ (W.block (W.loopk (fun m a w20 => ∃ (y23 : Int) (y24 : Int) (y25 : Int), St 30 [(1, (.pointer (some ⟨b2, 0, none⟩))), (5, (.int .i64 y23)), (6, (.int .i64 y24)), (14, (.int .i64 (List.length x0.2.1 : Int))), (15, (.int .i64 y25))] a ∧ Below w0.heap.size w0 w20 ∧ Sep w0.heap.size w20 [R.blk b2 53 [v0_0, v0_1, (.int .i64 x0.2.2.1), (.int .i64 x0.2.2.2)]] ∧ F_spec_WidestPart_L1 x0 m y23 y24 y25 = some r) FU ?_ ?_)) a ha))
  ·
   exact fun a ha => ⟨0, (-1), 0, ha.sub ⟨rfl, rfl, rfl, rfl, rfl, trivial⟩, hB12, (hS13.sel [0] rfl), hF⟩
  ·
   rintro m28 a w20 ⟨y23, y24, y25, ha, hB21, hS22, hF⟩ KL27 hKL27
   refine W.at ?_ ha
   cases m28 with
   | zero => exact noneE hF
   | succ m28 =>
    obtain ⟨nx26, hnx26⟩ : ∃ k, k = F_spec_WidestPart_L1 x0 m28 := ⟨_, rfl⟩
    rw [F_spec_WidestPart_L1, ← hnx26] at hF
    refine W.seq fun K29 hK29 => W.region (wl_lss rfl rfl rfl (WL.nil (fun a ha => hK29 _ _ (W.seq fun K30 hK30 => (W.cond rfl (fun h31 => ?_) (fun h31 => ?_))) a ha)))
    ·replace hF := ifP h31 hF
     refine W.skip fun a ha => hK30 _ _ (W.seq fun K32 hK32 => ?_) a ha
     obtain ⟨k38, hk38, hF⟩ := jE2 hF
     have hJ39 : ∀ (y36 : Int) (y37 : Int) (w33 : World) (_ : k38 y36 y37 = some r) (_ : Below w0.heap.size w0 w33) (_ : Sep w0.heap.size w33 [R.blk b2 53 [v0_0, v0_1, (.int .i64 x0.2.2.1), (.int .i64 x0.2.2.2)]]), ∀ a, St 30 [(1, (.pointer (some ⟨b2, 0, none⟩))), (5, (.int .i64 y36)), (6, (.int .i64 y37)), (14, (.int .i64 (List.length x0.2.1 : Int))), (15, (.int .i64 y25))] a → K32 a w33 := by
      intro y36 y37 w33 hF hB34 hS35
      subst hk38
      refine fun a ha => hK32 _ _ (W.region (wl_add rfl rfl rfl (wl_move rfl rfl (WL.nil ?_)))) a ha
      rw [hnx26] at hF
      exact fun a ha => hKL27 a _ m28 (Nat.lt_succ_self m28) ⟨y36, y37, (w64 (y25 + 1)), ha.sub ⟨rfl, rfl, rfl, rfl, rfl, trivial⟩, hB34, (hS35.sel [0] rfl), hF⟩
     refine W.block (W.seq fun K40 hK40 => (W.region (wl_move rfl rfl (wl_assign rfl rfl (WL.nil (fun a ha => hK40 _ _ (W.seq fun K41 hK41 => (W.region (wl_load_blk (i := 0) (vs := [v0_0, v0_1, (.int .i64 x0.2.2.1), (.int .i64 x0.2.2.2)]) (v := (.agg #[v0_0, v0_1, (.int .i64 x0.2.2.1), (.int .i64 x0.2.2.2)])) tf_53 rfl rfl hS22 rfl rfl rfl (wl_move rfl rfl ?_)))) a ha))))))
     obtain ⟨u42, hu42, hF⟩ := bindE hF
     refine wl_call rfl Try.call155 (C_spec_cpSquares w20 x0 v0_0 (h0_0.ro hB21) v0_1 (h0_1.ro hB21) y25 _ hu42) rfl ?_
     rintro _ w45 ⟨v43, F44, rfl, hb46, hM49⟩
     refine ⟨_, rfl, ?_⟩
     have hB47 := hB21.trans (hb46.mono hB21.size)
     have hS48 := hS22.join hb46 hM49 hB21.size
     obtain ⟨u50, hu50, hF⟩ := bindE hF
     refine wl_call rfl Try.call154 (C_spec_cpSum w45 u42 v43 (hS48.own_ro (i := 0) rfl) _ hu50) rfl ?_
     rintro _ w51 ⟨rfl, hb52⟩
     refine ⟨_, rfl, ?_⟩
     have hB53 := hB47.trans (hb52.mono hB47.size)
     have hS54 := hS48.below hb52
     refine wl_assign rfl rfl (WL.nil (fun a ha => hK41 _ _ (W.seq fun K56 hK56 => (W.region (wl_move rfl rfl (wl_move rfl rfl (wl_gtr rfl rfl rfl (WL.nil (fun a ha => hK56 _ _ (W.cond rfl (fun h57 => ?_) (fun h57 => ?_)) a ha))))))) a ha))
     ·replace hF := ifP h57 hF
      refine W.seq fun K58 hK58 => W.region (wl_move rfl rfl (wl_assign rfl rfl (WL.nil (fun a ha => hK58 _ _ (W.region (wl_move rfl rfl (wl_assign rfl rfl (WL.nil ?_)))) a ha))))
      exact fun a ha => hJ39 (y25) (u50) _ hF hB53 (hS54.sel [1] rfl) a (ha.sub ⟨rfl, rfl, rfl, rfl, rfl, trivial⟩)
     ·replace hF := ifN h57 hF
      refine W.skip ?_
      exact fun a ha => hJ39 (y23) (y24) _ hF hB53 (hS54.sel [1] rfl) a (ha.sub ⟨rfl, rfl, rfl, rfl, rfl, trivial⟩)
    ·replace hF := ifN h31 hF
     refine W.exit fun a ha => hK18 _ _ (W.seq fun K59 hK59 => (W.region (wl_move rfl rfl (wl_move rfl rfl (wl_assign rfl rfl (wl_assign rfl rfl (wl_assign rfl rfl (WL.nil (fun a ha => hK59 _ _ (W.ret ?_) a ha))))))))) a ha
     have hr := Option.some.inj hF
     subst hr
     exact rets (vs := [(.int .i64 y23), (.int .i64 y24), (.bool true)]) hQ rfl ⟨rv_tmp rfl, rv_tmp rfl, rv_tmp rfl, trivial⟩ ⟨rfl, hB21⟩
theorem C_bits_Mul64 (w0 : World) (x0 : Int) (x1 : Int) (r : (Int × Int)) (hF : F_bits_Mul64 x0 x1 = some r) :
  Calls Try.prog 234 [(.int .u64 x0), (.int .u64 x1)].toArray w0 fun e w' => e = .returned (.tuple #[(.int .u64 r.1), (.int .u64 r.2)]) ∧ Below w0.heap.size w0 w' := by
 refine calls_mk' Try.func234 rfl Try.ntmps234 rfl rfl fun Q hQ hP => ?_
 have hB : Below w0.heap.size w0 w0 := Below.refl _ _
 unfold F_bits_Mul64 at hF
 refine W.seq fun K1 hK1 => W.region (wl_assign rfl rfl (wl_assign rfl rfl (WL.nil (fun a ha => hK1 _ _ (W.seq fun K2 hK2 => (W.region (wl_move rfl rfl (wl_and rfl rfl rfl (wl_assign rfl rfl (WL.nil (fun a ha => hK2 _ _ (W.seq fun K3 hK3 => ?_) a ha))))))) a ha))))
 refine W.region (wl_move rfl rfl (wl_shr rfl rfl rfl rfl (wl_assign rfl rfl (WL.nil (fun a ha => hK3 _ _ (W.seq fun K4 hK4 => (W.region (wl_move rfl rfl (wl_and rfl rfl rfl (wl_assign rfl rfl (WL.nil (fun a ha => hK4 _ _ (W.seq fun K5 hK5 => ?_) a ha))))))) a ha)))))
 refine W.region (wl_move rfl rfl (wl_shr rfl rfl rfl rfl (wl_assign rfl rfl (WL.nil (fun a ha => hK5 _ _ (W.seq fun K6 hK6 => (W.region (wl_move rfl rfl (wl_move rfl rfl (wl_mul rfl rfl rfl (wl_assign rfl rfl (WL.nil (fun a ha => hK6 _ _ ?_ a ha)))))))) a ha)))))
 refine W.seq fun K7 hK7 => W.region (wl_move rfl rfl (wl_move rfl rfl (wl_mul rfl rfl rfl (wl_move rfl rfl (wl_shr rfl rfl rfl rfl (wl_add rfl rfl rfl (wl_assign rfl rfl (WL.nil (fun a ha => hK7 _ _ (W.seq fun K8 hK8 => (W.region (wl_move rfl rfl ?_))) a ha)))))))))
 refine wl_and rfl rfl rfl (wl_assign rfl rfl (WL.nil (fun a ha => hK8 _ _ (W.seq fun K9 hK9 => (W.region (wl_move rfl rfl (wl_shr rfl rfl rfl rfl (wl_assign rfl rfl (WL.nil (fun a ha => hK9 _ _ (W.seq fun K10 hK10 => (W.region (wl_move rfl rfl ?_))) a ha))))))) a ha)))
 refine wl_move rfl rfl (wl_move rfl rfl (wl_mul rfl rfl rfl (wl_add rfl rfl rfl (wl_assign rfl rfl (WL.nil (fun a ha => hK10 _ _ (W.seq fun K11 hK11 => (W.region (wl_move rfl rfl (wl_move rfl rfl (wl_mul rfl rfl rfl (wl_move rfl rfl (wl_add rfl rfl rfl ?_))))))) a ha))))))
 refine wl_move rfl rfl (wl_shr rfl rfl rfl rfl (wl_add rfl rfl rfl (wl_assign rfl rfl (WL.nil (fun a ha => hK11 _ _ (W.seq fun K12 hK12 => (W.region (wl_move rfl rfl (wl_move rfl rfl (wl_mul rfl rfl rfl (wl_assign rfl rfl (WL.nil (fun a ha => hK12 _ _ ?_ a ha)))))))) a ha)))))
 refine W.ret ?_
 have hr := Option.some.inj hF
 subst hr
 exact rets (vs := [(.int .u64 (wu64 ((wu64 ((wu64 ((shrK .u64 x0 32) * (shrK .u64 x1 32))) + (shrK .u64 (wu64 ((wu64 ((shrK .u64 x0 32) * (andK .u64 x1 4294967295))) + (shrK .u64 (wu64 ((andK .u64 x0 4294967295) * (andK .u64 x1 4294967295))) 32))) 32))) + (shrK .u64 (wu64 ((andK .u64 (wu64 ((wu64 ((shrK .u64 x0 32) * (andK .u64 x1 4294967295))) + (shrK .u64 (wu64 ((andK .u64 x0 4294967295) * (andK .u64 x1 4294967295))) 32))) 4294967295) + (wu64 ((andK .u64 x0 4294967295) * (shrK .u64 x1 32))))) 32)))), (.int .u64 (wu64 (x0 * x1)))]) hQ rfl ⟨rv_tmp rfl, rv_tmp rfl, trivial⟩ ⟨rfl, hB⟩
theorem C_impl_lessFraction (w0 : World) (x0 : Int) (x1 : Int) (x2 : Int) (x3 : Int) (r : Bool) (hF : F_impl_lessFraction x0 x1 x2 x3 = some r) :
  Calls Try.prog 158 [(.int .i64 x0), (.int .i64 x1), (.int .i64 x2), (.int .i64 x3)].toArray w0 fun e w' => e = .returned (.bool r) ∧ Below w0.heap.size w0 w' := by
 refine calls_mk' Try.func158 rfl Try.ntmps158 rfl rfl fun Q hQ hP => ?_
 have hB : Below w0.heap.size w0 w0 := Below.refl _ _
 have hS : Sep w0.heap.size w0 [] := Sep.nil _ _
 unfold F_impl_lessFraction at hF
 refine W.seq fun K1 hK1 => W.region (wl_assign rfl rfl (WL.nil (fun a ha => hK1 _ _ (W.seq fun K2 hK2 => (W.region (wl_move rfl rfl (wl_convi Try.underlying3 Try.underlying129 rfl rfl (wl_move rfl rfl (wl_convi Try.underlying3 Try.underlying129 rfl rfl ?_)))))) a ha)))
 obtain ⟨u3, hu3, hF⟩ := bindE hF
 refine wl_call rfl Try.call234 (C_bits_Mul64 w0 (wu64 x0) (wu64 x3) _ hu3) rfl ?_
 rintro _ w4 ⟨rfl, hb5⟩
 refine ⟨_, rfl, ?_⟩
 have hB6 := hB.trans (hb5.mono hB.size)
 have hS7 := hS.below hb5
 refine wl_move rfl rfl (wl_extract rfl rfl rfl (wl_extract rfl rfl rfl (wl_assign rfl rfl (wl_assign rfl rfl (WL.nil (fun a ha => hK2 _ _ (W.seq fun K9 hK9 => (W.region (wl_move rfl rfl (wl_convi Try.underlying3 Try.underlying129 rfl rfl (wl_move rfl rfl (wl_convi Try.underlying3 Try.underlying129 rfl rfl ?_)))))) a ha))))))
 obtain ⟨u10, hu10, hF⟩ := bindE hF
 refine wl_call rfl Try.call234 (C_bits_Mul64 w4 (wu64 x2) (wu64 x1) _ hu10) rfl ?_
 rintro _ w11 ⟨rfl, hb12⟩
 refine ⟨_, rfl, ?_⟩
 have hB13 := hB6.trans (hb12.mono hB6.size)
 have hS14 := hS7.below hb12
 refine wl_move rfl rfl (wl_extract rfl rfl rfl (wl_extract rfl rfl rfl (wl_assign rfl rfl (wl_assign rfl rfl (WL.nil (fun a ha => hK9 _ _ (W.seq fun K16 hK16 => ?_) a ha))))))
 obtain ⟨k21, hk21, hF⟩ := jE1 hF
 have hJ22 : ∀ (y20 : Bool) (w17 : World) (_ : k21 y20 = some r) (_ : Below w0.heap.size w0 w17) (_ : Sep w0.heap.size w17 []), ∀ a, St 42 [(8, (.bool y20))] a → K16 a w17 := by
  intro y20 w17 hF hB18 hS19
  subst hk21
  refine fun a ha => hK16 _ _ (W.ret ?_) a ha
  have hr := Option.some.inj hF
  subst hr
  exact rets (vs := [(.bool y20)]) hQ rfl ⟨rv_tmp rfl, trivial⟩ ⟨rfl, hB18⟩
 refine W.region (wl_move rfl rfl (wl_move rfl rfl (wl_lss rfl rfl rfl (wl_move rfl rfl ?_))))
 rcases bE (decide (u3.1 < u10.1)) with h23 | h23
 ·replace hF := ifP h23 hF
  refine wl_off rfl rfl rfl h23 (wl_off rfl rfl rfl h23 (wl_off rfl rfl rfl h23 (wl_off rfl rfl rfl h23 (wl_offu rfl rfl rfl (wl_offu rfl rfl rfl (wl_offu rfl rfl rfl (wl_off rfl rfl rfl h23 (wl_pick_t rfl rfl h23 rfl (wl_assign rfl rfl (WL.nil ?_))))))))))
  exact fun a ha => hJ22 (true) _ hF hB13 (hS14.sel [] rfl) a (ha.sub ⟨rfl, trivial⟩)
 ·replace hF := ifN h23 hF
  refine wl_on rfl rfl h23 (wl_move rfl rfl (wl_on rfl rfl h23 (wl_move rfl rfl (wl_on rfl rfl h23 (wl_eql rfl rfl rfl (wl_on rfl rfl h23 (wl_move rfl rfl ?_)))))))
  rcases bE (u3.1 == u10.1) with h24 | h24
  ·replace hF := ifP h24 hF
   refine wl_on rfl rfl h24 (wl_move rfl rfl (wl_on rfl rfl h24 (wl_move rfl rfl (wl_on rfl rfl h24 (wl_lss rfl rfl rfl (wl_on rfl rfl h23 (wl_pick_t rfl rfl h24 rfl (wl_pick_f rfl rfl h23 rfl (wl_assign rfl rfl (WL.nil ?_))))))))))
   exact fun a ha => hJ22 ((decide (u3.2 < u10.2))) _ hF hB13 (hS14.sel [] rfl) a (ha.sub ⟨rfl, trivial⟩)
  ·replace hF := ifN h24 hF
   refine wl_off rfl rfl rfl h24 (wl_off rfl rfl rfl h24 (wl_off rfl rfl rfl h24 (wl_on rfl rfl h23 (wl_pick_f rfl rfl h24 rfl (wl_pick_f rfl rfl h23 rfl (wl_assign rfl rfl (WL.nil ?_)))))))
   exact fun a ha => hJ22 (false) _ hF hB13 (hS14.sel [] rfl) a (ha.sub ⟨rfl, trivial⟩)
theorem C_impl_closestMoves (w0 : World) (x0 : (List ((Int × Int) × (Int × Int) × Int))) (v0_0 : Value) (h0_0 : rdS ty_70 (· < w0.heap.size) w0 v0_0 x0) (r : (Int × Int)) (hF : F_impl_closestMoves x0 = some r) :
  Calls Try.prog 156 [v0_0].toArray w0 fun e w' => e = .returned (.tuple #[(.int .i64 r.1), (.int .i64 r.2)]) ∧ Below w0.heap.size w0 w' := by
 refine calls_mk' Try.func156 rfl Try.ntmps156 rfl rfl fun Q hQ hP => ?_
 have hB : Below w0.heap.size w0 w0 := Below.refl _ _
 have hS : Sep w0.heap.size w0 [] := Sep.nil _ _
 unfold F_impl_closestMoves at hF
 refine W.seq fun K1 hK1 => W.region (wl_assign rfl rfl (wl_assign rfl rfl (WL.nil (fun a ha => hK1 _ _ (W.seq fun K2 hK2 => (W.region (wl_assign rfl rfl (wl_assign rfl rfl (WL.nil (fun a ha => hK2 _ _ (W.seq fun K3 hK3 => (W.regionH mixed_ [] hB hS ?_)) a ha)))))) a ha))))
 intro w4 hb5 hB6 hS7
 have hSW8 := KeepX.refl w4 []
 refine WH.tk 0 rfl hP hSW8 (pr_move rfl rfl ?_)
 obtain ⟨u9, hu9, hF⟩ := bindE hF
 refine WH.tk 1 rfl hP hSW8 (pr_index (e := ty_70) Try.underlying64 rfl rfl rfl h0_0 hu9 ?_)
 rintro p10 _ rfl hp11
 refine WH.tk 2 rfl hP hSW8 (pr_load_p (vs := [(.int .i64 u9.1.1), (.int .i64 u9.1.2), (.int .i64 u9.2.1.1), (.int .i64 u9.2.1.2), (.int .i64 u9.2.2)]) (v := (.agg #[(.int .i64 u9.1.1), (.int .i64 u9.1.2), (.int .i64 u9.2.1.1), (.int .i64 u9.2.1.2), (.int .i64 u9.2.2)])) tf_70 rfl rfl (hp11.kx hB6 (by simp)) rfl rfl (WH.tk 3 rfl hP hSW8 (pr_move rfl rfl ?_)))
 obtain ⟨u12, hu12, hF⟩ := bindE hF
 refine WH.tk 4 rfl hP hSW8 (pr_index (e := ty_70) Try.underlying64 rfl rfl rfl h0_0 hu12 ?_)
 rintro p13 _ rfl hp14
 refine WH.tk 5 rfl hP hSW8 (pr_load_p (vs := [(.int .i64 u12.1.1), (.int .i64 u12.1.2), (.int .i64 u12.2.1.1), (.int .i64 u12.2.1.2), (.int .i64 u12.2.2)]) (v := (.agg #[(.int .i64 u12.1.1), (.int .i64 u12.1.2), (.int .i64 u12.2.1.1), (.int .i64 u12.2.1.2), (.int .i64 u12.2.2)])) tf_70 rfl rfl (hp14.kx hB6 (by simp)) rfl rfl (WH.on1 6 rfl ?_))
 obtain ⟨u15, hu15, hF⟩ := bindE hF
 refine wl_call rfl Try.call157 (C_impl_leastApart w4 u9 u12 _ hu15) rfl ?_
 rintro _ w16 ⟨rfl, hb17⟩
 refine ⟨_, rfl, ?_⟩
 have hB18 := hB6.trans (hb17.mono hB6.size)
 have hS19 := hS7.below hb17
 have hSW21 := hSW8.ext hb17
 refine WL.nil (WH.ret hSW21 (WH.tk 7 rfl hP hSW21 (pr_move rfl rfl (WH.tk 8 rfl hP hSW21 (pr_extract rfl rfl rfl (WH.tk 9 rfl hP hSW21 (pr_extract rfl rfl rfl (WH.tk 10 rfl hP hSW21 (pr_assign rfl rfl (WH.tk 11 rfl hP hSW21 (pr_assign rfl rfl (WH.done (by kernel_rfl) (fun a ha => hK3 _ _ (W.seq fun K22 hK22 => ?_) a ha)))))))))))))
 refine W.seq fun K23 hK23 => W.region (wl_move rfl rfl (wl_lenr (e := ty_70) (l := x0) Try.underlying64 rfl rfl h0_0 (wl_move rfl rfl (WL.nil (fun a ha => hK23 _ _ (W.block (W.loopk (fun m a w24 => ∃ (y27 : Int) (y28 : Int) (y29 : Int) (y30 : Int) (y31 : Int), St 59 [(0, v0_0), (4, (.int .i64 y27)), (5, (.int .i64 y28)), (6, (.int .i64 y29)), (7, (.int .i64 y30)), (23, (.int .i64 (List.length x0 : Int))), (24, (.int .i64 y31))] a ∧ Below w0.heap.size w0 w24 ∧ Sep w0.heap.size w24 [] ∧ F_impl_closestMoves_L1 x0 m y27 y28 y29 y30 y31 = some r) FU ?_ ?_)) a ha)))))
 ·
  exact fun a ha => ⟨0, 1, u15.1, u15.2, 0, ha.sub ⟨rfl, rfl, rfl, rfl, rfl, rfl, rfl, trivial⟩, hB18, (hS19.sel [] rfl), hF⟩
 ·
  rintro m34 a w24 ⟨y27, y28, y29, y30, y31, ha, hB25, hS26, hF⟩ KL33 hKL33
  refine W.at ?_ ha
  cases m34 with
  | zero => exact noneE hF
  | succ m34 =>
   obtain ⟨nx32, hnx32⟩ : ∃ k, k = F_impl_closestMoves_L1 x0 m34 := ⟨_, rfl⟩
   rw [F_impl_closestMoves_L1, ← hnx32] at hF
   refine W.seq fun K35 hK35 => W.region (wl_lss rfl rfl rfl (WL.nil (fun a ha => hK35 _ _ (W.seq fun K36 hK36 => (W.cond rfl (fun h37 => ?_) (fun h37 => ?_))) a ha)))
   ·replace hF := ifP h37 hF
    refine W.skip fun a ha => hK36 _ _ (W.seq fun K38 hK38 => (W.block (W.seq fun K39 hK39 => (W.region (wl_move rfl rfl (wl_assign rfl rfl (WL.nil (fun a ha => hK39 _ _ (W.seq fun K40 hK40 => (W.region (wl_move rfl rfl (wl_add rfl rfl rfl ?_)))) a ha)))))))) a ha
    refine wl_assign rfl rfl (WL.nil (fun a ha => hK40 _ _ (W.block (W.loopk (fun m a w41 => ∃ (y44 : Int) (y45 : Int) (y46 : Int) (y47 : Int) (y48 : Int), St 59 [(0, v0_0), (4, (.int .i64 y44)), (5, (.int .i64 y45)), (6, (.int .i64 y46)), (7, (.int .i64 y47)), (8, (.int .i64 y31)), (9, (.int .i64 y48)), (23, (.int .i64 (List.length x0 : Int))), (24, (.int .i64 y31))] a ∧ Below w0.heap.size w0 w41 ∧ Sep w0.heap.size w41 [] ∧ F_impl_closestMoves_L2 x0 y31 nx32 m y44 y45 y46 y47 y48 = some r) FU ?_ ?_)) a ha))
    ·
     exact fun a ha => ⟨y27, y28, y29, y30, (w64 (y31 + 1)), ha.sub ⟨rfl, rfl, rfl, rfl, rfl, rfl, rfl, rfl, rfl, trivial⟩, hB25, (hS26.sel [] rfl), hF⟩
    ·
     rintro m51 a w41 ⟨y44, y45, y46, y47, y48, ha, hB42, hS43, hF⟩ KL50 hKL50
     refine W.at ?_ ha
     cases m51 with
     | zero => exact noneE hF
     | succ m51 =>
      obtain ⟨nx49, hnx49⟩ : ∃ k, k = F_impl_closestMoves_L2 x0 y31 nx32 m51 := ⟨_, rfl⟩
      rw [F_impl_closestMoves_L2, ← hnx49] at hF
      refine W.seq fun K52 hK52 => W.seq fun K53 hK53 => W.region (wl_move rfl rfl (wl_move rfl rfl (wl_lenr (e := ty_70) (l := x0) Try.underlying64 rfl rfl h0_0 (wl_lss rfl rfl rfl (WL.nil (fun a ha => hK53 _ _ (W.cond rfl (fun h54 => ?_) (fun h54 => ?_)) a ha))))))
      ·replace hF := ifP h54 hF
       refine W.skip fun a ha => hK52 _ _ (W.seq fun K55 hK55 => ?_) a ha
       obtain ⟨k63, hk63, hF⟩ := jE4 hF
       have hJ64 : ∀ (y59 : Int) (y60 : Int) (y61 : Int) (y62 : Int) (w56 : World) (_ : k63 y59 y60 y61 y62 = some r) (_ : Below w0.heap.size w0 w56) (_ : Sep w0.heap.size w56 []), ∀ a, St 59 [(0, v0_0), (4, (.int .i64 y59)), (5, (.int .i64 y60)), (6, (.int .i64 y61)), (7, (.int .i64 y62)), (8, (.int .i64 y31)), (9, (.int .i64 y48)), (23, (.int .i64 (List.length x0 : Int))), (24, (.int .i64 y31))] a → K55 a w56 := by
        intro y59 y60 y61 y62 w56 hF hB57 hS58
        subst hk63
        refine fun a ha => hK55 _ _ (W.region (wl_move rfl rfl (wl_add rfl rfl rfl (wl_assign rfl rfl (WL.nil ?_))))) a ha
        rw [hnx49] at hF
        exact fun a ha => hKL50 a _ m51 (Nat.lt_succ_self m51) ⟨y59, y60, y61, y62, (w64 (y48 + 1)), ha.sub ⟨rfl, rfl, rfl, rfl, rfl, rfl, rfl, rfl, rfl, trivial⟩, hB57, (hS58.sel [] rfl), hF⟩
       refine W.block (W.seq fun K65 hK65 => (W.regionH mixed_ [] hB42 hS43 ?_))
       intro w66 hb67 hB68 hS69
       have hSW70 := KeepX.refl w66 []
       refine WH.tk 0 rfl hP hSW70 (pr_move rfl rfl (WH.tk 1 rfl hP hSW70 (pr_move rfl rfl ?_)))
       obtain ⟨u71, hu71, hF⟩ := bindE hF
       refine WH.tk 2 rfl hP hSW70 (pr_index (e := ty_70) Try.underlying64 rfl rfl rfl h0_0 hu71 ?_)
       rintro p72 _ rfl hp73
       refine WH.tk 3 rfl hP hSW70 (pr_load_p (vs := [(.int .i64 u71.1.1), (.int .i64 u71.1.2), (.int .i64 u71.2.1.1), (.int .i64 u71.2.1.2), (.int .i64 u71.2.2)]) (v := (.agg #[(.int .i64 u71.1.1), (.int .i64 u71.1.2), (.int .i64 u71.2.1.1), (.int .i64 u71.2.1.2), (.int .i64 u71.2.2)])) tf_70 rfl rfl (hp73.kx hB68 (by simp)) rfl rfl (WH.tk 4 rfl hP hSW70 (pr_move rfl rfl (WH.tk 5 rfl hP hSW70 (pr_move rfl rfl ?_)))))
       obtain ⟨u74, hu74, hF⟩ := bindE hF
       refine WH.tk 6 rfl hP hSW70 (pr_index (e := ty_70) Try.underlying64 rfl rfl rfl h0_0 hu74 ?_)
       rintro p75 _ rfl hp76
       refine WH.tk 7 rfl hP hSW70 (pr_load_p (vs := [(.int .i64 u74.1.1), (.int .i64 u74.1.2), (.int .i64 u74.2.1.1), (.int .i64 u74.2.1.2), (.int .i64 u74.2.2)]) (v := (.agg #[(.int .i64 u74.1.1), (.int .i64 u74.1.2), (.int .i64 u74.2.1.1), (.int .i64 u74.2.1.2), (.int .i64 u74.2.2)])) tf_70 rfl rfl (hp76.kx hB68 (by simp)) rfl rfl (WH.on1 8 rfl ?_))
       obtain ⟨u77, hu77, hF⟩ := bindE hF
       refine wl_call rfl Try.call157 (C_impl_leastApart w66 u71 u74 _ hu77) rfl ?_
       rintro _ w78 ⟨rfl, hb79⟩
       refine ⟨_, rfl, ?_⟩
       have hB80 := hB68.trans (hb79.mono hB68.size)
       have hS81 := hS69.below hb79
       have hSW83 := hSW70.ext hb79
       refine WL.nil (WH.ret hSW83 (WH.tk 9 rfl hP hSW83 (pr_move rfl rfl (WH.tk 10 rfl hP hSW83 (pr_extract rfl rfl rfl (WH.tk 11 rfl hP hSW83 (pr_extract rfl rfl rfl (WH.tk 12 rfl hP hSW83 (pr_assign rfl rfl (WH.tk 13 rfl hP hSW83 (pr_assign rfl rfl (WH.done (by kernel_rfl) (fun a ha => hK65 _ _ (W.seq fun K84 hK84 => ?_) a ha)))))))))))))
       refine W.region (wl_move rfl rfl (wl_move rfl rfl (wl_move rfl rfl (wl_move rfl rfl ?_))))
       obtain ⟨u85, hu85, hF⟩ := bindE hF
       refine wl_call rfl Try.call158 (C_impl_lessFraction w78 u77.1 u77.2 y46 y47 _ hu85) rfl ?_
       rintro _ w86 ⟨rfl, hb87⟩
       refine ⟨_, rfl, ?_⟩
       have hB88 := hB80.trans (hb87.mono hB80.size)
       have hS89 := hS81.below hb87
       refine WL.nil fun a ha => hK84 _ _ (W.cond rfl (fun h91 => ?_) (fun h91 => ?_)) a ha
       ·replace hF := ifP h91 hF
        refine W.region (wl_move rfl rfl (wl_move rfl rfl (wl_move rfl rfl (wl_move rfl rfl (wl_assign rfl rfl (wl_assign rfl rfl (wl_assign rfl rfl (wl_assign rfl rfl (WL.nil ?_)))))))))
        exact fun a ha => hJ64 (y31) (y48) (u77.1) (u77.2) _ hF hB88 (hS89.sel [] rfl) a (ha.sub ⟨rfl, rfl, rfl, rfl, rfl, rfl, rfl, rfl, rfl, trivial⟩)
       ·replace hF := ifN h91 hF
        refine W.skip ?_
        exact fun a ha => hJ64 (y44) (y45) (y46) (y47) _ hF hB88 (hS89.sel [] rfl) a (ha.sub ⟨rfl, rfl, rfl, rfl, rfl, rfl, rfl, rfl, rfl, trivial⟩)
      ·replace hF := ifN h54 hF
       refine W.exit fun a ha => hK38 _ _ (W.region (wl_add rfl rfl rfl (wl_move rfl rfl (WL.nil ?_)))) a ha
       rw [hnx32] at hF
       exact fun a ha => hKL33 a _ m34 (Nat.lt_succ_self m34) ⟨y44, y45, y46, y47, (w64 (y31 + 1)), ha.sub ⟨rfl, rfl, rfl, rfl, rfl, rfl, rfl, trivial⟩, hB42, (hS43.sel [] rfl), hF⟩
   ·replace hF := ifN h37 hF
    refine W.exit fun a ha => hK22 _ _ (W.seq fun K92 hK92 => (W.region (wl_move rfl rfl (wl_move rfl rfl (wl_assign rfl rfl (wl_assign rfl rfl (WL.nil (fun a ha => hK92 _ _ (W.ret ?_) a ha)))))))) a ha
    have hr := Option.some.inj hF
    subst hr
    exact rets (vs := [(.int .i64 y27), (.int .i64 y28)]) hQ rfl ⟨rv_tmp rfl, rv_tmp rfl, trivial⟩ ⟨rfl, hB25⟩
theorem C_impl_LeastOfShow (w0 : World) (x0 : ((List (List (Int × Int))) × (List Int) × Int × Int)) (v0_0 : Value) (h0_0 : rdS ty_63 (· < w0.heap.size) w0 v0_0 x0.1) (v0_1 : Value) (h0_1 : rdS ty_3 (· < w0.heap.size) w0 v0_1 x0.2.1) (r : (Int × Int × Bool)) (hF : F_impl_LeastOfShow x0 = some r) :
  Calls Try.prog 44 [(.agg #[v0_0, v0_1, (.int .i64 x0.2.2.1), (.int .i64 x0.2.2.2)])].toArray w0 fun e w' => e = .returned (.tuple #[(.int .i64 r.1), (.int .i64 r.2.1), (.bool r.2.2)]) ∧ Below w0.heap.size w0 w' := by
 refine calls_mk' Try.func44 rfl Try.ntmps44 rfl rfl fun Q hQ hP => ?_
 have hB : Below w0.heap.size w0 w0 := Below.refl _ _
 have hS : Sep w0.heap.size w0 [] := Sep.nil _ _
 unfold F_impl_LeastOfShow at hF
 refine W.seq fun K1 hK1 => W.region (wl_box (cs := [v0_0, v0_1, (.int .i64 x0.2.2.1), (.int .i64 x0.2.2.2)]) rfl rfl rfl hB hS ?_)
 intro b2 w3 hb4 hB5 hS6
 refine wl_assign rfl rfl (wl_assign rfl rfl (wl_assign rfl rfl (WL.nil (fun a ha => hK1 _ _ (W.seq fun K7 hK7 => (W.seq fun K8 hK8 => ?_)) a ha))))
 obtain ⟨k13, hk13, hF⟩ := jE1 hF
 have hJ14 : ∀ (y12 : Bool) (w9 : World) (_ : k13 y12 = some r) (_ : Below w0.heap.size w0 w9) (_ : Sep w0.heap.size w9 [R.blk b2 53 [v0_0, v0_1, (.int .i64 x0.2.2.1), (.int .i64 x0.2.2.2)]]), ∀ a, St 64 [(1, (.pointer (some ⟨b2, 0, none⟩))), (23, (.bool y12))] a → K8 a w9 := by
  intro y12 w9 hF hB10 hS11
  subst hk13
  refine fun a ha => hK8 _ _ (W.cond rfl (fun h15 => ?_) (fun h15 => ?_)) a ha
  ·replace hF := ifP h15 hF
   refine W.seq fun K16 hK16 => W.region (wl_assign rfl rfl (wl_assign rfl rfl (wl_assign rfl rfl (WL.nil (fun a ha => hK16 _ _ (W.ret ?_) a ha)))))
   have hr := Option.some.inj hF
   subst hr
   exact rets (vs := [(.int .i64 0), (.int .i64 0), (.bool false)]) hQ rfl ⟨rv_tmp rfl, rv_tmp rfl, rv_tmp rfl, trivial⟩ ⟨rfl, hB10⟩
  ·replace hF := ifN h15 hF
   refine W.skip fun a ha => hK7 _ _ (W.seq fun K17 hK17 => (W.region (wl_assign rfl rfl (wl_assign rfl rfl (WL.nil (fun a ha => hK17 _ _ (W.seq fun K18 hK18 => (W.seq fun K19 hK19 => (W.region (wl_field (o := 1) (off' := 1) ff_53_1 rfl rfl rfl (wl_load_blk (i := 0) (vs := [v0_1]) (v := v0_1) tf_29 rfl rfl hS11 rfl rfl rfl (wl_lenr (e := ty_3) (l := x0.2.1) Try.underlying29 rfl rfl h0_1 ?_)))))) a ha)))))) a ha
   refine wl_move rfl rfl (WL.nil (fun a ha => hK19 _ _ (W.block (W.loopk (fun m a w20 => ∃ (y23 : Int) (y24 : Int) (y25 : Int), St 64 [(1, (.pointer (some ⟨b2, 0, none⟩))), (5, (.int .i64 y23)), (6, (.int .i64 y24)), (26, (.int .i64 (List.length x0.2.1 : Int))), (27, (.int .i64 y25))] a ∧ Below w0.heap.size w0 w20 ∧ Sep w0.heap.size w20 [R.blk b2 53 [v0_0, v0_1, (.int .i64 x0.2.2.1), (.int .i64 x0.2.2.2)]] ∧ F_impl_LeastOfShow_L1 x0 m y23 y24 y25 = some r) FU ?_ ?_)) a ha))
   ·
    exact fun a ha => ⟨0, 0, 0, ha.sub ⟨rfl, rfl, rfl, rfl, rfl, trivial⟩, hB10, (hS11.sel [0] rfl), hF⟩
   ·
    rintro m28 a w20 ⟨y23, y24, y25, ha, hB21, hS22, hF⟩ KL27 hKL27
    refine W.at ?_ ha
    cases m28 with
    | zero => exact noneE hF
    | succ m28 =>
     obtain ⟨nx26, hnx26⟩ : ∃ k, k = F_impl_LeastOfShow_L1 x0 m28 := ⟨_, rfl⟩
     rw [F_impl_LeastOfShow_L1, ← hnx26] at hF
     refine W.seq fun K29 hK29 => W.region (wl_lss rfl rfl rfl (WL.nil (fun a ha => hK29 _ _ (W.seq fun K30 hK30 => (W.cond rfl (fun h31 => ?_) (fun h31 => ?_))) a ha)))
     ·replace hF := ifP h31 hF
      refine W.skip fun a ha => hK30 _ _ (W.seq fun K32 hK32 => ?_) a ha
      obtain ⟨k38, hk38, hF⟩ := jE2 hF
      have hJ39 : ∀ (y36 : Int) (y37 : Int) (w33 : World) (_ : k38 y36 y37 = some r) (_ : Below w0.heap.size w0 w33) (_ : Sep w0.heap.size w33 [R.blk b2 53 [v0_0, v0_1, (.int .i64 x0.2.2.1), (.int .i64 x0.2.2.2)]]), ∀ a, St 64 [(1, (.pointer (some ⟨b2, 0, none⟩))), (5, (.int .i64 y36)), (6, (.int .i64 y37)), (26, (.int .i64 (List.length x0.2.1 : Int))), (27, (.int .i64 y25))] a → K32 a w33 := by
       intro y36 y37 w33 hF hB34 hS35
       subst hk38
       refine fun a ha => hK32 _ _ (W.region (wl_add rfl rfl rfl (wl_move rfl rfl (WL.nil ?_)))) a ha
       rw [hnx26] at hF
       exact fun a ha => hKL27 a _ m28 (Nat.lt_succ_self m28) ⟨y36, y37, (w64 (y25 + 1)), ha.sub ⟨rfl, rfl, rfl, rfl, rfl, trivial⟩, hB34, (hS35.sel [0] rfl), hF⟩
      refine W.block (W.seq fun K40 hK40 => (W.region (wl_move rfl rfl (wl_assign rfl rfl (WL.nil (fun a ha => hK40 _ _ (W.seq fun K41 hK41 => (W.region (wl_load_blk (i := 0) (vs := [v0_0, v0_1, (.int .i64 x0.2.2.1), (.int .i64 x0.2.2.2)]) (v := (.agg #[v0_0, v0_1, (.int .i64 x0.2.2.1), (.int .i64 x0.2.2.2)])) tf_53 rfl rfl hS22 rfl rfl rfl (wl_move rfl rfl ?_)))) a ha))))))
      obtain ⟨u42, hu42, hF⟩ := bindE hF
      refine wl_call rfl Try.call152 (C_impl_showMoves w20 x0 v0_0 (h0_0.ro hB21) v0_1 (h0_1.ro hB21) y25 _ hu42) rfl ?_
      rintro _ w45 ⟨v43, F44, rfl, hb46, hM49⟩
      refine ⟨_, rfl, ?_⟩
      have hB47 := hB21.trans (hb46.mono hB21.size)
      have hS48 := hS22.join hb46 hM49 hB21.size
      refine wl_assign rfl rfl (WL.nil (fun a ha => hK41 _ _ (W.seq fun K50 hK50 => (W.region (wl_move rfl rfl ?_))) a ha))
      obtain ⟨u51, hu51, hF⟩ := bindE hF
      refine wl_call rfl Try.call156 (C_impl_closestMoves w45 u42 v43 (hS48.own_ro (i := 0) rfl) _ hu51) rfl ?_
      rintro _ w52 ⟨rfl, hb53⟩
      refine ⟨_, rfl, ?_⟩
      have hB54 := hB47.trans (hb53.mono hB47.size)
      have hS55 := hS48.below hb53
      refine wl_move rfl rfl (wl_extract rfl rfl rfl (wl_extract rfl rfl rfl (wl_assign rfl rfl (wl_assign rfl rfl (WL.nil (fun a ha => hK50 _ _ (W.seq fun K57 hK57 => (W.regionH mixed_ [] hB54 hS55 ?_)) a ha))))))
      intro w58 hb59 hB60 hS61
      have hSW62 := KeepX.refl w58 []
      refine WH.tk 0 rfl hP hSW62 (pr_move rfl rfl (WH.tk 1 rfl hP hSW62 (pr_move rfl rfl ?_)))
      obtain ⟨u63, hu63, hF⟩ := bindE hF
      refine WH.tk 2 rfl hP hSW62 (pr_indexo (e := ty_70) (i := 0) Try.underlying64 rfl rfl rfl hS61 rfl hu63 ?_)
      rintro p64 _ rfl hp65 ho66
      refine WH.tk 3 rfl hP hSW62 (pr_load_p (vs := [(.int .i64 u63.1.1), (.int .i64 u63.1.2), (.int .i64 u63.2.1.1), (.int .i64 u63.2.1.2), (.int .i64 u63.2.2)]) (v := (.agg #[(.int .i64 u63.1.1), (.int .i64 u63.1.2), (.int .i64 u63.2.1.1), (.int .i64 u63.2.1.2), (.int .i64 u63.2.2)])) tf_70 rfl rfl (hp65.kx0) rfl rfl (WH.tk 4 rfl hP hSW62 (pr_move rfl rfl (WH.tk 5 rfl hP hSW62 (pr_move rfl rfl ?_)))))
      obtain ⟨u67, hu67, hF⟩ := bindE hF
      refine WH.tk 6 rfl hP hSW62 (pr_indexo (e := ty_70) (i := 0) Try.underlying64 rfl rfl rfl hS61 rfl hu67 ?_)
      rintro p68 _ rfl hp69 ho70
      refine WH.tk 7 rfl hP hSW62 (pr_load_p (vs := [(.int .i64 u67.1.1), (.int .i64 u67.1.2), (.int .i64 u67.2.1.1), (.int .i64 u67.2.1.2), (.int .i64 u67.2.2)]) (v := (.agg #[(.int .i64 u67.1.1), (.int .i64 u67.1.2), (.int .i64 u67.2.1.1), (.int .i64 u67.2.1.2), (.int .i64 u67.2.2)])) tf_70 rfl rfl (hp69.kx0) rfl rfl (WH.on1 8 rfl ?_))
      obtain ⟨u71, hu71, hF⟩ := bindE hF
      refine wl_call rfl Try.call157 (C_impl_leastApart w58 u63 u67 _ hu71) rfl ?_
      rintro _ w72 ⟨rfl, hb73⟩
      refine ⟨_, rfl, ?_⟩
      have hB74 := hB60.trans (hb73.mono hB60.size)
      have hS75 := hS61.below hb73
      have hSW77 := hSW62.ext hb73
      refine WL.nil (WH.ret hSW77 (WH.tk 9 rfl hP hSW77 (pr_move rfl rfl (WH.tk 10 rfl hP hSW77 (pr_extract rfl rfl rfl (WH.tk 11 rfl hP hSW77 (pr_extract rfl rfl rfl (WH.tk 12 rfl hP hSW77 (pr_assign rfl rfl (WH.tk 13 rfl hP hSW77 (pr_assign rfl rfl (WH.done (by kernel_rfl) (fun a ha => hK57 _ _ (W.seq fun K78 hK78 => ?_) a ha)))))))))))))
      obtain ⟨k83, hk83, hF⟩ := jE1 hF
      have hJ84 : ∀ (y82 : Bool) (w79 : World) (_ : k83 y82 = some r) (_ : Below w0.heap.size w0 w79) (_ : Sep w0.heap.size w79 [R.blk b2 53 [v0_0, v0_1, (.int .i64 x0.2.2.1), (.int .i64 x0.2.2.2)]]), ∀ a, St 64 [(1, (.pointer (some ⟨b2, 0, none⟩))), (5, (.int .i64 y23)), (6, (.int .i64 y24)), (11, (.int .i64 u71.1)), (12, (.int .i64 u71.2)), (26, (.int .i64 (List.length x0.2.1 : Int))), (27, (.int .i64 y25)), (58, (.bool y82))] a → K78 a w79 := by
       intro y82 w79 hF hB80 hS81
       subst hk83
       refine fun a ha => hK78 _ _ (W.cond rfl (fun h85 => ?_) (fun h85 => ?_)) a ha
       ·replace hF := ifP h85 hF
        refine W.region (wl_move rfl rfl (wl_move rfl rfl (wl_assign rfl rfl (wl_assign rfl rfl (WL.nil ?_)))))
        exact fun a ha => hJ39 (u71.1) (u71.2) _ hF hB80 (hS81.sel [0] rfl) a (ha.sub ⟨rfl, rfl, rfl, rfl, rfl, trivial⟩)
       ·replace hF := ifN h85 hF
        refine W.skip ?_
        exact fun a ha => hJ39 (y23) (y24) _ hF hB80 (hS81.sel [0] rfl) a (ha.sub ⟨rfl, rfl, rfl, rfl, rfl, trivial⟩)
      refine W.region (wl_move rfl rfl (wl_eql rfl rfl rfl (wl_move rfl rfl ?_)))
      rcases bE (y25 == 0) with h86 | h86
      ·replace hF := ifP h86 hF
       refine wl_off rfl rfl rfl h86 (wl_off rfl rfl rfl h86 (wl_off rfl rfl rfl h86 (wl_off rfl rfl rfl h86 (wl_off rfl rfl rfl h86 (wl_pick_t rfl rfl h86 rfl (WL.nil ?_))))))
       exact fun a ha => hJ84 (true) _ hF hB74 (hS75.sel [1] rfl) a (ha.sub ⟨rfl, rfl, rfl, rfl, rfl, rfl, rfl, rfl, trivial⟩)
      ·replace hF := ifN h86 hF
       refine wl_on rfl rfl h86 (wl_move rfl rfl (wl_on rfl rfl h86 (wl_move rfl rfl (wl_on rfl rfl h86 (wl_move rfl rfl (wl_on rfl rfl h86 (wl_move rfl rfl (wl_on rfl rfl h86 ?_))))))))
       obtain ⟨u87, hu87, hF⟩ := bindE hF
       refine wl_call rfl Try.call158 (C_impl_lessFraction w72 u71.1 u71.2 y23 y24 _ hu87) rfl ?_
       rintro _ w88 ⟨rfl, hb89⟩
       refine ⟨_, rfl, ?_⟩
       have hB90 := hB74.trans (hb89.mono hB74.size)
       have hS91 := hS75.below hb89
       refine wl_pick_f rfl rfl h86 rfl (WL.nil ?_)
       exact fun a ha => hJ84 (u87) _ hF hB90 (hS91.sel [1] rfl) a (ha.sub ⟨rfl, rfl, rfl, rfl, rfl, rfl, rfl, rfl, trivial⟩)
     ·replace hF := ifN h31 hF
      refine W.exit fun a ha => hK18 _ _ (W.seq fun K93 hK93 => (W.region (wl_move rfl rfl (wl_move rfl rfl (wl_assign rfl rfl (wl_assign rfl rfl (wl_assign rfl rfl (WL.nil (fun a ha => hK93 _ _ (W.ret ?_) a ha))))))))) a ha
      have hr := Option.some.inj hF
      subst hr
      exact rets (vs := [(.int .i64 y23), (.int .i64 y24), (.bool true)]) hQ rfl ⟨rv_tmp rfl, rv_tmp rfl, rv_tmp rfl, trivial⟩ ⟨rfl, hB21⟩
 refine W.region (wl_load_blk (i := 0) (vs := [v0_0, v0_1, (.int .i64 x0.2.2.1), (.int .i64 x0.2.2.2)]) (v := (.agg #[v0_0, v0_1, (.int .i64 x0.2.2.1), (.int .i64 x0.2.2.2)])) tf_53 rfl rfl hS6 rfl rfl rfl ?_)
 obtain ⟨u94, hu94, hF⟩ := bindE hF
 refine wl_call rfl Try.call60 (C_impl_IsShow w3 x0 v0_0 (h0_0.ro hB5) v0_1 (h0_1.ro hB5) _ hu94) rfl ?_
 rintro _ w95 ⟨rfl, hb96⟩
 refine ⟨_, rfl, ?_⟩
 have hB97 := hB5.trans (hb96.mono hB5.size)
 have hS98 := hS6.below hb96
 refine wl_not rfl rfl (wl_move rfl rfl ?_)
 rcases bE (!u94) with h100 | h100
 ·replace hF := ifP h100 hF
  refine wl_off rfl rfl rfl h100 (wl_off rfl rfl rfl h100 (wl_off rfl rfl rfl h100 (wl_off rfl rfl rfl h100 (wl_off rfl rfl rfl h100 (wl_off rfl rfl rfl h100 (wl_pick_t rfl rfl h100 rfl (WL.nil ?_)))))))
  exact fun a ha => hJ14 (true) _ hF hB97 (hS98.sel [0] rfl) a (ha.sub ⟨rfl, rfl, trivial⟩)
 ·replace hF := ifN h100 hF
  refine wl_on rfl rfl h100 (wl_field (o := 0) (off' := 0) ff_53_0 rfl rfl rfl (wl_on rfl rfl h100 (wl_load_blk (i := 0) (vs := [v0_0]) (v := v0_0) tf_51 rfl rfl hS98 rfl rfl rfl (wl_on rfl rfl h100 ?_))))
  obtain ⟨u101, hu101, hF⟩ := bindE hF
  refine wl_index (e := ty_63) Try.underlying51 rfl rfl rfl h0_0 hu101 ?_
  rintro p102 _ ⟨v104, rfl, hv105⟩ hp103
  refine wl_on rfl rfl h100 (wl_load_p (vs := [v104]) (v := v104) tf_63 rfl rfl (hp103.ro hB97) rfl rfl (wl_on rfl rfl h100 (wl_lenr (e := ty_68) (l := u101) Try.underlying63 rfl rfl hv105 (wl_on rfl rfl h100 (wl_lss rfl rfl rfl (wl_pick_f rfl rfl h100 rfl (WL.nil ?_)))))))
  exact fun a ha => hJ14 ((decide ((List.length u101 : Int) < 2))) _ hF hB97 (hS98.sel [0] rfl) a (ha.sub ⟨rfl, rfl, trivial⟩)
theorem C_spec_mvGood (w0 : World) (x0 : ((Int × Int) × (Int × Int) × Int)) (r : Bool) (hF : F_spec_mvGood x0 = some r) :
  Calls Try.prog 275 [(.agg #[(.int .i64 x0.1.1), (.int .i64 x0.1.2), (.int .i64 x0.2.1.1), (.int .i64 x0.2.1.2), (.int .i64 x0.2.2)])].toArray w0 fun e w' => e = .returned (.bool r) ∧ Below w0.heap.size w0 w' := by
 refine calls_mk' Try.func275 rfl Try.ntmps275 rfl rfl fun Q hQ hP => ?_
 have hB : Below w0.heap.size w0 w0 := Below.refl _ _
 have hS : Sep w0.heap.size w0 [] := Sep.nil _ _
 unfold F_spec_mvGood at hF
 refine W.seq fun K1 hK1 => W.region (wl_box (cs := [(.int .i64 x0.1.1), (.int .i64 x0.1.2), (.int .i64 x0.2.1.1), (.int .i64 x0.2.1.2), (.int .i64 x0.2.2)]) rfl rfl rfl hB hS ?_)
 intro b2 w3 hb4 hB5 hS6
 refine wl_assign rfl rfl (WL.nil (fun a ha => hK1 _ _ (W.seq fun K7 hK7 => ?_) a ha))
 obtain ⟨k12, hk12, hF⟩ := jE1 hF
 have hJ13 : ∀ (y11 : Bool) (w8 : World) (_ : k12 y11 = some r) (_ : Below w0.heap.size w0 w8) (_ : Sep w0.heap.size w8 []), ∀ a, St 16 [(2, (.bool y11))] a → K7 a w8 := by
  intro y11 w8 hF hB9 hS10
  subst hk12
  refine fun a ha => hK7 _ _ (W.ret ?_) a ha
  have hr := Option.some.inj hF
  subst hr
  exact rets (vs := [(.bool y11)]) hQ rfl ⟨rv_tmp rfl, trivial⟩ ⟨rfl, hB9⟩
 refine W.region (wl_field (o := 0) (off' := 0) ff_70_0 rfl rfl rfl (wl_load_blk (i := 0) (vs := [(.int .i64 x0.1.1), (.int .i64 x0.1.2)]) (v := (.agg #[(.int .i64 x0.1.1), (.int .i64 x0.1.2)])) tf_68 rfl rfl hS6 rfl rfl rfl ?_))
 obtain ⟨u14, hu14, hF⟩ := bindE hF
 refine wl_call rfl Try.call257 (C_spec_stGood w3 x0.1 _ hu14) rfl ?_
 rintro _ w15 ⟨rfl, hb16⟩
 refine ⟨_, rfl, ?_⟩
 have hB17 := hB5.trans (hb16.mono hB5.size)
 have hS18 := hS6.below hb16
 refine wl_move rfl rfl ?_
 rcases bE u14 with h20 | h20
 ·replace hF := ifP h20 hF
  refine wl_on rfl rfl h20 (wl_field (o := 2) (off' := 2) ff_70_1 rfl rfl rfl (wl_on rfl rfl h20 (wl_load_blk (i := 0) (vs := [(.int .i64 x0.2.1.1), (.int .i64 x0.2.1.2)]) (v := (.agg #[(.int .i64 x0.2.1.1), (.int .i64 x0.2.1.2)])) tf_68 rfl rfl hS18 rfl rfl rfl (wl_on rfl rfl h20 ?_))))
  obtain ⟨u21, hu21, hF⟩ := bindE hF
  refine wl_call rfl Try.call257 (C_spec_stGood w15 x0.2.1 _ hu21) rfl ?_
  rintro _ w22 ⟨rfl, hb23⟩
  refine ⟨_, rfl, ?_⟩
  have hB24 := hB17.trans (hb23.mono hB17.size)
  have hS25 := hS18.below hb23
  refine wl_pick_t rfl rfl h20 rfl (wl_move rfl rfl ?_)
  rcases bE u21 with h27 | h27
  ·replace hF := ifP h27 hF
   refine wl_on rfl rfl h27 (wl_field (o := 4) (off' := 4) ff_70_2 rfl rfl rfl (wl_on rfl rfl h27 (wl_load_blk (i := 0) (vs := [(.int .i64 x0.2.2)]) (v := (.int .i64 x0.2.2)) tf_3 rfl rfl hS25 rfl rfl rfl (wl_on rfl rfl h27 ?_))))
   obtain ⟨u28, hu28, hF⟩ := bindE hF
   refine wl_call rfl Try.call138 (C_spec_l1In w22 x0.2.2 1 64 _ hu28) rfl ?_
   rintro _ w29 ⟨rfl, hb30⟩
   refine ⟨_, rfl, ?_⟩
   have hB31 := hB24.trans (hb30.mono hB24.size)
   have hS32 := hS25.below hb30
   refine wl_pick_t rfl rfl h27 rfl (wl_assign rfl rfl (WL.nil ?_))
   exact fun a ha => hJ13 (u28) _ hF hB31 (hS32.sel [] rfl) a (ha.sub ⟨rfl, trivial⟩)
  ·replace hF := ifN h27 hF
   refine wl_off rfl rfl rfl h27 (wl_off rfl rfl rfl h27 (wl_off rfl rfl rfl h27 (wl_pick_f rfl rfl h27 rfl (wl_assign rfl rfl (WL.nil ?_)))))
   exact fun a ha => hJ13 (false) _ hF hB24 (hS25.sel [] rfl) a (ha.sub ⟨rfl, trivial⟩)
 ·replace hF := ifN h20 hF
  refine wl_off rfl rfl rfl h20 (wl_off rfl rfl rfl h20 (wl_off rfl rfl rfl h20 (wl_pick_f rfl rfl h20 rfl (wl_move rfl rfl (wl_off rfl rfl rfl rfl (wl_off rfl rfl rfl rfl (wl_off rfl rfl rfl rfl (wl_pick_f rfl rfl rfl rfl (wl_assign rfl rfl (WL.nil ?_))))))))))
  exact fun a ha => hJ13 (false) _ hF hB17 (hS18.sel [] rfl) a (ha.sub ⟨rfl, trivial⟩)
theorem C_spec_apGood (w0 : World) (x0 : ((Int × Int) × (Int × Int) × Int)) (x1 : ((Int × Int) × (Int × Int) × Int)) (r : Bool) (hF : F_spec_apGood x0 x1 = some r) :
  Calls Try.prog 260 [(.agg #[(.int .i64 x0.1.1), (.int .i64 x0.1.2), (.int .i64 x0.2.1.1), (.int .i64 x0.2.1.2), (.int .i64 x0.2.2)]), (.agg #[(.int .i64 x1.1.1), (.int .i64 x1.1.2), (.int .i64 x1.2.1.1), (.int .i64 x1.2.1.2), (.int .i64 x1.2.2)])].toArray w0 fun e w' => e = .returned (.bool r) ∧ Below w0.heap.size w0 w' := by
 refine calls_mk' Try.func260 rfl Try.ntmps260 rfl rfl fun Q hQ hP => ?_
 have hB : Below w0.heap.size w0 w0 := Below.refl _ _
 have hS : Sep w0.heap.size w0 [] := Sep.nil _ _
 unfold F_spec_apGood at hF
 refine W.seq fun K1 hK1 => W.region (wl_box (cs := [(.int .i64 x0.1.1), (.int .i64 x0.1.2), (.int .i64 x0.2.1.1), (.int .i64 x0.2.1.2), (.int .i64 x0.2.2)]) rfl rfl rfl hB hS ?_)
 intro b2 w3 hb4 hB5 hS6
 refine wl_box (cs := [(.int .i64 x1.1.1), (.int .i64 x1.1.2), (.int .i64 x1.2.1.1), (.int .i64 x1.2.1.2), (.int .i64 x1.2.2)]) rfl rfl rfl hB5 hS6 ?_
 intro b7 w8 hb9 hB10 hS11
 refine wl_assign rfl rfl (WL.nil (fun a ha => hK1 _ _ (W.seq fun K12 hK12 => ?_) a ha))
 obtain ⟨k17, hk17, hF⟩ := jE1 hF
 have hJ18 : ∀ (y16 : Bool) (w13 : World) (_ : k17 y16 = some r) (_ : Below w0.heap.size w0 w13) (_ : Sep w0.heap.size w13 []), ∀ a, St 18 [(4, (.bool y16))] a → K12 a w13 := by
  intro y16 w13 hF hB14 hS15
  subst hk17
  refine fun a ha => hK12 _ _ (W.ret ?_) a ha
  have hr := Option.some.inj hF
  subst hr
  exact rets (vs := [(.bool y16)]) hQ rfl ⟨rv_tmp rfl, trivial⟩ ⟨rfl, hB14⟩
 refine W.region (wl_load_blk (i := 1) (vs := [(.int .i64 x0.1.1), (.int .i64 x0.1.2), (.int .i64 x0.2.1.1), (.int .i64 x0.2.1.2), (.int .i64 x0.2.2)]) (v := (.agg #[(.int .i64 x0.1.1), (.int .i64 x0.1.2), (.int .i64 x0.2.1.1), (.int .i64 x0.2.1.2), (.int .i64 x0.2.2)])) tf_70 rfl rfl hS11 rfl rfl rfl ?_)
 obtain ⟨u19, hu19, hF⟩ := bindE hF
 refine wl_call rfl Try.call275 (C_spec_mvGood w8 x0 _ hu19) rfl ?_
 rintro _ w20 ⟨rfl, hb21⟩
 refine ⟨_, rfl, ?_⟩
 have hB22 := hB10.trans (hb21.mono hB10.size)
 have hS23 := hS11.below hb21
 refine wl_move rfl rfl ?_
 rcases bE u19 with h25 | h25
 ·replace hF := ifP h25 hF
  refine wl_on rfl rfl h25 (wl_load_blk (i := 0) (vs := [(.int .i64 x1.1.1), (.int .i64 x1.1.2), (.int .i64 x1.2.1.1), (.int .i64 x1.2.1.2), (.int .i64 x1.2.2)]) (v := (.agg #[(.int .i64 x1.1.1), (.int .i64 x1.1.2), (.int .i64 x1.2.1.1), (.int .i64 x1.2.1.2), (.int .i64 x1.2.2)])) tf_70 rfl rfl hS23 rfl rfl rfl (wl_on rfl rfl h25 ?_))
  obtain ⟨u26, hu26, hF⟩ := bindE hF
  refine wl_call rfl Try.call275 (C_spec_mvGood w20 x1 _ hu26) rfl ?_
  rintro _ w27 ⟨rfl, hb28⟩
  refine ⟨_, rfl, ?_⟩
  have hB29 := hB22.trans (hb28.mono hB22.size)
  have hS30 := hS23.below hb28
  refine wl_pick_t rfl rfl h25 rfl (wl_move rfl rfl ?_)
  rcases bE u26 with h32 | h32
  ·replace hF := ifP h32 hF
   refine wl_on rfl rfl h32 (wl_field (o := 4) (off' := 4) ff_70_2 rfl rfl rfl (wl_on rfl rfl h32 (wl_load_blk (i := 1) (vs := [(.int .i64 x0.2.2)]) (v := (.int .i64 x0.2.2)) tf_3 rfl rfl hS30 rfl rfl rfl (wl_on rfl rfl h32 (wl_field (o := 4) (off' := 4) ff_70_2 rfl rfl rfl (wl_on rfl rfl h32 (wl_load_blk (i := 0) (vs := [(.int .i64 x1.2.2)]) (v := (.int .i64 x1.2.2)) tf_3 rfl rfl hS30 rfl rfl rfl (wl_on rfl rfl h32 (wl_eql rfl rfl rfl (wl_pick_t rfl rfl h32 rfl (wl_assign rfl rfl (WL.nil ?_))))))))))))
   exact fun a ha => hJ18 ((x0.2.2 == x1.2.2)) _ hF hB29 (hS30.sel [] rfl) a (ha.sub ⟨rfl, trivial⟩)
  ·replace hF := ifN h32 hF
   refine wl_off rfl rfl rfl h32 (wl_off rfl rfl rfl h32 (wl_off rfl rfl rfl h32 (wl_off rfl rfl rfl h32 (wl_off rfl rfl rfl h32 (wl_pick_f rfl rfl h32 rfl (wl_assign rfl rfl (WL.nil ?_)))))))
   exact fun a ha => hJ18 (false) _ hF hB29 (hS30.sel [] rfl) a (ha.sub ⟨rfl, trivial⟩)
 ·replace hF := ifN h25 hF
  refine wl_off rfl rfl rfl h25 (wl_off rfl rfl rfl h25 (wl_pick_f rfl rfl h25 rfl (wl_move rfl rfl (wl_off rfl rfl rfl rfl (wl_off rfl rfl rfl rfl (wl_off rfl rfl rfl rfl (wl_off rfl rfl rfl rfl (wl_off rfl rfl rfl rfl (wl_pick_f rfl rfl rfl rfl (wl_assign rfl rfl (WL.nil ?_)))))))))))
  exact fun a ha => hJ18 (false) _ hF hB22 (hS23.sel [] rfl) a (ha.sub ⟨rfl, trivial⟩)
theorem C_spec_apList (w0 : World) (x0 : (List ((Int × Int) × (Int × Int) × Int))) (v0_0 : Value) (h0_0 : rdS ty_70 (· < w0.heap.size) w0 v0_0 x0) (r : Bool) (hF : F_spec_apList x0 = some r) :
  Calls Try.prog 235 [v0_0].toArray w0 fun e w' => e = .returned (.bool r) ∧ Below w0.heap.size w0 w' := by
 refine calls_mk' Try.func235 rfl Try.ntmps235 rfl rfl fun Q hQ hP => ?_
 have hB : Below w0.heap.size w0 w0 := Below.refl _ _
 have hS : Sep w0.heap.size w0 [] := Sep.nil _ _
 unfold F_spec_apList at hF
 refine W.seq fun K1 hK1 => W.region (wl_assign rfl rfl (WL.nil (fun a ha => hK1 _ _ (W.seq fun K2 hK2 => (W.seq fun K3 hK3 => (W.region (wl_move rfl rfl (wl_lenr (e := ty_70) (l := x0) Try.underlying64 rfl rfl h0_0 (wl_move rfl rfl (WL.nil (fun a ha => hK3 _ _ (W.block ?_) a ha)))))))) a ha)))
 refine W.loopk (fun m a w4 => ∃ (y7 : Int), St 21 [(0, v0_0), (5, v0_0), (6, (.int .i64 (List.length x0 : Int))), (7, (.int .i64 y7))] a ∧ Below w0.heap.size w0 w4 ∧ Sep w0.heap.size w4 [] ∧ F_spec_apList_L1 x0 m y7 = some r) FU ?_ ?_
 ·
  exact fun a ha => ⟨0, ha.sub ⟨rfl, rfl, rfl, rfl, trivial⟩, hB, (hS.sel [] rfl), hF⟩
 ·
  rintro m10 a w4 ⟨y7, ha, hB5, hS6, hF⟩ KL9 hKL9
  refine W.at ?_ ha
  cases m10 with
  | zero => exact noneE hF
  | succ m10 =>
   obtain ⟨nx8, hnx8⟩ : ∃ k, k = F_spec_apList_L1 x0 m10 := ⟨_, rfl⟩
   rw [F_spec_apList_L1, ← hnx8] at hF
   refine W.seq fun K11 hK11 => W.region (wl_lss rfl rfl rfl (WL.nil (fun a ha => hK11 _ _ (W.seq fun K12 hK12 => (W.cond rfl (fun h13 => ?_) (fun h13 => ?_))) a ha)))
   ·replace hF := ifP h13 hF
    refine W.skip fun a ha => hK12 _ _ (W.seq fun K14 hK14 => (W.block (W.seq fun K15 hK15 => (W.region ?_)))) a ha
    obtain ⟨u16, hu16, hF⟩ := bindE hF
    refine wl_index (e := ty_70) Try.underlying64 rfl rfl rfl h0_0 hu16 ?_
    rintro p17 _ rfl hp18
    refine wl_load_p (vs := [(.int .i64 u16.1.1), (.int .i64 u16.1.2), (.int .i64 u16.2.1.1), (.int .i64 u16.2.1.2), (.int .i64 u16.2.2)]) (v := (.agg #[(.int .i64 u16.1.1), (.int .i64 u16.1.2), (.int .i64 u16.2.1.1), (.int .i64 u16.2.1.2), (.int .i64 u16.2.2)])) tf_70 rfl rfl (hp18.ro hB5) rfl rfl (wl_alloc (cs := [(.int .i64 0), (.int .i64 0), (.int .i64 0), (.int .i64 0), (.int .i64 0)]) tf_70 rfl rfl hB5 hS6 ?_)
    intro b19 w20 hb21 hB22 hS23
    refine wl_store_blk (i := 0) (vs := [(.int .i64 u16.1.1), (.int .i64 u16.1.2), (.int .i64 u16.2.1.1), (.int .i64 u16.2.1.2), (.int .i64 u16.2.2)]) (cs' := [(.int .i64 u16.1.1), (.int .i64 u16.1.2), (.int .i64 u16.2.1.1), (.int .i64 u16.2.1.2), (.int .i64 u16.2.2)]) tf_70 rfl rfl rfl rfl hB22 hS23 rfl rfl ⟨rfl, rfl, rfl, rfl, rfl, trivial⟩ rfl ?_
    intro w24 hk27 hB25 hS26
    refine WL.nil fun a ha => hK15 _ _ (W.seq fun K28 hK28 => (W.regionH mixed_ [] hB25 hS26 ?_)) a ha
    intro w29 hb30 hB31 hS32
    have hSW33 := KeepX.refl w29 []
    refine WH.tk 0 rfl hP hSW33 (pr_move rfl rfl ?_)
    obtain ⟨u34, hu34, hF⟩ := bindE hF
    refine WH.tk 1 rfl hP hSW33 (pr_index (e := ty_70) Try.underlying64 rfl rfl rfl h0_0 hu34 ?_)
    rintro p35 _ rfl hp36
    refine WH.tk 2 rfl hP hSW33 (pr_load_p (vs := [(.int .i64 u34.1.1), (.int .i64 u34.1.2), (.int .i64 u34.2.1.1), (.int .i64 u34.2.1.2), (.int .i64 u34.2.2)]) (v := (.agg #[(.int .i64 u34.1.1), (.int .i64 u34.1.2), (.int .i64 u34.2.1.1), (.int .i64 u34.2.1.2), (.int .i64 u34.2.2)])) tf_70 rfl rfl (hp36.kx hB31 (by simp)) rfl rfl (WH.tk 3 rfl hP hSW33 (pr_load_blk (i := 0) (vs := [(.int .i64 u16.1.1), (.int .i64 u16.1.2), (.int .i64 u16.2.1.1), (.int .i64 u16.2.1.2), (.int .i64 u16.2.2)]) (v := (.agg #[(.int .i64 u16.1.1), (.int .i64 u16.1.2), (.int .i64 u16.2.1.1), (.int .i64 u16.2.1.2), (.int .i64 u16.2.2)])) tf_70 rfl rfl hS32 rfl rfl rfl (by simp) (WH.on1 4 rfl ?_))))
    obtain ⟨u37, hu37, hF⟩ := bindE hF
    refine wl_call rfl Try.call260 (C_spec_apGood w29 u34 u16 _ hu37) rfl ?_
    rintro _ w38 ⟨rfl, hb39⟩
    refine ⟨_, rfl, ?_⟩
    have hB40 := hB31.trans (hb39.mono hB31.size)
    have hS41 := hS32.below hb39
    have hSW43 := hSW33.ext hb39
    refine WL.nil (WH.ret hSW43 (WH.tk 5 rfl hP hSW43 (pr_not rfl rfl (WH.done (by kernel_rfl) (fun a ha => hK28 _ _ (W.cond rfl (fun h44 => ?_) (fun h44 => ?_)) a ha)))))
    ·replace hF := ifP h44 hF
     refine W.seq fun K45 hK45 => W.region (wl_assign rfl rfl (WL.nil (fun a ha => hK45 _ _ (W.ret ?_) a ha)))
     have hr := Option.some.inj hF
     subst hr
     exact rets (vs := [(.bool false)]) hQ rfl ⟨rv_tmp rfl, trivial⟩ ⟨rfl, hB40⟩
    ·replace hF := ifN h44 hF
     refine W.skip fun a ha => hK14 _ _ (W.region (wl_add rfl rfl rfl (wl_move rfl rfl (WL.nil ?_)))) a ha
     rw [hnx8] at hF
     exact fun a ha => hKL9 a _ m10 (Nat.lt_succ_self m10) ⟨(w64 (y7 + 1)), ha.sub ⟨rfl, rfl, rfl, rfl, trivial⟩, hB40, (hS41.sel [] rfl), hF⟩
   ·replace hF := ifN h13 hF
    refine W.exit fun a ha => hK2 _ _ (W.seq fun K46 hK46 => (W.region (wl_move rfl rfl (wl_lenr (e := ty_70) (l := x0) Try.underlying64 rfl rfl h0_0 ?_)))) a ha
    obtain ⟨u47, hu47, hF⟩ := bindE hF
    refine wl_call rfl Try.call138 (C_spec_l1In w4 (List.length x0 : Int) 2 12 _ hu47) rfl ?_
    rintro _ w48 ⟨rfl, hb49⟩
    refine ⟨_, rfl, ?_⟩
    have hB50 := hB5.trans (hb49.mono hB5.size)
    refine wl_assign rfl rfl (WL.nil (fun a ha => hK46 _ _ (W.ret ?_) a ha))
    have hr := Option.some.inj hF
    subst hr
    exact rets (vs := [(.bool u47)]) hQ rfl ⟨rv_tmp rfl, trivial⟩ ⟨rfl, hB50⟩
theorem C_spec_apLess (w0 : World) (x0 : Int) (x1 : Int) (x2 : Int) (x3 : Int) (r : Bool) (hF : F_spec_apLess x0 x1 x2 x3 = some r) :
  Calls Try.prog 161 [(.int .i64 x0), (.int .i64 x1), (.int .i64 x2), (.int .i64 x3)].toArray w0 fun e w' => e = .returned (.bool r) ∧ Below w0.heap.size w0 w' := by
 refine calls_mk' Try.func161 rfl Try.ntmps161 rfl rfl fun Q hQ hP => ?_
 have hB : Below w0.heap.size w0 w0 := Below.refl _ _
 have hS : Sep w0.heap.size w0 [] := Sep.nil _ _
 unfold F_spec_apLess at hF
 refine W.seq fun K1 hK1 => W.region (wl_assign rfl rfl (WL.nil (fun a ha => hK1 _ _ (W.seq fun K2 hK2 => (W.seq fun K3 hK3 => (W.regionH mixed_ [] hB hS ?_))) a ha)))
 intro w4 hb5 hB6 hS7
 have hSW8 := KeepX.refl w4 []
 refine WH.tk 0 rfl hP hSW8 (pr_move rfl rfl (WH.tk 1 rfl hP hSW8 (pr_move rfl rfl ?_)))
 have h9 : x1 ≠ 0 := fun h9 => noneE (ifP h9 hF)
 replace hF := ifNP h9 hF
 refine WH.tk 2 rfl hP hSW8 (pr_quo rfl rfl rfl h9 (WH.tk 3 rfl hP hSW8 (pr_move rfl rfl (WH.tk 4 rfl hP hSW8 (pr_move rfl rfl ?_)))))
 have h10 : x3 ≠ 0 := fun h10 => noneE (ifP h10 hF)
 replace hF := ifNP h10 hF
 refine WH.tk 5 rfl hP hSW8 (pr_quo rfl rfl rfl h10 (WH.tk 6 rfl hP hSW8 (pr_neq rfl rfl rfl (WH.done (by kernel_rfl) (fun a ha => hK3 _ _ (W.cond rfl (fun h11 => ?_) (fun h11 => ?_)) a ha)))))
 ·replace hF := ifP h11 hF
  refine W.seq fun K12 hK12 => W.regionH mixed_ [] hB6 hS7 ?_
  intro w13 hb14 hB15 hS16
  have hSW17 := KeepX.refl w13 []
  refine WH.tk 0 rfl hP hSW17 (pr_move rfl rfl (WH.tk 1 rfl hP hSW17 (pr_move rfl rfl ?_)))
  have h18 : x1 ≠ 0 := fun h18 => noneE (ifP h18 hF)
  replace hF := ifNP h18 hF
  refine WH.tk 2 rfl hP hSW17 (pr_quo rfl rfl rfl h18 (WH.tk 3 rfl hP hSW17 (pr_move rfl rfl (WH.tk 4 rfl hP hSW17 (pr_move rfl rfl ?_)))))
  have h19 : x3 ≠ 0 := fun h19 => noneE (ifP h19 hF)
  replace hF := ifNP h19 hF
  refine WH.tk 5 rfl hP hSW17 (pr_quo rfl rfl rfl h19 (WH.tk 6 rfl hP hSW17 (pr_lss rfl rfl rfl (WH.tk 7 rfl hP hSW17 (pr_assign rfl rfl (WH.done (by kernel_rfl) (fun a ha => hK12 _ _ (W.ret ?_) a ha)))))))
  have hr := Option.some.inj hF
  subst hr
  exact rets (vs := [(.bool (decide ((w64 (Int.tdiv x0 x1)) < (w64 (Int.tdiv x2 x3)))))]) hQ rfl ⟨rv_tmp rfl, trivial⟩ ⟨rfl, hB15⟩
 ·replace hF := ifN h11 hF
  refine W.skip fun a ha => hK2 _ _ (W.seq fun K20 hK20 => (W.regionH mixed_ [] hB6 hS7 ?_)) a ha
  intro w21 hb22 hB23 hS24
  have hSW25 := KeepX.refl w21 []
  refine WH.tk 0 rfl hP hSW25 (pr_move rfl rfl (WH.tk 1 rfl hP hSW25 (pr_move rfl rfl ?_)))
  have h26 : x1 ≠ 0 := fun h26 => noneE (ifP h26 hF)
  replace hF := ifNP h26 hF
  refine WH.tk 2 rfl hP hSW25 (pr_rem rfl rfl rfl h26 (WH.tk 3 rfl hP hSW25 (pr_move rfl rfl (WH.tk 4 rfl hP hSW25 (pr_mul rfl rfl rfl (WH.tk 5 rfl hP hSW25 (pr_move rfl rfl (WH.tk 6 rfl hP hSW25 (pr_move rfl rfl ?_)))))))))
  have h27 : x3 ≠ 0 := fun h27 => noneE (ifP h27 hF)
  replace hF := ifNP h27 hF
  refine WH.tk 7 rfl hP hSW25 (pr_rem rfl rfl rfl h27 (WH.tk 8 rfl hP hSW25 (pr_move rfl rfl (WH.tk 9 rfl hP hSW25 (pr_mul rfl rfl rfl (WH.tk 10 rfl hP hSW25 (pr_lss rfl rfl rfl (WH.tk 11 rfl hP hSW25 (pr_assign rfl rfl (WH.done (by kernel_rfl) (fun a ha => hK20 _ _ (W.ret ?_) a ha)))))))))))
  have hr := Option.some.inj hF
  subst hr
  exact rets (vs := [(.bool (decide ((w64 ((Int.tmod x0 x1) * x3)) < (w64 ((Int.tmod x2 x3) * x1)))))]) hQ rfl ⟨rv_tmp rfl, trivial⟩ ⟨rfl, hB23⟩
theorem C_spec_apClosest (w0 : World) (x0 : (List ((Int × Int) × (Int × Int) × Int))) (v0_0 : Value) (h0_0 : rdS ty_70 (· < w0.heap.size) w0 v0_0 x0) (r : (Int × Int)) (hF : F_spec_apClosest x0 = some r) :
  Calls Try.prog 236 [v0_0].toArray w0 fun e w' => e = .returned (.tuple #[(.int .i64 r.1), (.int .i64 r.2)]) ∧ Below w0.heap.size w0 w' := by
 refine calls_mk' Try.func236 rfl Try.ntmps236 rfl rfl fun Q hQ hP => ?_
 have hB : Below w0.heap.size w0 w0 := Below.refl _ _
 have hS : Sep w0.heap.size w0 [] := Sep.nil _ _
 unfold F_spec_apClosest at hF
 refine W.seq fun K1 hK1 => W.region (wl_assign rfl rfl (wl_assign rfl rfl (WL.nil (fun a ha => hK1 _ _ (W.seq fun K2 hK2 => (W.region (wl_assign rfl rfl (wl_assign rfl rfl (WL.nil (fun a ha => hK2 _ _ (W.seq fun K3 hK3 => (W.regionH mixed_ [] hB hS ?_)) a ha)))))) a ha))))
 intro w4 hb5 hB6 hS7
 have hSW8 := KeepX.refl w4 []
 refine WH.tk 0 rfl hP hSW8 (pr_move rfl rfl ?_)
 obtain ⟨u9, hu9, hF⟩ := bindE hF
 refine WH.tk 1 rfl hP hSW8 (pr_index (e := ty_70) Try.underlying64 rfl rfl rfl h0_0 hu9 ?_)
 rintro p10 _ rfl hp11
 refine WH.tk 2 rfl hP hSW8 (pr_load_p (vs := [(.int .i64 u9.1.1), (.int .i64 u9.1.2), (.int .i64 u9.2.1.1), (.int .i64 u9.2.1.2), (.int .i64 u9.2.2)]) (v := (.agg #[(.int .i64 u9.1.1), (.int .i64 u9.1.2), (.int .i64 u9.2.1.1), (.int .i64 u9.2.1.2), (.int .i64 u9.2.2)])) tf_70 rfl rfl (hp11.kx hB6 (by simp)) rfl rfl (WH.tk 3 rfl hP hSW8 (pr_move rfl rfl ?_)))
 obtain ⟨u12, hu12, hF⟩ := bindE hF
 refine WH.tk 4 rfl hP hSW8 (pr_index (e := ty_70) Try.underlying64 rfl rfl rfl h0_0 hu12 ?_)
 rintro p13 _ rfl hp14
 refine WH.tk 5 rfl hP hSW8 (pr_load_p (vs := [(.int .i64 u12.1.1), (.int .i64 u12.1.2), (.int .i64 u12.2.1.1), (.int .i64 u12.2.1.2), (.int .i64 u12.2.2)]) (v := (.agg #[(.int .i64 u12.1.1), (.int .i64 u12.1.2), (.int .i64 u12.2.1.1), (.int .i64 u12.2.1.2), (.int .i64 u12.2.2)])) tf_70 rfl rfl (hp14.kx hB6 (by simp)) rfl rfl (WH.on1 6 rfl ?_))
 obtain ⟨u15, hu15, hF⟩ := bindE hF
 refine wl_call rfl Try.call237 (C_spec_apLeast w4 u9 u12 _ hu15) rfl ?_
 rintro _ w16 ⟨rfl, hb17⟩
 refine ⟨_, rfl, ?_⟩
 have hB18 := hB6.trans (hb17.mono hB6.size)
 have hS19 := hS7.below hb17
 have hSW21 := hSW8.ext hb17
 refine WL.nil (WH.ret hSW21 (WH.tk 7 rfl hP hSW21 (pr_move rfl rfl (WH.tk 8 rfl hP hSW21 (pr_extract rfl rfl rfl (WH.tk 9 rfl hP hSW21 (pr_extract rfl rfl rfl (WH.tk 10 rfl hP hSW21 (pr_assign rfl rfl (WH.tk 11 rfl hP hSW21 (pr_assign rfl rfl (WH.done (by kernel_rfl) (fun a ha => hK3 _ _ (W.seq fun K22 hK22 => ?_) a ha)))))))))))))
 refine W.seq fun K23 hK23 => W.region (wl_move rfl rfl (wl_lenr (e := ty_70) (l := x0) Try.underlying64 rfl rfl h0_0 (wl_move rfl rfl (WL.nil (fun a ha => hK23 _ _ (W.block (W.loopk (fun m a w24 => ∃ (y27 : Int) (y28 : Int) (y29 : Int) (y30 : Int) (y31 : Int), St 59 [(0, v0_0), (4, (.int .i64 y27)), (5, (.int .i64 y28)), (6, (.int .i64 y29)), (7, (.int .i64 y30)), (23, v0_0), (24, (.int .i64 (List.length x0 : Int))), (25, (.int .i64 y31))] a ∧ Below w0.heap.size w0 w24 ∧ Sep w0.heap.size w24 [] ∧ F_spec_apClosest_L1 x0 m y27 y28 y29 y30 y31 = some r) FU ?_ ?_)) a ha)))))
 ·
  exact fun a ha => ⟨0, 1, u15.1, u15.2, 0, ha.sub ⟨rfl, rfl, rfl, rfl, rfl, rfl, rfl, rfl, trivial⟩, hB18, (hS19.sel [] rfl), hF⟩
 ·
  rintro m34 a w24 ⟨y27, y28, y29, y30, y31, ha, hB25, hS26, hF⟩ KL33 hKL33
  refine W.at ?_ ha
  cases m34 with
  | zero => exact noneE hF
  | succ m34 =>
   obtain ⟨nx32, hnx32⟩ : ∃ k, k = F_spec_apClosest_L1 x0 m34 := ⟨_, rfl⟩
   rw [F_spec_apClosest_L1, ← hnx32] at hF
   refine W.seq fun K35 hK35 => W.region (wl_lss rfl rfl rfl (WL.nil (fun a ha => hK35 _ _ (W.seq fun K36 hK36 => (W.cond rfl (fun h37 => ?_) (fun h37 => ?_))) a ha)))
   ·replace hF := ifP h37 hF
    refine W.skip fun a ha => hK36 _ _ (W.seq fun K38 hK38 => (W.block (W.seq fun K39 hK39 => (W.region (wl_move rfl rfl ?_))))) a ha
    obtain ⟨u40, hu40, hF⟩ := bindE hF
    refine wl_index (e := ty_70) Try.underlying64 rfl rfl rfl h0_0 hu40 ?_
    rintro p41 _ rfl hp42
    refine wl_load_p (vs := [(.int .i64 u40.1.1), (.int .i64 u40.1.2), (.int .i64 u40.2.1.1), (.int .i64 u40.2.1.2), (.int .i64 u40.2.2)]) (v := (.agg #[(.int .i64 u40.1.1), (.int .i64 u40.1.2), (.int .i64 u40.2.1.1), (.int .i64 u40.2.1.2), (.int .i64 u40.2.2)])) tf_70 rfl rfl (hp42.ro hB25) rfl rfl (wl_alloc (cs := [(.int .i64 0), (.int .i64 0), (.int .i64 0), (.int .i64 0), (.int .i64 0)]) tf_70 rfl rfl hB25 hS26 ?_)
    intro b43 w44 hb45 hB46 hS47
    refine wl_assign rfl rfl (wl_store_blk (i := 0) (vs := [(.int .i64 u40.1.1), (.int .i64 u40.1.2), (.int .i64 u40.2.1.1), (.int .i64 u40.2.1.2), (.int .i64 u40.2.2)]) (cs' := [(.int .i64 u40.1.1), (.int .i64 u40.1.2), (.int .i64 u40.2.1.1), (.int .i64 u40.2.1.2), (.int .i64 u40.2.2)]) tf_70 rfl rfl rfl rfl hB46 hS47 rfl rfl ⟨rfl, rfl, rfl, rfl, rfl, trivial⟩ rfl ?_)
    intro w48 hk51 hB49 hS50
    refine WL.nil fun a ha => hK39 _ _ (W.seq fun K52 hK52 => (W.region (wl_move rfl rfl (wl_add rfl rfl rfl (wl_assign rfl rfl (WL.nil (fun a ha => hK52 _ _ (W.block (W.loopk (fun m a w53 => ∃ (y56 : Int) (y57 : Int) (y58 : Int) (y59 : Int) (y60 : Int), St 59 [(0, v0_0), (4, (.int .i64 y56)), (5, (.int .i64 y57)), (6, (.int .i64 y58)), (7, (.int .i64 y59)), (8, (.int .i64 y31)), (9, (.pointer (some ⟨b43, 0, none⟩))), (10, (.int .i64 y60)), (23, v0_0), (24, (.int .i64 (List.length x0 : Int))), (25, (.int .i64 y31))] a ∧ Below w0.heap.size w0 w53 ∧ Sep w0.heap.size w53 [R.blk b43 70 [(.int .i64 u40.1.1), (.int .i64 u40.1.2), (.int .i64 u40.2.1.1), (.int .i64 u40.2.1.2), (.int .i64 u40.2.2)]] ∧ F_spec_apClosest_L2 x0 u40 y31 nx32 m y56 y57 y58 y59 y60 = some r) FU ?_ ?_)) a ha))))))) a ha
    ·
     exact fun a ha => ⟨y27, y28, y29, y30, (w64 (y31 + 1)), ha.sub ⟨rfl, rfl, rfl, rfl, rfl, rfl, rfl, rfl, rfl, rfl, rfl, trivial⟩, hB49, (hS50.sel [0] rfl), hF⟩
    ·
     rintro m63 a w53 ⟨y56, y57, y58, y59, y60, ha, hB54, hS55, hF⟩ KL62 hKL62
     refine W.at ?_ ha
     cases m63 with
     | zero => exact noneE hF
     | succ m63 =>
      obtain ⟨nx61, hnx61⟩ : ∃ k, k = F_spec_apClosest_L2 x0 u40 y31 nx32 m63 := ⟨_, rfl⟩
      rw [F_spec_apClosest_L2, ← hnx61] at hF
      refine W.seq fun K64 hK64 => W.seq fun K65 hK65 => W.region (wl_move rfl rfl (wl_move rfl rfl (wl_lenr (e := ty_70) (l := x0) Try.underlying64 rfl rfl h0_0 (wl_lss rfl rfl rfl (WL.nil (fun a ha => hK65 _ _ (W.cond rfl (fun h66 => ?_) (fun h66 => ?_)) a ha))))))
      ·replace hF := ifP h66 hF
       refine W.skip fun a ha => hK64 _ _ (W.seq fun K67 hK67 => ?_) a ha
       obtain ⟨k75, hk75, hF⟩ := jE4 hF
       have hJ76 : ∀ (y71 : Int) (y72 : Int) (y73 : Int) (y74 : Int) (w68 : World) (_ : k75 y71 y72 y73 y74 = some r) (_ : Below w0.heap.size w0 w68) (_ : Sep w0.heap.size w68 [R.blk b43 70 [(.int .i64 u40.1.1), (.int .i64 u40.1.2), (.int .i64 u40.2.1.1), (.int .i64 u40.2.1.2), (.int .i64 u40.2.2)]]), ∀ a, St 59 [(0, v0_0), (4, (.int .i64 y71)), (5, (.int .i64 y72)), (6, (.int .i64 y73)), (7, (.int .i64 y74)), (8, (.int .i64 y31)), (9, (.pointer (some ⟨b43, 0, none⟩))), (10, (.int .i64 y60)), (23, v0_0), (24, (.int .i64 (List.length x0 : Int))), (25, (.int .i64 y31))] a → K67 a w68 := by
        intro y71 y72 y73 y74 w68 hF hB69 hS70
        subst hk75
        refine fun a ha => hK67 _ _ (W.region (wl_move rfl rfl (wl_add rfl rfl rfl (wl_assign rfl rfl (WL.nil ?_))))) a ha
        rw [hnx61] at hF
        exact fun a ha => hKL62 a _ m63 (Nat.lt_succ_self m63) ⟨y71, y72, y73, y74, (w64 (y60 + 1)), ha.sub ⟨rfl, rfl, rfl, rfl, rfl, rfl, rfl, rfl, rfl, rfl, rfl, trivial⟩, hB69, (hS70.sel [0] rfl), hF⟩
       refine W.block (W.seq fun K77 hK77 => (W.regionH mixed_ [] hB54 hS55 ?_))
       intro w78 hb79 hB80 hS81
       have hSW82 := KeepX.refl w78 []
       refine WH.tk 0 rfl hP hSW82 (pr_load_blk (i := 0) (vs := [(.int .i64 u40.1.1), (.int .i64 u40.1.2), (.int .i64 u40.2.1.1), (.int .i64 u40.2.1.2), (.int .i64 u40.2.2)]) (v := (.agg #[(.int .i64 u40.1.1), (.int .i64 u40.1.2), (.int .i64 u40.2.1.1), (.int .i64 u40.2.1.2), (.int .i64 u40.2.2)])) tf_70 rfl rfl hS81 rfl rfl rfl (by simp) (WH.tk 1 rfl hP hSW82 (pr_move rfl rfl (WH.tk 2 rfl hP hSW82 (pr_move rfl rfl ?_)))))
       obtain ⟨u83, hu83, hF⟩ := bindE hF
       refine WH.tk 3 rfl hP hSW82 (pr_index (e := ty_70) Try.underlying64 rfl rfl rfl h0_0 hu83 ?_)
       rintro p84 _ rfl hp85
       refine WH.tk 4 rfl hP hSW82 (pr_load_p (vs := [(.int .i64 u83.1.1), (.int .i64 u83.1.2), (.int .i64 u83.2.1.1), (.int .i64 u83.2.1.2), (.int .i64 u83.2.2)]) (v := (.agg #[(.int .i64 u83.1.1), (.int .i64 u83.1.2), (.int .i64 u83.2.1.1), (.int .i64 u83.2.1.2), (.int .i64 u83.2.2)])) tf_70 rfl rfl (hp85.kx hB80 (by simp)) rfl rfl (WH.on1 5 rfl ?_))
       obtain ⟨u86, hu86, hF⟩ := bindE hF
       refine wl_call rfl Try.call237 (C_spec_apLeast w78 u40 u83 _ hu86) rfl ?_
       rintro _ w87 ⟨rfl, hb88⟩
       refine ⟨_, rfl, ?_⟩
       have hB89 := hB80.trans (hb88.mono hB80.size)
       have hS90 := hS81.below hb88
       have hSW92 := hSW82.ext hb88
       refine WL.nil (WH.ret hSW92 (WH.tk 6 rfl hP hSW92 (pr_move rfl rfl (WH.tk 7 rfl hP hSW92 (pr_extract rfl rfl rfl (WH.tk 8 rfl hP hSW92 (pr_extract rfl rfl rfl (WH.tk 9 rfl hP hSW92 (pr_assign rfl rfl (WH.tk 10 rfl hP hSW92 (pr_assign rfl rfl (WH.done (by kernel_rfl) (fun a ha => hK77 _ _ (W.seq fun K93 hK93 => ?_) a ha)))))))))))))
       refine W.region (wl_move rfl rfl (wl_move rfl rfl (wl_move rfl rfl (wl_move rfl rfl ?_))))
       obtain ⟨u94, hu94, hF⟩ := bindE hF
       refine wl_call rfl Try.call161 (C_spec_apLess w87 u86.1 u86.2 y58 y59 _ hu94) rfl ?_
       rintro _ w95 ⟨rfl, hb96⟩
       refine ⟨_, rfl, ?_⟩
       have hB97 := hB89.trans (hb96.mono hB89.size)
       have hS98 := hS90.below hb96
       refine WL.nil fun a ha => hK93 _ _ (W.cond rfl (fun h100 => ?_) (fun h100 => ?_)) a ha
       ·replace hF := ifP h100 hF
        refine W.seq fun K101 hK101 => W.region (wl_move rfl rfl (wl_assign rfl rfl (WL.nil (fun a ha => hK101 _ _ (W.seq fun K102 hK102 => (W.region (wl_move rfl rfl (wl_assign rfl rfl (WL.nil (fun a ha => hK102 _ _ (W.seq fun K103 hK103 => (W.region ?_)) a ha)))))) a ha))))
        refine wl_move rfl rfl (wl_assign rfl rfl (WL.nil (fun a ha => hK103 _ _ (W.region (wl_move rfl rfl (wl_assign rfl rfl (WL.nil ?_)))) a ha)))
        exact fun a ha => hJ76 (y31) (y60) (u86.1) (u86.2) _ hF hB97 (hS98.sel [0] rfl) a (ha.sub ⟨rfl, rfl, rfl, rfl, rfl, rfl, rfl, rfl, rfl, rfl, rfl, trivial⟩)
       ·replace hF := ifN h100 hF
        refine W.skip ?_
        exact fun a ha => hJ76 (y56) (y57) (y58) (y59) _ hF hB97 (hS98.sel [0] rfl) a (ha.sub ⟨rfl, rfl, rfl, rfl, rfl, rfl, rfl, rfl, rfl, rfl, rfl, trivial⟩)
      ·replace hF := ifN h66 hF
       refine W.exit fun a ha => hK38 _ _ (W.region (wl_add rfl rfl rfl (wl_move rfl rfl (WL.nil ?_)))) a ha
       rw [hnx32] at hF
       exact fun a ha => hKL33 a _ m34 (Nat.lt_succ_self m34) ⟨y56, y57, y58, y59, (w64 (y31 + 1)), ha.sub ⟨rfl, rfl, rfl, rfl, rfl, rfl, rfl, rfl, trivial⟩, hB54, (hS55.sel [] rfl), hF⟩
   ·replace hF := ifN h37 hF
    refine W.exit fun a ha => hK22 _ _ (W.seq fun K104 hK104 => (W.region (wl_move rfl rfl (wl_move rfl rfl (wl_assign rfl rfl (wl_assign rfl rfl (WL.nil (fun a ha => hK104 _ _ (W.ret ?_) a ha)))))))) a ha
    have hr := Option.some.inj hF
    subst hr
    exact rets (vs := [(.int .i64 y27), (.int .i64 y28)]) hQ rfl ⟨rv_tmp rfl, rv_tmp rfl, trivial⟩ ⟨rfl, hB25⟩
theorem C_spec_LeastOfAll (w0 : World) (x0 : (List ((Int × Int) × (Int × Int) × Int))) (v0_0 : Value) (h0_0 : rdS ty_70 (· < w0.heap.size) w0 v0_0 x0) (r : (Int × Int × Bool)) (hF : F_spec_LeastOfAll x0 = some r) :
  Calls Try.prog 159 [v0_0].toArray w0 fun e w' => e = .returned (.tuple #[(.int .i64 r.1), (.int .i64 r.2.1), (.bool r.2.2)]) ∧ Below w0.heap.size w0 w' := by
 refine calls_mk' Try.func159 rfl Try.ntmps159 rfl rfl fun Q hQ hP => ?_
 have hB : Below w0.heap.size w0 w0 := Below.refl _ _
 have hS : Sep w0.heap.size w0 [] := Sep.nil _ _
 unfold F_spec_LeastOfAll at hF
 refine W.seq fun K1 hK1 => W.region (wl_assign rfl rfl (wl_assign rfl rfl (wl_assign rfl rfl (WL.nil (fun a ha => hK1 _ _ (W.seq fun K2 hK2 => (W.seq fun K3 hK3 => (W.region (wl_move rfl rfl ?_)))) a ha)))))
 obtain ⟨u4, hu4, hF⟩ := bindE hF
 refine wl_call rfl Try.call235 (C_spec_apList w0 x0 v0_0 (h0_0.ro hB) _ hu4) rfl ?_
 rintro _ w5 ⟨rfl, hb6⟩
 refine ⟨_, rfl, ?_⟩
 have hB7 := hB.trans (hb6.mono hB.size)
 have hS8 := hS.below hb6
 refine wl_not rfl rfl (WL.nil (fun a ha => hK3 _ _ (W.cond rfl (fun h10 => ?_) (fun h10 => ?_)) a ha))
 ·replace hF := ifP h10 hF
  refine W.seq fun K11 hK11 => W.region (wl_assign rfl rfl (wl_assign rfl rfl (wl_assign rfl rfl (WL.nil (fun a ha => hK11 _ _ (W.ret ?_) a ha)))))
  have hr := Option.some.inj hF
  subst hr
  exact rets (vs := [(.int .i64 0), (.int .i64 0), (.bool false)]) hQ rfl ⟨rv_tmp rfl, rv_tmp rfl, rv_tmp rfl, trivial⟩ ⟨rfl, hB7⟩
 ·replace hF := ifN h10 hF
  refine W.skip fun a ha => hK2 _ _ (W.seq fun K12 hK12 => (W.region (wl_move rfl rfl ?_))) a ha
  obtain ⟨u13, hu13, hF⟩ := bindE hF
  refine wl_call rfl Try.call236 (C_spec_apClosest w5 x0 v0_0 (h0_0.ro hB7) _ hu13) rfl ?_
  rintro _ w14 ⟨rfl, hb15⟩
  refine ⟨_, rfl, ?_⟩
  have hB16 := hB7.trans (hb15.mono hB7.size)
  have hS17 := hS8.below hb15
  refine wl_move rfl rfl (wl_extract rfl rfl rfl (wl_extract rfl rfl rfl (wl_assign rfl rfl (wl_assign rfl rfl (WL.nil (fun a ha => hK12 _ _ (W.seq fun K19 hK19 => (W.regionH mixed_ [] hB16 hS17 ?_)) a ha))))))
  intro w20 hb21 hB22 hS23
  have hSW24 := KeepX.refl w20 []
  refine WH.tk 0 rfl hP hSW24 (pr_move rfl rfl (WH.tk 1 rfl hP hSW24 (pr_move rfl rfl ?_)))
  obtain ⟨u25, hu25, hF⟩ := bindE hF
  refine WH.tk 2 rfl hP hSW24 (pr_index (e := ty_70) Try.underlying64 rfl rfl rfl h0_0 hu25 ?_)
  rintro p26 _ rfl hp27
  refine WH.tk 3 rfl hP hSW24 (pr_load_p (vs := [(.int .i64 u25.1.1), (.int .i64 u25.1.2), (.int .i64 u25.2.1.1), (.int .i64 u25.2.1.2), (.int .i64 u25.2.2)]) (v := (.agg #[(.int .i64 u25.1.1), (.int .i64 u25.1.2), (.int .i64 u25.2.1.1), (.int .i64 u25.2.1.2), (.int .i64 u25.2.2)])) tf_70 rfl rfl (hp27.kx hB22 (by simp)) rfl rfl (WH.tk 4 rfl hP hSW24 (pr_move rfl rfl (WH.tk 5 rfl hP hSW24 (pr_move rfl rfl ?_)))))
  obtain ⟨u28, hu28, hF⟩ := bindE hF
  refine WH.tk 6 rfl hP hSW24 (pr_index (e := ty_70) Try.underlying64 rfl rfl rfl h0_0 hu28 ?_)
  rintro p29 _ rfl hp30
  refine WH.tk 7 rfl hP hSW24 (pr_load_p (vs := [(.int .i64 u28.1.1), (.int .i64 u28.1.2), (.int .i64 u28.2.1.1), (.int .i64 u28.2.1.2), (.int .i64 u28.2.2)]) (v := (.agg #[(.int .i64 u28.1.1), (.int .i64 u28.1.2), (.int .i64 u28.2.1.1), (.int .i64 u28.2.1.2), (.int .i64 u28.2.2)])) tf_70 rfl rfl (hp30.kx hB22 (by simp)) rfl rfl (WH.on1 8 rfl ?_))
  obtain ⟨u31, hu31, hF⟩ := bindE hF
  refine wl_call rfl Try.call237 (C_spec_apLeast w20 u25 u28 _ hu31) rfl ?_
  rintro _ w32 ⟨rfl, hb33⟩
  refine ⟨_, rfl, ?_⟩
  have hB34 := hB22.trans (hb33.mono hB22.size)
  have hSW37 := hSW24.ext hb33
  refine WL.nil (WH.ret hSW37 (WH.tk 9 rfl hP hSW37 (pr_move rfl rfl (WH.tk 10 rfl hP hSW37 (pr_extract rfl rfl rfl (WH.tk 11 rfl hP hSW37 (pr_extract rfl rfl rfl (WH.tk 12 rfl hP hSW37 (pr_assign rfl rfl (WH.tk 13 rfl hP hSW37 (pr_assign rfl rfl (WH.done (by kernel_rfl) (fun a ha => hK19 _ _ (W.seq fun K38 hK38 => ?_) a ha)))))))))))))
  refine W.region (wl_move rfl rfl (wl_move rfl rfl (wl_assign rfl rfl (wl_assign rfl rfl (wl_assign rfl rfl (WL.nil (fun a ha => hK38 _ _ (W.ret ?_) a ha)))))))
  have hr := Option.some.inj hF
  subst hr
  exact rets (vs := [(.int .i64 u31.1), (.int .i64 u31.2), (.bool true)]) hQ rfl ⟨rv_tmp rfl, rv_tmp rfl, rv_tmp rfl, trivial⟩ ⟨rfl, hB34⟩
theorem C_spec_LeastOfShow (w0 : World) (x0 : ((List (List (Int × Int))) × (List Int) × Int × Int)) (v0_0 : Value) (h0_0 : rdS ty_63 (· < w0.heap.size) w0 v0_0 x0.1) (v0_1 : Value) (h0_1 : rdS ty_3 (· < w0.heap.size) w0 v0_1 x0.2.1) (r : (Int × Int × Bool)) (hF : F_spec_LeastOfShow x0 = some r) :
  Calls Try.prog 45 [(.agg #[v0_0, v0_1, (.int .i64 x0.2.2.1), (.int .i64 x0.2.2.2)])].toArray w0 fun e w' => e = .returned (.tuple #[(.int .i64 r.1), (.int .i64 r.2.1), (.bool r.2.2)]) ∧ Below w0.heap.size w0 w' := by
 refine calls_mk' Try.func45 rfl Try.ntmps45 rfl rfl fun Q hQ hP => ?_
 have hB : Below w0.heap.size w0 w0 := Below.refl _ _
 have hS : Sep w0.heap.size w0 [] := Sep.nil _ _
 unfold F_spec_LeastOfShow at hF
 refine W.seq fun K1 hK1 => W.region (wl_box (cs := [v0_0, v0_1, (.int .i64 x0.2.2.1), (.int .i64 x0.2.2.2)]) rfl rfl rfl hB hS ?_)
 intro b2 w3 hb4 hB5 hS6
 refine wl_assign rfl rfl (wl_assign rfl rfl (wl_assign rfl rfl (WL.nil (fun a ha => hK1 _ _ (W.seq fun K7 hK7 => (W.seq fun K8 hK8 => ?_)) a ha))))
 obtain ⟨k13, hk13, hF⟩ := jE1 hF
 have hJ14 : ∀ (y12 : Bool) (w9 : World) (_ : k13 y12 = some r) (_ : Below w0.heap.size w0 w9) (_ : Sep w0.heap.size w9 [R.blk b2 53 [v0_0, v0_1, (.int .i64 x0.2.2.1), (.int .i64 x0.2.2.2)]]), ∀ a, St 50 [(1, (.pointer (some ⟨b2, 0, none⟩))), (21, (.bool y12))] a → K8 a w9 := by
  intro y12 w9 hF hB10 hS11
  subst hk13
  refine fun a ha => hK8 _ _ (W.cond rfl (fun h15 => ?_) (fun h15 => ?_)) a ha
  ·replace hF := ifP h15 hF
   refine W.seq fun K16 hK16 => W.region (wl_assign rfl rfl (wl_assign rfl rfl (wl_assign rfl rfl (WL.nil (fun a ha => hK16 _ _ (W.ret ?_) a ha)))))
   have hr := Option.some.inj hF
   subst hr
   exact rets (vs := [(.int .i64 0), (.int .i64 0), (.bool false)]) hQ rfl ⟨rv_tmp rfl, rv_tmp rfl, rv_tmp rfl, trivial⟩ ⟨rfl, hB10⟩
  ·replace hF := ifN h15 hF
   refine W.skip fun a ha => hK7 _ _ (W.seq fun K17 hK17 => (W.region (wl_assign rfl rfl (wl_assign rfl rfl (WL.nil (fun a ha => hK17 _ _ (W.seq fun K18 hK18 => (W.seq fun K19 hK19 => (W.region (wl_field (o := 1) (off' := 1) ff_53_1 rfl rfl rfl (wl_load_blk (i := 0) (vs := [v0_1]) (v := v0_1) tf_29 rfl rfl hS11 rfl rfl rfl (wl_lenr (e := ty_3) (l := x0.2.1) Try.underlying29 rfl rfl h0_1 ?_)))))) a ha)))))) a ha
   refine wl_move rfl rfl (WL.nil (fun a ha => hK19 _ _ (W.block (W.loopk (fun m a w20 => ∃ (y23 : Int) (y24 : Int) (y25 : Int), St 50 [(1, (.pointer (some ⟨b2, 0, none⟩))), (5, (.int .i64 y23)), (6, (.int .i64 y24)), (24, (.int .i64 (List.length x0.2.1 : Int))), (25, (.int .i64 y25))] a ∧ Below w0.heap.size w0 w20 ∧ Sep w0.heap.size w20 [R.blk b2 53 [v0_0, v0_1, (.int .i64 x0.2.2.1), (.int .i64 x0.2.2.2)]] ∧ F_spec_LeastOfShow_L1 x0 m y23 y24 y25 = some r) FU ?_ ?_)) a ha))
   ·
    exact fun a ha => ⟨(-1), 1, 0, ha.sub ⟨rfl, rfl, rfl, rfl, rfl, trivial⟩, hB10, (hS11.sel [0] rfl), hF⟩
   ·
    rintro m28 a w20 ⟨y23, y24, y25, ha, hB21, hS22, hF⟩ KL27 hKL27
    refine W.at ?_ ha
    cases m28 with
    | zero => exact noneE hF
    | succ m28 =>
     obtain ⟨nx26, hnx26⟩ : ∃ k, k = F_spec_LeastOfShow_L1 x0 m28 := ⟨_, rfl⟩
     rw [F_spec_LeastOfShow_L1, ← hnx26] at hF
     refine W.seq fun K29 hK29 => W.region (wl_lss rfl rfl rfl (WL.nil (fun a ha => hK29 _ _ (W.seq fun K30 hK30 => (W.cond rfl (fun h31 => ?_) (fun h31 => ?_))) a ha)))
     ·replace hF := ifP h31 hF
      refine W.skip fun a ha => hK30 _ _ (W.seq fun K32 hK32 => ?_) a ha
      obtain ⟨k38, hk38, hF⟩ := jE2 hF
      have hJ39 : ∀ (y36 : Int) (y37 : Int) (w33 : World) (_ : k38 y36 y37 = some r) (_ : Below w0.heap.size w0 w33) (_ : Sep w0.heap.size w33 [R.blk b2 53 [v0_0, v0_1, (.int .i64 x0.2.2.1), (.int .i64 x0.2.2.2)]]), ∀ a, St 50 [(1, (.pointer (some ⟨b2, 0, none⟩))), (5, (.int .i64 y36)), (6, (.int .i64 y37)), (24, (.int .i64 (List.length x0.2.1 : Int))), (25, (.int .i64 y25))] a → K32 a w33 := by
       intro y36 y37 w33 hF hB34 hS35
       subst hk38
       refine fun a ha => hK32 _ _ (W.region (wl_add rfl rfl rfl (wl_move rfl rfl (WL.nil ?_)))) a ha
       rw [hnx26] at hF
       exact fun a ha => hKL27 a _ m28 (Nat.lt_succ_self m28) ⟨y36, y37, (w64 (y25 + 1)), ha.sub ⟨rfl, rfl, rfl, rfl, rfl, trivial⟩, hB34, (hS35.sel [0] rfl), hF⟩
      refine W.block (W.seq fun K40 hK40 => (W.region (wl_move rfl rfl (wl_assign rfl rfl (WL.nil (fun a ha => hK40 _ _ (W.seq fun K41 hK41 => (W.region (wl_load_blk (i := 0) (vs := [v0_0, v0_1, (.int .i64 x0.2.2.1), (.int .i64 x0.2.2.2)]) (v := (.agg #[v0_0, v0_1, (.int .i64 x0.2.2.1), (.int .i64 x0.2.2.2)])) tf_53 rfl rfl hS22 rfl rfl rfl (wl_move rfl rfl ?_)))) a ha))))))
      obtain ⟨u42, hu42, hF⟩ := bindE hF
      refine wl_call rfl Try.call160 (C_spec_swMoves w20 x0 v0_0 (h0_0.ro hB21) v0_1 (h0_1.ro hB21) y25 _ hu42) rfl ?_
      rintro _ w45 ⟨v43, F44, rfl, hb46, hM49⟩
      refine ⟨_, rfl, ?_⟩
      have hB47 := hB21.trans (hb46.mono hB21.size)
      have hS48 := hS22.join hb46 hM49 hB21.size
      obtain ⟨u50, hu50, hF⟩ := bindE hF
      refine wl_call rfl Try.call159 (C_spec_LeastOfAll w45 u42 v43 (hS48.own_ro (i := 0) rfl) _ hu50) rfl ?_
      rintro _ w51 ⟨rfl, hb52⟩
      refine ⟨_, rfl, ?_⟩
      have hB53 := hB47.trans (hb52.mono hB47.size)
      have hS54 := hS48.below hb52
      refine wl_move rfl rfl (wl_extract rfl rfl rfl (wl_extract rfl rfl rfl (wl_extract rfl rfl rfl (wl_assign rfl rfl (wl_assign rfl rfl (wl_assign rfl rfl (WL.nil (fun a ha => hK41 _ _ (W.seq fun K56 hK56 => ?_) a ha))))))))
      obtain ⟨k61, hk61, hF⟩ := jE1 hF
      have hJ62 : ∀ (y60 : Bool) (w57 : World) (_ : k61 y60 = some r) (_ : Below w0.heap.size w0 w57) (_ : Sep w0.heap.size w57 [R.blk b2 53 [v0_0, v0_1, (.int .i64 x0.2.2.1), (.int .i64 x0.2.2.2)]]), ∀ a, St 50 [(1, (.pointer (some ⟨b2, 0, none⟩))), (5, (.int .i64 y23)), (6, (.int .i64 y24)), (8, (.int .i64 u50.1)), (9, (.int .i64 u50.2.1)), (24, (.int .i64 (List.length x0.2.1 : Int))), (25, (.int .i64 y25)), (44, (.bool y60))] a → K56 a w57 := by
       intro y60 w57 hF hB58 hS59
       subst hk61
       refine fun a ha => hK56 _ _ (W.cond rfl (fun h63 => ?_) (fun h63 => ?_)) a ha
       ·replace hF := ifP h63 hF
        refine W.seq fun K64 hK64 => W.region (wl_move rfl rfl (wl_assign rfl rfl (WL.nil (fun a ha => hK64 _ _ (W.region (wl_move rfl rfl (wl_assign rfl rfl (WL.nil ?_)))) a ha))))
        exact fun a ha => hJ39 (u50.1) (u50.2.1) _ hF hB58 (hS59.sel [0] rfl) a (ha.sub ⟨rfl, rfl, rfl, rfl, rfl, trivial⟩)
       ·replace hF := ifN h63 hF
        refine W.skip ?_
        exact fun a ha => hJ39 (y23) (y24) _ hF hB58 (hS59.sel [0] rfl) a (ha.sub ⟨rfl, rfl, rfl, rfl, rfl, trivial⟩)
      refine W.region (wl_move rfl rfl (wl_lss rfl rfl rfl (wl_move rfl rfl ?_)))
      rcases bE (decide (y23 < 0)) with h65 | h65
      ·replace hF := ifP h65 hF
       refine wl_off rfl rfl rfl h65 (wl_off rfl rfl rfl h65 (wl_off rfl rfl rfl h65 (wl_off rfl rfl rfl h65 (wl_off rfl rfl rfl h65 (wl_pick_t rfl rfl h65 rfl (WL.nil ?_))))))
       exact fun a ha => hJ62 (true) _ hF hB53 (hS54.sel [1] rfl) a (ha.sub ⟨rfl, rfl, rfl, rfl, rfl, rfl, rfl, rfl, trivial⟩)
      ·replace hF := ifN h65 hF
       refine wl_on rfl rfl h65 (wl_move rfl rfl (wl_on rfl rfl h65 (wl_move rfl rfl (wl_on rfl rfl h65 (wl_move rfl rfl (wl_on rfl rfl h65 (wl_move rfl rfl (wl_on rfl rfl h65 ?_))))))))
       obtain ⟨u66, hu66, hF⟩ := bindE hF
       refine wl_call rfl Try.call161 (C_spec_apLess w51 u50.1 u50.2.1 y23 y24 _ hu66) rfl ?_
       rintro _ w67 ⟨rfl, hb68⟩
       refine ⟨_, rfl, ?_⟩
       have hB69 := hB53.trans (hb68.mono hB53.size)
       have hS70 := hS54.below hb68
       refine wl_pick_f rfl rfl h65 rfl (WL.nil ?_)
       exact fun a ha => hJ62 (u66) _ hF hB69 (hS70.sel [1] rfl) a (ha.sub ⟨rfl, rfl, rfl, rfl, rfl, rfl, rfl, rfl, trivial⟩)
     ·replace hF := ifN h31 hF
      refine W.exit fun a ha => hK18 _ _ (W.seq fun K72 hK72 => (W.region (wl_move rfl rfl (wl_move rfl rfl (wl_assign rfl rfl (wl_assign rfl rfl (wl_assign rfl rfl (WL.nil (fun a ha => hK72 _ _ (W.ret ?_) a ha))))))))) a ha
      have hr := Option.some.inj hF
      subst hr
      exact rets (vs := [(.int .i64 y23), (.int .i64 y24), (.bool true)]) hQ rfl ⟨rv_tmp rfl, rv_tmp rfl, rv_tmp rfl, trivial⟩ ⟨rfl, hB21⟩
 refine W.region (wl_load_blk (i := 0) (vs := [v0_0, v0_1, (.int .i64 x0.2.2.1), (.int .i64 x0.2.2.2)]) (v := (.agg #[v0_0, v0_1, (.int .i64 x0.2.2.1), (.int .i64 x0.2.2.2)])) tf_53 rfl rfl hS6 rfl rfl rfl ?_)
 obtain ⟨u73, hu73, hF⟩ := bindE hF
 refine wl_call rfl Try.call145 (C_spec_swGood w3 x0 v0_0 (h0_0.ro hB5) v0_1 (h0_1.ro hB5) _ hu73) rfl ?_
 rintro _ w74 ⟨rfl, hb75⟩
 refine ⟨_, rfl, ?_⟩
 have hB76 := hB5.trans (hb75.mono hB5.size)
 have hS77 := hS6.below hb75
 refine wl_not rfl rfl (wl_move rfl rfl ?_)
 rcases bE (!u73) with h79 | h79
 ·replace hF := ifP h79 hF
  refine wl_off rfl rfl rfl h79 (wl_off rfl rfl rfl h79 (wl_off rfl rfl rfl h79 (wl_off rfl rfl rfl h79 (wl_off rfl rfl rfl h79 (wl_off rfl rfl rfl h79 (wl_pick_t rfl rfl h79 rfl (WL.nil ?_)))))))
  exact fun a ha => hJ14 (true) _ hF hB76 (hS77.sel [0] rfl) a (ha.sub ⟨rfl, rfl, trivial⟩)
 ·replace hF := ifN h79 hF
  refine wl_on rfl rfl h79 (wl_field (o := 0) (off' := 0) ff_53_0 rfl rfl rfl (wl_on rfl rfl h79 (wl_load_blk (i := 0) (vs := [v0_0]) (v := v0_0) tf_51 rfl rfl hS77 rfl rfl rfl (wl_on rfl rfl h79 ?_))))
  obtain ⟨u80, hu80, hF⟩ := bindE hF
  refine wl_index (e := ty_63) Try.underlying51 rfl rfl rfl h0_0 hu80 ?_
  rintro p81 _ ⟨v83, rfl, hv84⟩ hp82
  refine wl_on rfl rfl h79 (wl_load_p (vs := [v83]) (v := v83) tf_63 rfl rfl (hp82.ro hB76) rfl rfl (wl_on rfl rfl h79 (wl_lenr (e := ty_68) (l := u80) Try.underlying63 rfl rfl hv84 (wl_on rfl rfl h79 (wl_lss rfl rfl rfl (wl_pick_f rfl rfl h79 rfl (WL.nil ?_)))))))
  exact fun a ha => hJ14 ((decide ((List.length u80 : Int) < 2))) _ hF hB76 (hS77.sel [0] rfl) a (ha.sub ⟨rfl, rfl, trivial⟩)
theorem C_impl_LeastToKeep (w0 : World) (x0 : ((List (List (Int × Int))) × (List Int) × Int × Int)) (v0_0 : Value) (h0_0 : rdS ty_63 (· < w0.heap.size) w0 v0_0 x0.1) (v0_1 : Value) (h0_1 : rdS ty_3 (· < w0.heap.size) w0 v0_1 x0.2.1) (r : (Int × Bool)) (hF : F_impl_LeastToKeep x0 = some r) :
  Calls Try.prog 46 [(.agg #[v0_0, v0_1, (.int .i64 x0.2.2.1), (.int .i64 x0.2.2.2)])].toArray w0 fun e w' => e = .returned (.tuple #[(.int .i64 r.1), (.bool r.2)]) ∧ Below w0.heap.size w0 w' := by
 refine calls_mk' Try.func46 rfl Try.ntmps46 rfl rfl fun Q hQ hP => ?_
 have hB : Below w0.heap.size w0 w0 := Below.refl _ _
 have hS : Sep w0.heap.size w0 [] := Sep.nil _ _
 unfold F_impl_LeastToKeep at hF
 refine W.seq fun K1 hK1 => W.region (wl_box (cs := [v0_0, v0_1, (.int .i64 x0.2.2.1), (.int .i64 x0.2.2.2)]) rfl rfl rfl hB hS ?_)
 intro b2 w3 hb4 hB5 hS6
 refine wl_assign rfl rfl (wl_assign rfl rfl (WL.nil (fun a ha => hK1 _ _ (W.seq fun K7 hK7 => (W.seq fun K8 hK8 => (W.region (wl_load_blk (i := 0) (vs := [v0_0, v0_1, (.int .i64 x0.2.2.1), (.int .i64 x0.2.2.2)]) (v := (.agg #[v0_0, v0_1, (.int .i64 x0.2.2.1), (.int .i64 x0.2.2.2)])) tf_53 rfl rfl hS6 rfl rfl rfl ?_)))) a ha)))
 obtain ⟨u9, hu9, hF⟩ := bindE hF
 refine wl_call rfl Try.call60 (C_impl_IsShow w3 x0 v0_0 (h0_0.ro hB5) v0_1 (h0_1.ro hB5) _ hu9) rfl ?_
 rintro _ w10 ⟨rfl, hb11⟩
 refine ⟨_, rfl, ?_⟩
 have hB12 := hB5.trans (hb11.mono hB5.size)
 have hS13 := hS6.below hb11
 refine wl_not rfl rfl (WL.nil (fun a ha => hK8 _ _ (W.cond rfl (fun h15 => ?_) (fun h15 => ?_)) a ha))
 ·replace hF := ifP h15 hF
  refine W.seq fun K16 hK16 => W.region (wl_assign rfl rfl (wl_assign rfl rfl (WL.nil (fun a ha => hK16 _ _ (W.ret ?_) a ha))))
  have hr := Option.some.inj hF
  subst hr
  exact rets (vs := [(.int .i64 0), (.bool false)]) hQ rfl ⟨rv_tmp rfl, rv_tmp rfl, trivial⟩ ⟨rfl, hB12⟩
 ·replace hF := ifN h15 hF
  refine W.skip fun a ha => hK7 _ _ (W.seq fun K17 hK17 => (W.region (wl_assign rfl rfl (WL.nil (fun a ha => hK17 _ _ (W.seq fun K18 hK18 => (W.seq fun K19 hK19 => (W.region (wl_field (o := 1) (off' := 1) ff_53_1 rfl rfl rfl (wl_load_blk (i := 0) (vs := [v0_1]) (v := v0_1) tf_29 rfl rfl hS13 rfl rfl rfl (wl_lenr (e := ty_3) (l := x0.2.1) Try.underlying29 rfl rfl h0_1 (wl_move rfl rfl ?_))))))) a ha))))) a ha
  refine WL.nil fun a ha => hK19 _ _ (W.block (W.loopk (fun m a w20 => ∃ (y23 : Int) (y24 : Int), St 28 [(1, (.pointer (some ⟨b2, 0, none⟩))), (4, (.int .i64 y23)), (12, (.int .i64 (List.length x0.2.1 : Int))), (13, (.int .i64 y24))] a ∧ Below w0.heap.size w0 w20 ∧ Sep w0.heap.size w20 [R.blk b2 53 [v0_0, v0_1, (.int .i64 x0.2.2.1), (.int .i64 x0.2.2.2)]] ∧ F_impl_LeastToKeep_L1 x0 m y23 y24 = some r) FU ?_ ?_)) a ha
  ·
   exact fun a ha => ⟨80, 0, ha.sub ⟨rfl, rfl, rfl, rfl, trivial⟩, hB12, (hS13.sel [0] rfl), hF⟩
  ·
   rintro m27 a w20 ⟨y23, y24, ha, hB21, hS22, hF⟩ KL26 hKL26
   refine W.at ?_ ha
   cases m27 with
   | zero => exact noneE hF
   | succ m27 =>
    obtain ⟨nx25, hnx25⟩ : ∃ k, k = F_impl_LeastToKeep_L1 x0 m27 := ⟨_, rfl⟩
    rw [F_impl_LeastToKeep_L1, ← hnx25] at hF
    refine W.seq fun K28 hK28 => W.region (wl_lss rfl rfl rfl (WL.nil (fun a ha => hK28 _ _ (W.seq fun K29 hK29 => (W.cond rfl (fun h30 => ?_) (fun h30 => ?_))) a ha)))
    ·replace hF := ifP h30 hF
     refine W.skip fun a ha => hK29 _ _ (W.seq fun K31 hK31 => (W.block (W.seq fun K32 hK32 => (W.region (wl_move rfl rfl (wl_assign rfl rfl (WL.nil (fun a ha => hK32 _ _ (W.seq fun K33 hK33 => (W.region (wl_load_blk (i := 0) (vs := [v0_0, v0_1, (.int .i64 x0.2.2.1), (.int .i64 x0.2.2.2)]) (v := (.agg #[v0_0, v0_1, (.int .i64 x0.2.2.1), (.int .i64 x0.2.2.2)])) tf_53 rfl rfl hS22 rfl rfl rfl (wl_move rfl rfl ?_)))) a ha)))))))) a ha
     obtain ⟨u34, hu34, hF⟩ := bindE hF
     refine wl_call rfl Try.call152 (C_impl_showMoves w20 x0 v0_0 (h0_0.ro hB21) v0_1 (h0_1.ro hB21) y24 _ hu34) rfl ?_
     rintro _ w37 ⟨v35, F36, rfl, hb38, hM41⟩
     refine ⟨_, rfl, ?_⟩
     have hB39 := hB21.trans (hb38.mono hB21.size)
     have hS40 := hS22.join hb38 hM41 hB21.size
     refine wl_assign rfl rfl (WL.nil (fun a ha => hK33 _ _ (W.block (W.loopk (fun m a w42 => ∃ (y45 : Int), St 28 [(1, (.pointer (some ⟨b2, 0, none⟩))), (4, (.int .i64 y45)), (6, v35), (12, (.int .i64 (List.length x0.2.1 : Int))), (13, (.int .i64 y24))] a ∧ Below w0.heap.size w0 w42 ∧ Sep w0.heap.size w42 [R.blk b2 53 [v0_0, v0_1, (.int .i64 x0.2.2.1), (.int .i64 x0.2.2.2)], R.own ty_70 F36 v35 u34] ∧ F_impl_LeastToKeep_L2 u34 nx25 y24 m y45 = some r) FU ?_ ?_)) a ha))
     ·
      exact fun a ha => ⟨y23, ha.sub ⟨rfl, rfl, rfl, rfl, rfl, trivial⟩, hB39, (hS40.sel [1, 0] rfl), hF⟩
     ·
      rintro m48 a w42 ⟨y45, ha, hB43, hS44, hF⟩ KL47 hKL47
      refine W.at ?_ ha
      cases m48 with
      | zero => exact noneE hF
      | succ m48 =>
       obtain ⟨nx46, hnx46⟩ : ∃ k, k = F_impl_LeastToKeep_L2 u34 nx25 y24 m48 := ⟨_, rfl⟩
       rw [F_impl_LeastToKeep_L2, ← hnx46] at hF
       refine W.seq fun K49 hK49 => W.seq fun K50 hK50 => W.region (wl_move rfl rfl (wl_move rfl rfl ?_))
       obtain ⟨u51, hu51, hF⟩ := bindE hF
       refine wl_call rfl Try.call162 (C_impl_pairsTooClose w42 u34 v35 (hS44.own_ro (i := 1) rfl) y45 _ hu51) rfl ?_
       rintro _ w54 ⟨v52, F53, rfl, hb55, hM58⟩
       refine ⟨_, rfl, ?_⟩
       have hB56 := hB43.trans (hb55.mono hB43.size)
       have hS57 := hS44.join hb55 hM58 hB43.size
       refine wl_lenr (e := ty_29) (l := u51) Try.underlying72 rfl rfl (hS57.own_ro (i := 0) rfl) (wl_gtr rfl rfl rfl (WL.nil (fun a ha => hK50 _ _ (W.cond rfl (fun h59 => ?_) (fun h59 => ?_)) a ha)))
       ·replace hF := ifP h59 hF
        refine W.skip fun a ha => hK49 _ _ (W.block (W.region (wl_move rfl rfl (wl_sub rfl rfl rfl (wl_assign rfl rfl (WL.nil ?_)))))) a ha
        rw [hnx46] at hF
        exact fun a ha => hKL47 a _ m48 (Nat.lt_succ_self m48) ⟨(w64 (y45 - 1)), ha.sub ⟨rfl, rfl, rfl, rfl, rfl, trivial⟩, hB56, (hS57.sel [1, 2] rfl), hF⟩
       ·replace hF := ifN h59 hF
        refine W.exit fun a ha => hK31 _ _ (W.region (wl_add rfl rfl rfl (wl_move rfl rfl (WL.nil ?_)))) a ha
        rw [hnx25] at hF
        exact fun a ha => hKL26 a _ m27 (Nat.lt_succ_self m27) ⟨y45, (w64 (y24 + 1)), ha.sub ⟨rfl, rfl, rfl, rfl, trivial⟩, hB56, (hS57.sel [1] rfl), hF⟩
    ·replace hF := ifN h30 hF
     refine W.exit fun a ha => hK18 _ _ (W.seq fun K60 hK60 => (W.region (wl_move rfl rfl (wl_assign rfl rfl (wl_assign rfl rfl (WL.nil (fun a ha => hK60 _ _ (W.ret ?_) a ha))))))) a ha
     have hr := Option.some.inj hF
     subst hr
     exact rets (vs := [(.int .i64 y23), (.bool true)]) hQ rfl ⟨rv_tmp rfl, rv_tmp rfl, trivial⟩ ⟨rfl, hB21⟩
theorem C_spec_LeastToKeep (w0 : World) (x0 : ((List (List (Int × Int))) × (List Int) × Int × Int)) (v0_0 : Value) (h0_0 : rdS ty_63 (· < w0.heap.size) w0 v0_0 x0.1) (v0_1 : Value) (h0_1 : rdS ty_3 (· < w0.heap.size) w0 v0_1 x0.2.1) (r : (Int × Bool)) (hF : F_spec_LeastToKeep x0 = some r) :
  Calls Try.prog 47 [(.agg #[v0_0, v0_1, (.int .i64 x0.2.2.1), (.int .i64 x0.2.2.2)])].toArray w0 fun e w' => e = .returned (.tuple #[(.int .i64 r.1), (.bool r.2)]) ∧ Below w0.heap.size w0 w' := by
 refine calls_mk' Try.func47 rfl Try.ntmps47 rfl rfl fun Q hQ hP => ?_
 have hB : Below w0.heap.size w0 w0 := Below.refl _ _
 have hS : Sep w0.heap.size w0 [] := Sep.nil _ _
 unfold F_spec_LeastToKeep at hF
 refine W.seq fun K1 hK1 => W.region (wl_box (cs := [v0_0, v0_1, (.int .i64 x0.2.2.1), (.int .i64 x0.2.2.2)]) rfl rfl rfl hB hS ?_)
 intro b2 w3 hb4 hB5 hS6
 refine wl_assign rfl rfl (wl_assign rfl rfl (WL.nil (fun a ha => hK1 _ _ (W.seq fun K7 hK7 => (W.seq fun K8 hK8 => (W.region (wl_load_blk (i := 0) (vs := [v0_0, v0_1, (.int .i64 x0.2.2.1), (.int .i64 x0.2.2.2)]) (v := (.agg #[v0_0, v0_1, (.int .i64 x0.2.2.1), (.int .i64 x0.2.2.2)])) tf_53 rfl rfl hS6 rfl rfl rfl ?_)))) a ha)))
 obtain ⟨u9, hu9, hF⟩ := bindE hF
 refine wl_call rfl Try.call145 (C_spec_swGood w3 x0 v0_0 (h0_0.ro hB5) v0_1 (h0_1.ro hB5) _ hu9) rfl ?_
 rintro _ w10 ⟨rfl, hb11⟩
 refine ⟨_, rfl, ?_⟩
 have hB12 := hB5.trans (hb11.mono hB5.size)
 have hS13 := hS6.below hb11
 refine wl_not rfl rfl (WL.nil (fun a ha => hK8 _ _ (W.cond rfl (fun h15 => ?_) (fun h15 => ?_)) a ha))
 ·replace hF := ifP h15 hF
  refine W.seq fun K16 hK16 => W.region (wl_assign rfl rfl (wl_assign rfl rfl (WL.nil (fun a ha => hK16 _ _ (W.ret ?_) a ha))))
  have hr := Option.some.inj hF
  subst hr
  exact rets (vs := [(.int .i64 0), (.bool false)]) hQ rfl ⟨rv_tmp rfl, rv_tmp rfl, trivial⟩ ⟨rfl, hB12⟩
 ·replace hF := ifN h15 hF
  refine W.skip fun a ha => hK7 _ _ (W.seq fun K17 hK17 => (W.seq fun K18 hK18 => (W.region (wl_field (o := 0) (off' := 0) ff_53_0 rfl rfl rfl (wl_load_blk (i := 0) (vs := [v0_0]) (v := v0_0) tf_51 rfl rfl hS13 rfl rfl rfl ?_))))) a ha
  obtain ⟨u19, hu19, hF⟩ := bindE hF
  refine wl_index (e := ty_63) Try.underlying51 rfl rfl rfl h0_0 hu19 ?_
  rintro p20 _ ⟨v22, rfl, hv23⟩ hp21
  refine wl_load_p (vs := [v22]) (v := v22) tf_63 rfl rfl (hp21.ro hB12) rfl rfl (wl_lenr (e := ty_68) (l := u19) Try.underlying63 rfl rfl hv23 (wl_lss rfl rfl rfl (WL.nil (fun a ha => hK18 _ _ (W.cond rfl (fun h24 => ?_) (fun h24 => ?_)) a ha))))
  ·replace hF := ifP h24 hF
   refine W.seq fun K25 hK25 => W.region (wl_assign rfl rfl (wl_assign rfl rfl (WL.nil (fun a ha => hK25 _ _ (W.ret ?_) a ha))))
   have hr := Option.some.inj hF
   subst hr
   exact rets (vs := [(.int .i64 80), (.bool true)]) hQ rfl ⟨rv_tmp rfl, rv_tmp rfl, trivial⟩ ⟨rfl, hB12⟩
  ·replace hF := ifN h24 hF
   refine W.skip fun a ha => hK17 _ _ (W.seq fun K26 hK26 => (W.region (wl_load_blk (i := 0) (vs := [v0_0, v0_1, (.int .i64 x0.2.2.1), (.int .i64 x0.2.2.2)]) (v := (.agg #[v0_0, v0_1, (.int .i64 x0.2.2.1), (.int .i64 x0.2.2.2)])) tf_53 rfl rfl hS13 rfl rfl rfl ?_))) a ha
   obtain ⟨u27, hu27, hF⟩ := bindE hF
   refine wl_call rfl Try.call45 (C_spec_LeastOfShow w10 x0 v0_0 (h0_0.ro hB12) v0_1 (h0_1.ro hB12) _ hu27) rfl ?_
   rintro _ w28 ⟨rfl, hb29⟩
   refine ⟨_, rfl, ?_⟩
   have hB30 := hB12.trans (hb29.mono hB12.size)
   have hS31 := hS13.below hb29
   refine wl_move rfl rfl (wl_extract rfl rfl rfl (wl_extract rfl rfl rfl (wl_extract rfl rfl rfl (wl_assign rfl rfl (wl_assign rfl rfl (wl_assign rfl rfl (WL.nil (fun a ha => hK26 _ _ (W.seq fun K33 hK33 => (W.region (wl_assign rfl rfl (WL.nil (fun a ha => hK33 _ _ ?_ a ha))))) a ha))))))))
   refine W.seq fun K34 hK34 => W.block (W.loopk (fun m a w35 => ∃ (y38 : Int), St 33 [(4, (.int .i64 u27.1)), (5, (.int .i64 u27.2.1)), (7, (.int .i64 y38))] a ∧ Below w0.heap.size w0 w35 ∧ Sep w0.heap.size w35 [] ∧ F_spec_LeastToKeep_L1 u27 m y38 = some r) FU ?_ ?_)
   ·
    exact fun a ha => ⟨80, ha.sub ⟨rfl, rfl, rfl, trivial⟩, hB30, (hS31.sel [] rfl), hF⟩
   ·
    rintro m41 a w35 ⟨y38, ha, hB36, hS37, hF⟩ KL40 hKL40
    refine W.at ?_ ha
    cases m41 with
    | zero => exact noneE hF
    | succ m41 =>
     obtain ⟨nx39, hnx39⟩ : ∃ k, k = F_spec_LeastToKeep_L1 u27 m41 := ⟨_, rfl⟩
     rw [F_spec_LeastToKeep_L1, ← hnx39] at hF
     refine W.seq fun K42 hK42 => W.seq fun K43 hK43 => W.region (wl_move rfl rfl (wl_move rfl rfl (wl_mul rfl rfl rfl (wl_move rfl rfl (wl_mul rfl rfl rfl (wl_move rfl rfl (wl_gtr rfl rfl rfl (WL.nil (fun a ha => hK43 _ _ (W.cond rfl (fun h44 => ?_) (fun h44 => ?_)) a ha)))))))))
     ·replace hF := ifP h44 hF
      refine W.skip fun a ha => hK42 _ _ (W.block (W.region (wl_move rfl rfl (wl_sub rfl rfl rfl (wl_assign rfl rfl (WL.nil ?_)))))) a ha
      rw [hnx39] at hF
      exact fun a ha => hKL40 a _ m41 (Nat.lt_succ_self m41) ⟨(w64 (y38 - 1)), ha.sub ⟨rfl, rfl, rfl, trivial⟩, hB36, (hS37.sel [] rfl), hF⟩
     ·replace hF := ifN h44 hF
      refine W.exit fun a ha => hK34 _ _ (W.seq fun K45 hK45 => (W.region (wl_move rfl rfl (wl_assign rfl rfl (wl_assign rfl rfl (WL.nil (fun a ha => hK45 _ _ (W.ret ?_) a ha))))))) a ha
      have hr := Option.some.inj hF
      subst hr
      exact rets (vs := [(.int .i64 y38), (.bool true)]) hQ rfl ⟨rv_tmp rfl, rv_tmp rfl, trivial⟩ ⟨rfl, hB36⟩
theorem C_laws_qSpots (w0 : World) (x0 : (List (Int × Int))) (v0_0 : Value) (h0_0 : rdS ty_68 (· < w0.heap.size) w0 v0_0 x0) (x1 : (List (Int × Int))) (v1_0 : Value) (h1_0 : rdS ty_68 (· < w0.heap.size) w0 v1_0 x1) (r : Bool) (hF : F_laws_qSpots x0 x1 = some r) :
  Calls Try.prog 48 [v0_0, v1_0].toArray w0 fun e w' => e = .returned (.bool r) ∧ Below w0.heap.size w0 w' := by
 refine calls_mk' Try.func48 rfl Try.ntmps48 rfl rfl fun Q hQ hP => ?_
 have hB : Below w0.heap.size w0 w0 := Below.refl _ _
 have hS : Sep w0.heap.size w0 [] := Sep.nil _ _
 unfold F_laws_qSpots at hF
 refine W.seq fun K1 hK1 => W.region (wl_assign rfl rfl (WL.nil (fun a ha => hK1 _ _ (W.seq fun K2 hK2 => (W.seq fun K3 hK3 => (W.region (wl_move rfl rfl (wl_lenr (e := ty_68) (l := x0) Try.underlying63 rfl rfl h0_0 (wl_move rfl rfl (wl_lenr (e := ty_68) (l := x1) Try.underlying63 rfl rfl h1_0 (wl_neq rfl rfl rfl (WL.nil ?_))))))))) a ha)))
 refine fun a ha => hK3 _ _ (W.cond rfl (fun h4 => ?_) (fun h4 => ?_)) a ha
 ·replace hF := ifP h4 hF
  refine W.seq fun K5 hK5 => W.region (wl_assign rfl rfl (WL.nil (fun a ha => hK5 _ _ (W.ret ?_) a ha)))
  have hr := Option.some.inj hF
  subst hr
  exact rets (vs := [(.bool false)]) hQ rfl ⟨rv_tmp rfl, trivial⟩ ⟨rfl, hB⟩
 ·replace hF := ifN h4 hF
  refine W.skip fun a ha => hK2 _ _ (W.seq fun K6 hK6 => (W.seq fun K7 hK7 => (W.region (wl_move rfl rfl (wl_lenr (e := ty_68) (l := x0) Try.underlying63 rfl rfl h0_0 (wl_move rfl rfl (WL.nil (fun a ha => hK7 _ _ (W.block (W.loopk (fun m a w8 => ∃ (y11 : Int), St 26 [(0, v0_0), (1, v1_0), (12, (.int .i64 (List.length x0 : Int))), (13, (.int .i64 y11))] a ∧ Below w0.heap.size w0 w8 ∧ Sep w0.heap.size w8 [] ∧ F_laws_qSpots_L1 x0 x1 m y11 = some r) FU ?_ ?_)) a ha)))))))) a ha
  ·
   exact fun a ha => ⟨0, ha.sub ⟨rfl, rfl, rfl, rfl, trivial⟩, hB, (hS.sel [] rfl), hF⟩
  ·
   rintro m14 a w8 ⟨y11, ha, hB9, hS10, hF⟩ KL13 hKL13
   refine W.at ?_ ha
   cases m14 with
   | zero => exact noneE hF
   | succ m14 =>
    obtain ⟨nx12, hnx12⟩ : ∃ k, k = F_laws_qSpots_L1 x0 x1 m14 := ⟨_, rfl⟩
    rw [F_laws_qSpots_L1, ← hnx12] at hF
    refine W.seq fun K15 hK15 => W.region (wl_lss rfl rfl rfl (WL.nil (fun a ha => hK15 _ _ (W.seq fun K16 hK16 => (W.cond rfl (fun h17 => ?_) (fun h17 => ?_))) a ha)))
    ·replace hF := ifP h17 hF
     refine W.skip fun a ha => hK16 _ _ (W.seq fun K18 hK18 => (W.block (W.seq fun K19 hK19 => (W.region (wl_move rfl rfl (wl_assign rfl rfl (WL.nil (fun a ha => hK19 _ _ (W.seq fun K20 hK20 => (W.regionH mixed_ [] hB9 hS10 ?_)) a ha)))))))) a ha
     intro w21 hb22 hB23 hS24
     have hSW25 := KeepX.refl w21 []
     refine WH.tk 0 rfl hP hSW25 (pr_move rfl rfl (WH.tk 1 rfl hP hSW25 (pr_move rfl rfl ?_)))
     obtain ⟨u26, hu26, hF⟩ := bindE hF
     refine WH.tk 2 rfl hP hSW25 (pr_index (e := ty_68) Try.underlying63 rfl rfl rfl h0_0 hu26 ?_)
     rintro p27 _ rfl hp28
     refine WH.tk 3 rfl hP hSW25 (pr_load_p (vs := [(.int .i64 u26.1), (.int .i64 u26.2)]) (v := (.agg #[(.int .i64 u26.1), (.int .i64 u26.2)])) tf_68 rfl rfl (hp28.kx hB23 (by simp)) rfl rfl (WH.tk 4 rfl hP hSW25 (pr_move rfl rfl (WH.tk 5 rfl hP hSW25 (pr_move rfl rfl ?_)))))
     obtain ⟨u29, hu29, hF⟩ := bindE hF
     refine WH.tk 6 rfl hP hSW25 (pr_index (e := ty_68) Try.underlying63 rfl rfl rfl h1_0 hu29 ?_)
     rintro p30 _ rfl hp31
     refine WH.tk 7 rfl hP hSW25 (pr_load_p (vs := [(.int .i64 u29.1), (.int .i64 u29.2)]) (v := (.agg #[(.int .i64 u29.1), (.int .i64 u29.2)])) tf_68 rfl rfl (hp31.kx hB23 (by simp)) rfl rfl (WH.tk 8 rfl hP hSW25 (pr_nes Try.eqGuardType68 (eq_68 u26 u29) rfl rfl rfl (WH.done (by kernel_rfl) (fun a ha => hK20 _ _ (W.cond rfl (fun h32 => ?_) (fun h32 => ?_)) a ha)))))
     ·replace hF := ifP h32 hF
      refine W.seq fun K33 hK33 => W.region (wl_assign rfl rfl (WL.nil (fun a ha => hK33 _ _ (W.ret ?_) a ha)))
      have hr := Option.some.inj hF
      subst hr
      exact rets (vs := [(.bool false)]) hQ rfl ⟨rv_tmp rfl, trivial⟩ ⟨rfl, hB23⟩
     ·replace hF := ifN h32 hF
      refine W.skip fun a ha => hK18 _ _ (W.region (wl_add rfl rfl rfl (wl_move rfl rfl (WL.nil ?_)))) a ha
      rw [hnx12] at hF
      exact fun a ha => hKL13 a _ m14 (Nat.lt_succ_self m14) ⟨(w64 (y11 + 1)), ha.sub ⟨rfl, rfl, rfl, rfl, trivial⟩, hB23, (hS24.sel [] rfl), hF⟩
    ·replace hF := ifN h17 hF
     refine W.exit fun a ha => hK6 _ _ (W.seq fun K34 hK34 => (W.region (wl_assign rfl rfl (WL.nil (fun a ha => hK34 _ _ (W.ret ?_) a ha))))) a ha
     have hr := Option.some.inj hF
     subst hr
     exact rets (vs := [(.bool true)]) hQ rfl ⟨rv_tmp rfl, trivial⟩ ⟨rfl, hB9⟩
theorem C_impl_ShowMoves (w0 : World) (x0 : ((List (List (Int × Int))) × (List Int) × Int × Int)) (v0_0 : Value) (h0_0 : rdS ty_63 (· < w0.heap.size) w0 v0_0 x0.1) (v0_1 : Value) (h0_1 : rdS ty_3 (· < w0.heap.size) w0 v0_1 x0.2.1) (x1 : Int) (r : ((List ((Int × Int) × (Int × Int) × Int)) × Bool)) (hF : F_impl_ShowMoves x0 x1 = some r) :
  Calls Try.prog 49 [(.agg #[v0_0, v0_1, (.int .i64 x0.2.2.1), (.int .i64 x0.2.2.2)]), (.int .i64 x1)].toArray w0 fun e w' => ∃ (q0 : Value) (G0 : List Nat), e = .returned (.tuple #[q0, (.bool r.2)]) ∧ Below w0.heap.size w0 w' ∧ Sep w0.heap.size w' [R.own ty_70 G0 q0 r.1] := by
 refine calls_mk' Try.func49 rfl Try.ntmps49 rfl rfl fun Q hQ hP => ?_
 have hB : Below w0.heap.size w0 w0 := Below.refl _ _
 have hS : Sep w0.heap.size w0 [] := Sep.nil _ _
 unfold F_impl_ShowMoves at hF
 refine W.seq fun K1 hK1 => W.region (wl_box (cs := [v0_0, v0_1, (.int .i64 x0.2.2.1), (.int .i64 x0.2.2.2)]) rfl rfl rfl hB hS ?_)
 intro b2 w3 hb4 hB5 hS6
 refine wl_assign rfl rfl (wl_assign rfl rfl (WL.nil (fun a ha => hK1 _ _ (W.seq fun K7 hK7 => (W.seq fun K8 hK8 => (W.region (wl_load_blk (i := 0) (vs := [v0_0, v0_1, (.int .i64 x0.2.2.1), (.int .i64 x0.2.2.2)]) (v := (.agg #[v0_0, v0_1, (.int .i64 x0.2.2.1), (.int .i64 x0.2.2.2)])) tf_53 rfl rfl hS6 rfl rfl rfl (wl_move rfl rfl ?_))))) a ha)))
 obtain ⟨u9, hu9, hF⟩ := bindE hF
 refine wl_call rfl Try.call163 (C_impl_isPart w3 x0 v0_0 (h0_0.ro hB5) v0_1 (h0_1.ro hB5) x1 _ hu9) rfl ?_
 rintro _ w10 ⟨rfl, hb11⟩
 refine ⟨_, rfl, ?_⟩
 have hB12 := hB5.trans (hb11.mono hB5.size)
 have hS13 := hS6.below hb11
 refine wl_not rfl rfl (WL.nil (fun a ha => hK8 _ _ (W.cond rfl (fun h15 => ?_) (fun h15 => ?_)) a ha))
 ·replace hF := ifP h15 hF
  refine W.seq fun K16 hK16 => W.region (wl_assign rfl rfl (wl_assign rfl rfl (WL.nil (fun a ha => hK16 _ _ (W.ret ?_) a ha))))
  have hS17 := hS13.push0 (r := R.own ty_70 [] (.slice none 0 0) []) rfl fun _ => .inl ⟨rfl, rfl, rfl⟩
  have hr := Option.some.inj hF
  subst hr
  exact rets (vs := [(.slice none 0 0), (.bool false)]) hQ rfl ⟨rv_tmp rfl, rv_tmp rfl, trivial⟩ ⟨(.slice none 0 0), [], rfl, hB12, hS17.sel [0] rfl⟩
 ·replace hF := ifN h15 hF
  refine W.skip fun a ha => hK7 _ _ (W.seq fun K18 hK18 => (W.region (wl_load_blk (i := 0) (vs := [v0_0, v0_1, (.int .i64 x0.2.2.1), (.int .i64 x0.2.2.2)]) (v := (.agg #[v0_0, v0_1, (.int .i64 x0.2.2.1), (.int .i64 x0.2.2.2)])) tf_53 rfl rfl hS13 rfl rfl rfl (wl_move rfl rfl ?_)))) a ha
  obtain ⟨u19, hu19, hF⟩ := bindE hF
  refine wl_call rfl Try.call152 (C_impl_showMoves w10 x0 v0_0 (h0_0.ro hB12) v0_1 (h0_1.ro hB12) x1 _ hu19) rfl ?_
  rintro _ w22 ⟨v20, F21, rfl, hb23, hM26⟩
  refine ⟨_, rfl, ?_⟩
  have hB24 := hB12.trans (hb23.mono hB12.size)
  have hS25 := hS13.join hb23 hM26 hB12.size
  refine wl_assign rfl rfl (wl_assign rfl rfl (WL.nil (fun a ha => hK18 _ _ (W.ret ?_) a ha)))
  have hr := Option.some.inj hF
  subst hr
  exact rets (vs := [v20, (.bool true)]) hQ rfl ⟨rv_tmp rfl, rv_tmp rfl, trivial⟩ ⟨v20, F21, rfl, hB24, hS25.sel [0] rfl⟩
theorem C_impl_SquareOf (w0 : World) (x0 : (Int × Int)) (x1 : (Int × Int)) (r : (Int × Bool)) (hF : F_impl_SquareOf x0 x1 = some r) :
  Calls Try.prog 50 [(.agg #[(.int .i64 x0.1), (.int .i64 x0.2)]), (.agg #[(.int .i64 x1.1), (.int .i64 x1.2)])].toArray w0 fun e w' => e = .returned (.tuple #[(.int .i64 r.1), (.bool r.2)]) ∧ Below w0.heap.size w0 w' := by
 refine calls_mk' Try.func50 rfl Try.ntmps50 rfl rfl fun Q hQ hP => ?_
 have hB : Below w0.heap.size w0 w0 := Below.refl _ _
 have hS : Sep w0.heap.size w0 [] := Sep.nil _ _
 unfold F_impl_SquareOf at hF
 refine W.seq fun K1 hK1 => W.region (wl_box (cs := [(.int .i64 x0.1), (.int .i64 x0.2)]) rfl rfl rfl hB hS ?_)
 intro b2 w3 hb4 hB5 hS6
 refine wl_box (cs := [(.int .i64 x1.1), (.int .i64 x1.2)]) rfl rfl rfl hB5 hS6 ?_
 intro b7 w8 hb9 hB10 hS11
 refine wl_assign rfl rfl (wl_assign rfl rfl (WL.nil (fun a ha => hK1 _ _ (W.seq fun K12 hK12 => (W.seq fun K13 hK13 => ?_)) a ha)))
 obtain ⟨k18, hk18, hF⟩ := jE1 hF
 have hJ19 : ∀ (y17 : Bool) (w14 : World) (_ : k18 y17 = some r) (_ : Below w0.heap.size w0 w14) (_ : Sep w0.heap.size w14 [R.blk b2 68 [(.int .i64 x0.1), (.int .i64 x0.2)], R.blk b7 68 [(.int .i64 x1.1), (.int .i64 x1.2)]]), ∀ a, St 17 [(2, (.pointer (some ⟨b2, 0, none⟩))), (3, (.pointer (some ⟨b7, 0, none⟩))), (13, (.bool y17))] a → K13 a w14 := by
  intro y17 w14 hF hB15 hS16
  subst hk18
  refine fun a ha => hK13 _ _ (W.cond rfl (fun h20 => ?_) (fun h20 => ?_)) a ha
  ·replace hF := ifP h20 hF
   refine W.seq fun K21 hK21 => W.region (wl_assign rfl rfl (wl_assign rfl rfl (WL.nil (fun a ha => hK21 _ _ (W.ret ?_) a ha))))
   have hr := Option.some.inj hF
   subst hr
   exact rets (vs := [(.int .i64 0), (.bool false)]) hQ rfl ⟨rv_tmp rfl, rv_tmp rfl, trivial⟩ ⟨rfl, hB15⟩
  ·replace hF := ifN h20 hF
   refine W.skip fun a ha => hK12 _ _ (W.seq fun K22 hK22 => (W.region (wl_load_blk (i := 0) (vs := [(.int .i64 x0.1), (.int .i64 x0.2)]) (v := (.agg #[(.int .i64 x0.1), (.int .i64 x0.2)])) tf_68 rfl rfl hS16 rfl rfl rfl (wl_load_blk (i := 1) (vs := [(.int .i64 x1.1), (.int .i64 x1.2)]) (v := (.agg #[(.int .i64 x1.1), (.int .i64 x1.2)])) tf_68 rfl rfl hS16 rfl rfl rfl ?_)))) a ha
   obtain ⟨u23, hu23, hF⟩ := bindE hF
   refine wl_call rfl Try.call153 (C_impl_squareOf w14 x0 x1 _ hu23) rfl ?_
   rintro _ w24 ⟨rfl, hb25⟩
   refine ⟨_, rfl, ?_⟩
   have hB26 := hB15.trans (hb25.mono hB15.size)
   refine wl_assign rfl rfl (wl_assign rfl rfl (WL.nil (fun a ha => hK22 _ _ (W.ret ?_) a ha)))
   have hr := Option.some.inj hF
   subst hr
   exact rets (vs := [(.int .i64 u23), (.bool true)]) hQ rfl ⟨rv_tmp rfl, rv_tmp rfl, trivial⟩ ⟨rfl, hB26⟩
 refine W.region (wl_load_blk (i := 1) (vs := [(.int .i64 x0.1), (.int .i64 x0.2)]) (v := (.agg #[(.int .i64 x0.1), (.int .i64 x0.2)])) tf_68 rfl rfl hS11 rfl rfl rfl ?_)
 obtain ⟨u29, hu29, hF⟩ := bindE hF
 refine wl_call rfl Try.call164 (C_impl_IsSpot w8 x0 _ hu29) rfl ?_
 rintro _ w30 ⟨rfl, hb31⟩
 refine ⟨_, rfl, ?_⟩
 have hB32 := hB10.trans (hb31.mono hB10.size)
 have hS33 := hS11.below hb31
 refine wl_not rfl rfl (wl_move rfl rfl ?_)
 rcases bE (!u29) with h35 | h35
 ·replace hF := ifP h35 hF
  refine wl_off rfl rfl rfl h35 (wl_off rfl rfl rfl h35 (wl_off rfl rfl rfl h35 (wl_pick_t rfl rfl h35 rfl (WL.nil ?_))))
  exact fun a ha => hJ19 (true) _ hF hB32 (hS33.sel [1, 0] rfl) a (ha.sub ⟨rfl, rfl, rfl, trivial⟩)
 ·replace hF := ifN h35 hF
  refine wl_on rfl rfl h35 (wl_load_blk (i := 0) (vs := [(.int .i64 x1.1), (.int .i64 x1.2)]) (v := (.agg #[(.int .i64 x1.1), (.int .i64 x1.2)])) tf_68 rfl rfl hS33 rfl rfl rfl (wl_on rfl rfl h35 ?_))
  obtain ⟨u36, hu36, hF⟩ := bindE hF
  refine wl_call rfl Try.call164 (C_impl_IsSpot w30 x1 _ hu36) rfl ?_
  rintro _ w37 ⟨rfl, hb38⟩
  refine ⟨_, rfl, ?_⟩
  have hB39 := hB32.trans (hb38.mono hB32.size)
  have hS40 := hS33.below hb38
  refine wl_on rfl rfl h35 (wl_not rfl rfl (wl_pick_f rfl rfl h35 rfl (WL.nil ?_)))
  exact fun a ha => hJ19 ((!u36)) _ hF hB39 (hS40.sel [1, 0] rfl) a (ha.sub ⟨rfl, rfl, rfl, trivial⟩)
theorem C_laws_qSum (w0 : World) (x0 : (List Int)) (v0_0 : Value) (h0_0 : rdS ty_3 (· < w0.heap.size) w0 v0_0 x0) (r : Int) (hF : F_laws_qSum x0 = some r) :
  Calls Try.prog 52 [v0_0].toArray w0 fun e w' => e = .returned (.int .i64 r) ∧ Below w0.heap.size w0 w' := by
 refine calls_mk' Try.func52 rfl Try.ntmps52 rfl rfl fun Q hQ hP => ?_
 have hB : Below w0.heap.size w0 w0 := Below.refl _ _
 have hS : Sep w0.heap.size w0 [] := Sep.nil _ _
 unfold F_laws_qSum at hF
 refine W.seq fun K1 hK1 => W.region (wl_assign rfl rfl (WL.nil (fun a ha => hK1 _ _ (W.seq fun K2 hK2 => (W.region (wl_assign rfl rfl (WL.nil (fun a ha => hK2 _ _ (W.seq fun K3 hK3 => (W.seq fun K4 hK4 => (W.region (wl_move rfl rfl ?_)))) a ha))))) a ha)))
 refine wl_lenr (e := ty_3) (l := x0) Try.underlying29 rfl rfl h0_0 (wl_move rfl rfl (WL.nil (fun a ha => hK4 _ _ (W.block (W.loopk (fun m a w5 => ∃ (y8 : Int) (y9 : Int), St 17 [(3, (.int .i64 y8)), (6, v0_0), (7, (.int .i64 (List.length x0 : Int))), (8, (.int .i64 y9))] a ∧ Below w0.heap.size w0 w5 ∧ Sep w0.heap.size w5 [] ∧ F_laws_qSum_L1 x0 m y8 y9 = some r) FU ?_ ?_)) a ha)))
 ·
  exact fun a ha => ⟨0, 0, ha.sub ⟨rfl, rfl, rfl, rfl, trivial⟩, hB, (hS.sel [] rfl), hF⟩
 ·
  rintro m12 a w5 ⟨y8, y9, ha, hB6, hS7, hF⟩ KL11 hKL11
  refine W.at ?_ ha
  cases m12 with
  | zero => exact noneE hF
  | succ m12 =>
   obtain ⟨nx10, hnx10⟩ : ∃ k, k = F_laws_qSum_L1 x0 m12 := ⟨_, rfl⟩
   rw [F_laws_qSum_L1, ← hnx10] at hF
   refine W.seq fun K13 hK13 => W.region (wl_lss rfl rfl rfl (WL.nil (fun a ha => hK13 _ _ (W.seq fun K14 hK14 => (W.cond rfl (fun h15 => ?_) (fun h15 => ?_))) a ha)))
   ·replace hF := ifP h15 hF
    refine W.skip fun a ha => hK14 _ _ (W.seq fun K16 hK16 => (W.block (W.seq fun K17 hK17 => (W.region ?_)))) a ha
    obtain ⟨u18, hu18, hF⟩ := bindE hF
    refine wl_index (e := ty_3) Try.underlying29 rfl rfl rfl h0_0 hu18 ?_
    rintro p19 _ rfl hp20
    refine wl_load_p (vs := [(.int .i64 u18)]) (v := (.int .i64 u18)) tf_3 rfl rfl (hp20.ro hB6) rfl rfl (wl_assign rfl rfl (WL.nil (fun a ha => hK17 _ _ (W.region (wl_move rfl rfl (wl_move rfl rfl (wl_add rfl rfl rfl (wl_assign rfl rfl (WL.nil (fun a ha => hK16 _ _ (W.region (wl_add rfl rfl rfl (wl_move rfl rfl ?_))) a ha))))))) a ha)))
    refine WL.nil ?_
    rw [hnx10] at hF
    exact fun a ha => hKL11 a _ m12 (Nat.lt_succ_self m12) ⟨(w64 (y8 + u18)), (w64 (y9 + 1)), ha.sub ⟨rfl, rfl, rfl, rfl, trivial⟩, hB6, (hS7.sel [] rfl), hF⟩
   ·replace hF := ifN h15 hF
    refine W.exit fun a ha => hK3 _ _ (W.seq fun K21 hK21 => (W.region (wl_move rfl rfl (wl_assign rfl rfl (WL.nil (fun a ha => hK21 _ _ (W.ret ?_) a ha)))))) a ha
    have hr := Option.some.inj hF
    subst hr
    exact rets (vs := [(.int .i64 y8)]) hQ rfl ⟨rv_tmp rfl, trivial⟩ ⟨rfl, hB6⟩
theorem C_laws_qLess (w0 : World) (x0 : Int) (x1 : Int) (x2 : Int) (x3 : Int) (r : Bool) (hF : F_laws_qLess x0 x1 x2 x3 = some r) :
  Calls Try.prog 53 [(.int .i64 x0), (.int .i64 x1), (.int .i64 x2), (.int .i64 x3)].toArray w0 fun e w' => e = .returned (.bool r) ∧ Below w0.heap.size w0 w' := by
 refine calls_mk' Try.func53 rfl Try.ntmps53 rfl rfl fun Q hQ hP => ?_
 have hB : Below w0.heap.size w0 w0 := Below.refl _ _
 have hS : Sep w0.heap.size w0 [] := Sep.nil _ _
 unfold F_laws_qLess at hF
 refine W.seq fun K1 hK1 => W.region (wl_assign rfl rfl (WL.nil (fun a ha => hK1 _ _ (W.seq fun K2 hK2 => (W.seq fun K3 hK3 => (W.regionH mixed_ [] hB hS ?_))) a ha)))
 intro w4 hb5 hB6 hS7
 have hSW8 := KeepX.refl w4 []
 refine WH.tk 0 rfl hP hSW8 (pr_move rfl rfl (WH.tk 1 rfl hP hSW8 (pr_move rfl rfl ?_)))
 have h9 : x1 ≠ 0 := fun h9 => noneE (ifP h9 hF)
 replace hF := ifNP h9 hF
 refine WH.tk 2 rfl hP hSW8 (pr_quo rfl rfl rfl h9 (WH.tk 3 rfl hP hSW8 (pr_move rfl rfl (WH.tk 4 rfl hP hSW8 (pr_move rfl rfl ?_)))))
 have h10 : x3 ≠ 0 := fun h10 => noneE (ifP h10 hF)
 replace hF := ifNP h10 hF
 refine WH.tk 5 rfl hP hSW8 (pr_quo rfl rfl rfl h10 (WH.tk 6 rfl hP hSW8 (pr_neq rfl rfl rfl (WH.done (by kernel_rfl) (fun a ha => hK3 _ _ (W.cond rfl (fun h11 => ?_) (fun h11 => ?_)) a ha)))))
 ·replace hF := ifP h11 hF
  refine W.seq fun K12 hK12 => W.regionH mixed_ [] hB6 hS7 ?_
  intro w13 hb14 hB15 hS16
  have hSW17 := KeepX.refl w13 []
  refine WH.tk 0 rfl hP hSW17 (pr_move rfl rfl (WH.tk 1 rfl hP hSW17 (pr_move rfl rfl ?_)))
  have h18 : x1 ≠ 0 := fun h18 => noneE (ifP h18 hF)
  replace hF := ifNP h18 hF
  refine WH.tk 2 rfl hP hSW17 (pr_quo rfl rfl rfl h18 (WH.tk 3 rfl hP hSW17 (pr_move rfl rfl (WH.tk 4 rfl hP hSW17 (pr_move rfl rfl ?_)))))
  have h19 : x3 ≠ 0 := fun h19 => noneE (ifP h19 hF)
  replace hF := ifNP h19 hF
  refine WH.tk 5 rfl hP hSW17 (pr_quo rfl rfl rfl h19 (WH.tk 6 rfl hP hSW17 (pr_lss rfl rfl rfl (WH.tk 7 rfl hP hSW17 (pr_assign rfl rfl (WH.done (by kernel_rfl) (fun a ha => hK12 _ _ (W.ret ?_) a ha)))))))
  have hr := Option.some.inj hF
  subst hr
  exact rets (vs := [(.bool (decide ((w64 (Int.tdiv x0 x1)) < (w64 (Int.tdiv x2 x3)))))]) hQ rfl ⟨rv_tmp rfl, trivial⟩ ⟨rfl, hB15⟩
 ·replace hF := ifN h11 hF
  refine W.skip fun a ha => hK2 _ _ (W.seq fun K20 hK20 => (W.regionH mixed_ [] hB6 hS7 ?_)) a ha
  intro w21 hb22 hB23 hS24
  have hSW25 := KeepX.refl w21 []
  refine WH.tk 0 rfl hP hSW25 (pr_move rfl rfl (WH.tk 1 rfl hP hSW25 (pr_move rfl rfl ?_)))
  have h26 : x1 ≠ 0 := fun h26 => noneE (ifP h26 hF)
  replace hF := ifNP h26 hF
  refine WH.tk 2 rfl hP hSW25 (pr_rem rfl rfl rfl h26 (WH.tk 3 rfl hP hSW25 (pr_move rfl rfl (WH.tk 4 rfl hP hSW25 (pr_mul rfl rfl rfl (WH.tk 5 rfl hP hSW25 (pr_move rfl rfl (WH.tk 6 rfl hP hSW25 (pr_move rfl rfl ?_)))))))))
  have h27 : x3 ≠ 0 := fun h27 => noneE (ifP h27 hF)
  replace hF := ifNP h27 hF
  refine WH.tk 7 rfl hP hSW25 (pr_rem rfl rfl rfl h27 (WH.tk 8 rfl hP hSW25 (pr_move rfl rfl (WH.tk 9 rfl hP hSW25 (pr_mul rfl rfl rfl (WH.tk 10 rfl hP hSW25 (pr_lss rfl rfl rfl (WH.tk 11 rfl hP hSW25 (pr_assign rfl rfl (WH.done (by kernel_rfl) (fun a ha => hK20 _ _ (W.ret ?_) a ha)))))))))))
  have hr := Option.some.inj hF
  subst hr
  exact rets (vs := [(.bool (decide ((w64 ((Int.tmod x0 x1) * x3)) < (w64 ((Int.tmod x2 x3) * x1)))))]) hQ rfl ⟨rv_tmp rfl, trivial⟩ ⟨rfl, hB23⟩
end Go.Proofs.Ytmkignciedkidaa
