/-
  THE WALKS of functions of this seat, by program (gen.py, prune.py).
-/
import Derived.Test.YtmkignciedkidaaWXFnShowsc
set_option linter.unusedSimpArgs false
set_option linter.unusedVariables false
set_option maxRecDepth 100000
set_option maxHeartbeats 1600000
namespace Go.Proofs.Ytmkignciedkidaa
open Go Go.RowKit
theorem C_spec_PublishSheets (w0 : World) (x0 : ((List (List (Int × Int))) × (List Int) × Int × Int)) (v0_0 : Value) (h0_0 : rdS ty_63 (· < w0.heap.size) w0 v0_0 x0.1) (v0_1 : Value) (h0_1 : rdS ty_3 (· < w0.heap.size) w0 v0_1 x0.2.1) (r : ((List (Int × (Int × Int) × (List (Int × (Int × Int))))) × Bool)) (hF : F_spec_PublishSheets x0 = some r) :
  Calls Try.prog 75 [(.agg #[v0_0, v0_1, (.int .i64 x0.2.2.1), (.int .i64 x0.2.2.2)])].toArray w0 fun e w' => ∃ (q0 : Value) (G0 : List Nat), e = .returned (.tuple #[q0, (.bool r.2)]) ∧ Below w0.heap.size w0 w' ∧ Sep w0.heap.size w' [R.own ty_114 G0 q0 r.1] := by
 refine calls_mk' Try.func75 rfl Try.ntmps75 rfl rfl fun Q hQ hP => ?_
 have hB : Below w0.heap.size w0 w0 := Below.refl _ _
 have hS : Sep w0.heap.size w0 [] := Sep.nil _ _
 unfold F_spec_PublishSheets at hF
 refine W.seq fun K1 hK1 => W.region (wl_box (cs := [v0_0, v0_1, (.int .i64 x0.2.2.1), (.int .i64 x0.2.2.2)]) rfl rfl rfl hB hS ?_)
 intro b2 w3 hb4 hB5 hS6
 refine wl_assign rfl rfl (wl_assign rfl rfl (WL.nil (fun a ha => hK1 _ _ (W.seq fun K7 hK7 => (W.seq fun K8 hK8 => ?_)) a ha)))
 obtain ⟨k13, hk13, hF⟩ := jE1 hF
 have hJ14 : ∀ (y12 : Bool) (w9 : World) (_ : k13 y12 = some r) (_ : Below w0.heap.size w0 w9) (_ : Sep w0.heap.size w9 [R.blk b2 53 [v0_0, v0_1, (.int .i64 x0.2.2.1), (.int .i64 x0.2.2.2)]]), ∀ a, St 34 [(1, (.pointer (some ⟨b2, 0, none⟩))), (14, (.bool y12))] a → K8 a w9 := by
  intro y12 w9 hF hB10 hS11
  subst hk13
  refine fun a ha => hK8 _ _ (W.cond rfl (fun h15 => ?_) (fun h15 => ?_)) a ha
  ·replace hF := ifP h15 hF
   refine W.seq fun K16 hK16 => W.region (wl_assign rfl rfl (wl_assign rfl rfl (WL.nil (fun a ha => hK16 _ _ (W.ret ?_) a ha))))
   have hS17 := hS11.push0 (r := R.own ty_114 [] (.slice none 0 0) []) rfl fun _ => .inl ⟨rfl, rfl, rfl⟩
   have hr := Option.some.inj hF
   subst hr
   exact rets (vs := [(.slice none 0 0), (.bool false)]) hQ rfl ⟨rv_tmp rfl, rv_tmp rfl, trivial⟩ ⟨(.slice none 0 0), [], rfl, hB10, hS17.sel [0] rfl⟩
  ·replace hF := ifN h15 hF
   refine W.skip fun a ha => hK7 _ _ (W.seq fun K18 hK18 => (W.region (wl_assign rfl rfl (WL.nil (fun a ha => hK18 _ _ (W.seq fun K19 hK19 => (W.seq fun K20 hK20 => (W.region (wl_field (o := 0) (off' := 0) ff_53_0 rfl rfl rfl (wl_load_blk (i := 0) (vs := [v0_0]) (v := v0_0) tf_51 rfl rfl hS11 rfl rfl rfl ?_))))) a ha))))) a ha
   obtain ⟨u21, hu21, hF⟩ := bindE hF
   refine wl_index (e := ty_63) Try.underlying51 rfl rfl rfl h0_0 hu21 ?_
   rintro p22 _ ⟨v24, rfl, hv25⟩ hp23
   refine wl_load_p (vs := [v24]) (v := v24) tf_63 rfl rfl (hp23.ro hB10) rfl rfl (wl_lenr (e := ty_68) (l := u21) Try.underlying63 rfl rfl hv25 (wl_move rfl rfl (WL.nil (fun a ha => hK20 _ _ (W.block (W.loopk (fun m a w26 => ∃ (l29 : (List (Int × (Int × Int) × (List (Int × (Int × Int)))))) (y32 : Int) (v30 : Value) (F31 : List Nat), St 34 [(1, (.pointer (some ⟨b2, 0, none⟩))), (4, v30), (19, (.int .i64 (List.length u21 : Int))), (20, (.int .i64 y32))] a ∧ Below w0.heap.size w0 w26 ∧ Sep w0.heap.size w26 [R.blk b2 53 [v0_0, v0_1, (.int .i64 x0.2.2.1), (.int .i64 x0.2.2.2)], R.own ty_114 F31 v30 l29] ∧ F_spec_PublishSheets_L1 u21 x0 m l29 y32 = some r) FU ?_ ?_)) a ha))))
   ·
    have hS34 := hS11.push0 (r := R.own ty_114 [] (.slice none 0 0) []) rfl fun _ => .inl ⟨rfl, rfl, rfl⟩
    exact fun a ha => ⟨[], 0, (.slice none 0 0), [], ha.sub ⟨rfl, rfl, rfl, rfl, trivial⟩, hB10, (hS34.sel [1, 0] rfl), hF⟩
   ·
    rintro m36 a w26 ⟨l29, y32, v30, F31, ha, hB27, hS28, hF⟩ KL35 hKL35
    refine W.at ?_ ha
    cases m36 with
    | zero => exact noneE hF
    | succ m36 =>
     obtain ⟨nx33, hnx33⟩ : ∃ k, k = F_spec_PublishSheets_L1 u21 x0 m36 := ⟨_, rfl⟩
     rw [F_spec_PublishSheets_L1, ← hnx33] at hF
     refine W.seq fun K37 hK37 => W.region (wl_lss rfl rfl rfl (WL.nil (fun a ha => hK37 _ _ (W.seq fun K38 hK38 => (W.cond rfl (fun h39 => ?_) (fun h39 => ?_))) a ha)))
     ·replace hF := ifP h39 hF
      refine W.skip fun a ha => hK38 _ _ (W.seq fun K40 hK40 => (W.block (W.seq fun K41 hK41 => (W.region (wl_move rfl rfl (wl_assign rfl rfl (WL.nil (fun a ha => hK41 _ _ (W.region (wl_move rfl rfl (wl_field (o := 0) (off' := 0) ff_53_0 rfl rfl rfl (wl_load_blk (i := 0) (vs := [v0_0]) (v := v0_0) tf_51 rfl rfl hS28 rfl rfl rfl ?_)))) a ha)))))))) a ha
      refine wl_field (o := 1) (off' := 1) ff_53_1 rfl rfl rfl (wl_load_blk (i := 0) (vs := [v0_1]) (v := v0_1) tf_29 rfl rfl hS28 rfl rfl rfl (wl_move rfl rfl ?_))
      obtain ⟨u42, hu42, hF⟩ := bindE hF
      refine wl_call rfl Try.call187 (C_spec_shOf w26 x0.1 v0_0 (h0_0.ro hB27) x0.2.1 v0_1 (h0_1.ro hB27) y32 _ hu42) rfl ?_
      rintro _ w45 ⟨v43, F44, rfl, hb46, hM49⟩
      refine ⟨_, rfl, ?_⟩
      have hB47 := hB27.trans (hb46.mono hB27.size)
      have hS48 := hS28.join hb46 hM49 hB27.size
      have hq50 := hS48.sel [0, 1, 2] rfl
      have hq51 := hq50.head (r' := R.cel ty_114 F44 [(.int .i64 u42.1), (.int .i64 u42.2.1.1), (.int .i64 u42.2.1.2), v43] u42) (rfl) fun _ h0 => ⟨[(.int .i64 u42.1)], [(.int .i64 u42.2.1.1), (.int .i64 u42.2.1.2), v43], [], F44, rfl, rfl, ⟨rfl, rfl⟩, ⟨[(.int .i64 u42.2.1.1), (.int .i64 u42.2.1.2)], [v43], [], F44, rfl, rfl, ⟨rfl, rfl⟩, ⟨_, rfl, h0⟩⟩⟩
      refine wl_lit1 (e := ty_114) (vs := [(.int .i64 u42.1), (.int .i64 u42.2.1.1), (.int .i64 u42.2.1.2), v43]) Try.underlying91 rfl rfl rfl rfl hB47 hq51 ?_
      intro v52 F53 w54 hb55 hf56 hB57 hS58
      obtain ⟨u59, hu59, hF⟩ := bindE hF
      refine wl_appendn (e := ty_114) Try.underlying91 rfl rfl rfl hB57 (hS58.sel [2, 0, 1] rfl) hu59 ?_
      intro v60 F61 w62 hk63 hB64 hS65
      refine wl_assign rfl rfl (WL.nil (fun a ha => hK40 _ _ (W.region (wl_add rfl rfl rfl (wl_move rfl rfl (WL.nil ?_)))) a ha))
      rw [hnx33] at hF
      exact fun a ha => hKL35 a _ m36 (Nat.lt_succ_self m36) ⟨u59, (w64 (y32 + 1)), v60, F61, ha.sub ⟨rfl, rfl, rfl, rfl, trivial⟩, hB64, (hS65.sel [1, 0] rfl), hF⟩
     ·replace hF := ifN h39 hF
      refine W.exit fun a ha => hK19 _ _ (W.seq fun K66 hK66 => (W.region (wl_move rfl rfl (wl_assign rfl rfl (wl_assign rfl rfl (WL.nil (fun a ha => hK66 _ _ (W.ret ?_) a ha))))))) a ha
      have hr := Option.some.inj hF
      subst hr
      exact rets (vs := [v30, (.bool true)]) hQ rfl ⟨rv_tmp rfl, rv_tmp rfl, trivial⟩ ⟨v30, F31, rfl, hB27, hS28.sel [1] rfl⟩
 refine W.region (wl_load_blk (i := 0) (vs := [v0_0, v0_1, (.int .i64 x0.2.2.1), (.int .i64 x0.2.2.2)]) (v := (.agg #[v0_0, v0_1, (.int .i64 x0.2.2.1), (.int .i64 x0.2.2.2)])) tf_53 rfl rfl hS6 rfl rfl rfl ?_)
 obtain ⟨u67, hu67, hF⟩ := bindE hF
 refine wl_call rfl Try.call145 (C_spec_swGood w3 x0 v0_0 (h0_0.ro hB5) v0_1 (h0_1.ro hB5) _ hu67) rfl ?_
 rintro _ w68 ⟨rfl, hb69⟩
 refine ⟨_, rfl, ?_⟩
 have hB70 := hB5.trans (hb69.mono hB5.size)
 have hS71 := hS6.below hb69
 refine wl_not rfl rfl (wl_move rfl rfl ?_)
 rcases bE (!u67) with h73 | h73
 ·replace hF := ifP h73 hF
  refine wl_off rfl rfl rfl h73 (wl_off rfl rfl rfl h73 (wl_off rfl rfl rfl h73 (wl_off rfl rfl rfl h73 (wl_pick_t rfl rfl h73 rfl (WL.nil ?_)))))
  exact fun a ha => hJ14 (true) _ hF hB70 (hS71.sel [0] rfl) a (ha.sub ⟨rfl, rfl, trivial⟩)
 ·replace hF := ifN h73 hF
  refine wl_on rfl rfl h73 (wl_load_blk (i := 0) (vs := [v0_0, v0_1, (.int .i64 x0.2.2.1), (.int .i64 x0.2.2.2)]) (v := (.agg #[v0_0, v0_1, (.int .i64 x0.2.2.1), (.int .i64 x0.2.2.2)])) tf_53 rfl rfl hS71 rfl rfl rfl (wl_on rfl rfl h73 ?_))
  obtain ⟨u74, hu74, hF⟩ := bindE hF
  refine wl_call rfl Try.call186 (C_spec_swUnsafe w68 x0 v0_0 (h0_0.ro hB70) v0_1 (h0_1.ro hB70) _ hu74) rfl ?_
  rintro _ w77 ⟨v75, F76, rfl, hb78, hM81⟩
  refine ⟨_, rfl, ?_⟩
  have hB79 := hB70.trans (hb78.mono hB70.size)
  have hS80 := hS71.join hb78 hM81 hB70.size
  refine wl_on rfl rfl h73 (wl_lenr (e := ty_3) (l := u74) Try.underlying29 rfl rfl (hS80.own_ro (i := 0) rfl) (wl_on rfl rfl h73 (wl_gtr rfl rfl rfl (wl_pick_f rfl rfl h73 rfl (WL.nil ?_)))))
  exact fun a ha => hJ14 ((decide (0 < (List.length u74 : Int)))) _ hF hB79 (hS80.sel [1] rfl) a (ha.sub ⟨rfl, rfl, trivial⟩)
theorem C_impl_UnsafeParts (w0 : World) (x0 : ((List (List (Int × Int))) × (List Int) × Int × Int)) (v0_0 : Value) (h0_0 : rdS ty_63 (· < w0.heap.size) w0 v0_0 x0.1) (v0_1 : Value) (h0_1 : rdS ty_3 (· < w0.heap.size) w0 v0_1 x0.2.1) (r : ((List Int) × Bool)) (hF : F_impl_UnsafeParts x0 = some r) :
  Calls Try.prog 76 [(.agg #[v0_0, v0_1, (.int .i64 x0.2.2.1), (.int .i64 x0.2.2.2)])].toArray w0 fun e w' => ∃ (q0 : Value) (G0 : List Nat), e = .returned (.tuple #[q0, (.bool r.2)]) ∧ Below w0.heap.size w0 w' ∧ Sep w0.heap.size w' [R.own ty_3 G0 q0 r.1] := by
 refine calls_mk' Try.func76 rfl Try.ntmps76 rfl rfl fun Q hQ hP => ?_
 have hB : Below w0.heap.size w0 w0 := Below.refl _ _
 have hS : Sep w0.heap.size w0 [] := Sep.nil _ _
 unfold F_impl_UnsafeParts at hF
 refine W.seq fun K1 hK1 => W.region (wl_box (cs := [v0_0, v0_1, (.int .i64 x0.2.2.1), (.int .i64 x0.2.2.2)]) rfl rfl rfl hB hS ?_)
 intro b2 w3 hb4 hB5 hS6
 refine wl_assign rfl rfl (wl_assign rfl rfl (WL.nil (fun a ha => hK1 _ _ (W.seq fun K7 hK7 => (W.seq fun K8 hK8 => (W.region (wl_load_blk (i := 0) (vs := [v0_0, v0_1, (.int .i64 x0.2.2.1), (.int .i64 x0.2.2.2)]) (v := (.agg #[v0_0, v0_1, (.int .i64 x0.2.2.1), (.int .i64 x0.2.2.2)])) tf_53 rfl rfl hS6 rfl rfl rfl ?_)))) a ha)))
 obtain ⟨u9, hu9, hF⟩ := bindE hF
 refine wl_call rfl Try.call60 (C_impl_IsShow w3 x0 v0_0 (h0_0.ro hB5) v0_1 (h0_1.ro hB5) _ hu9) rfl ?_
 rintro _ w10 ⟨rfl, hb11⟩
 refine ⟨_, rfl, ?_⟩
 have hB12 := hB5.trans (hb11.mono hB5.size)
 have hS13 := hS6.below hb11
 refine wl_not rfl rfl (WL.nil (fun a ha => hK8 _ _ (W.cond rfl (fun h15 => ?_) (fun h15 => ?_)) a ha))
 ·replace hF := ifP h15 hF
  refine W.seq fun K16 hK16 => W.region (wl_assign rfl rfl (wl_assign rfl rfl (WL.nil (fun a ha => hK16 _ _ (W.ret ?_) a ha))))
  have hS17 := hS13.push0 (r := R.own ty_3 [] (.slice none 0 0) []) rfl fun _ => .inl ⟨rfl, rfl, rfl⟩
  have hr := Option.some.inj hF
  subst hr
  exact rets (vs := [(.slice none 0 0), (.bool false)]) hQ rfl ⟨rv_tmp rfl, rv_tmp rfl, trivial⟩ ⟨(.slice none 0 0), [], rfl, hB12, hS17.sel [0] rfl⟩
 ·replace hF := ifN h15 hF
  refine W.skip fun a ha => hK7 _ _ (W.seq fun K18 hK18 => (W.region (wl_load_blk (i := 0) (vs := [v0_0, v0_1, (.int .i64 x0.2.2.1), (.int .i64 x0.2.2.2)]) (v := (.agg #[v0_0, v0_1, (.int .i64 x0.2.2.1), (.int .i64 x0.2.2.2)])) tf_53 rfl rfl hS13 rfl rfl rfl ?_))) a ha
  obtain ⟨u19, hu19, hF⟩ := bindE hF
  refine wl_call rfl Try.call184 (C_impl_unsafParts w10 x0 v0_0 (h0_0.ro hB12) v0_1 (h0_1.ro hB12) _ hu19) rfl ?_
  rintro _ w22 ⟨v20, F21, rfl, hb23, hM26⟩
  refine ⟨_, rfl, ?_⟩
  have hB24 := hB12.trans (hb23.mono hB12.size)
  have hS25 := hS13.join hb23 hM26 hB12.size
  refine wl_assign rfl rfl (wl_assign rfl rfl (WL.nil (fun a ha => hK18 _ _ (W.ret ?_) a ha)))
  have hr := Option.some.inj hF
  subst hr
  exact rets (vs := [v20, (.bool true)]) hQ rfl ⟨rv_tmp rfl, rv_tmp rfl, trivial⟩ ⟨v20, F21, rfl, hB24, hS25.sel [0] rfl⟩
theorem C_impl_CanPublish (w0 : World) (x0 : ((List (List (Int × Int))) × (List Int) × Int × Int)) (v0_0 : Value) (h0_0 : rdS ty_63 (· < w0.heap.size) w0 v0_0 x0.1) (v0_1 : Value) (h0_1 : rdS ty_3 (· < w0.heap.size) w0 v0_1 x0.2.1) (r : (Bool × Bool)) (hF : F_impl_CanPublish x0 = some r) :
  Calls Try.prog 78 [(.agg #[v0_0, v0_1, (.int .i64 x0.2.2.1), (.int .i64 x0.2.2.2)])].toArray w0 fun e w' => e = .returned (.tuple #[(.bool r.1), (.bool r.2)]) ∧ Below w0.heap.size w0 w' := by
 refine calls_mk' Try.func78 rfl Try.ntmps78 rfl rfl fun Q hQ hP => ?_
 have hB : Below w0.heap.size w0 w0 := Below.refl _ _
 have hS : Sep w0.heap.size w0 [] := Sep.nil _ _
 unfold F_impl_CanPublish at hF
 refine W.seq fun K1 hK1 => W.region (wl_box (cs := [v0_0, v0_1, (.int .i64 x0.2.2.1), (.int .i64 x0.2.2.2)]) rfl rfl rfl hB hS ?_)
 intro b2 w3 hb4 hB5 hS6
 refine wl_assign rfl rfl (wl_assign rfl rfl (WL.nil (fun a ha => hK1 _ _ (W.seq fun K7 hK7 => (W.seq fun K8 hK8 => (W.region (wl_load_blk (i := 0) (vs := [v0_0, v0_1, (.int .i64 x0.2.2.1), (.int .i64 x0.2.2.2)]) (v := (.agg #[v0_0, v0_1, (.int .i64 x0.2.2.1), (.int .i64 x0.2.2.2)])) tf_53 rfl rfl hS6 rfl rfl rfl ?_)))) a ha)))
 obtain ⟨u9, hu9, hF⟩ := bindE hF
 refine wl_call rfl Try.call60 (C_impl_IsShow w3 x0 v0_0 (h0_0.ro hB5) v0_1 (h0_1.ro hB5) _ hu9) rfl ?_
 rintro _ w10 ⟨rfl, hb11⟩
 refine ⟨_, rfl, ?_⟩
 have hB12 := hB5.trans (hb11.mono hB5.size)
 have hS13 := hS6.below hb11
 refine wl_not rfl rfl (WL.nil (fun a ha => hK8 _ _ (W.cond rfl (fun h15 => ?_) (fun h15 => ?_)) a ha))
 ·replace hF := ifP h15 hF
  refine W.seq fun K16 hK16 => W.region (wl_assign rfl rfl (wl_assign rfl rfl (WL.nil (fun a ha => hK16 _ _ (W.ret ?_) a ha))))
  have hr := Option.some.inj hF
  subst hr
  exact rets (vs := [(.bool false), (.bool false)]) hQ rfl ⟨rv_tmp rfl, rv_tmp rfl, trivial⟩ ⟨rfl, hB12⟩
 ·replace hF := ifN h15 hF
  refine W.skip fun a ha => hK7 _ _ (W.seq fun K17 hK17 => (W.region (wl_load_blk (i := 0) (vs := [v0_0, v0_1, (.int .i64 x0.2.2.1), (.int .i64 x0.2.2.2)]) (v := (.agg #[v0_0, v0_1, (.int .i64 x0.2.2.1), (.int .i64 x0.2.2.2)])) tf_53 rfl rfl hS13 rfl rfl rfl ?_))) a ha
  obtain ⟨u18, hu18, hF⟩ := bindE hF
  refine wl_call rfl Try.call184 (C_impl_unsafParts w10 x0 v0_0 (h0_0.ro hB12) v0_1 (h0_1.ro hB12) _ hu18) rfl ?_
  rintro _ w21 ⟨v19, F20, rfl, hb22, hM25⟩
  refine ⟨_, rfl, ?_⟩
  have hB23 := hB12.trans (hb22.mono hB12.size)
  have hS24 := hS13.join hb22 hM25 hB12.size
  refine wl_lenr (e := ty_3) (l := u18) Try.underlying29 rfl rfl (hS24.own_ro (i := 0) rfl) (wl_eql rfl rfl rfl (wl_assign rfl rfl (wl_assign rfl rfl (WL.nil (fun a ha => hK17 _ _ (W.ret ?_) a ha)))))
  have hr := Option.some.inj hF
  subst hr
  exact rets (vs := [(.bool ((List.length u18 : Int) == 0)), (.bool true)]) hQ rfl ⟨rv_tmp rfl, rv_tmp rfl, trivial⟩ ⟨rfl, hB23⟩
theorem C_spec_CanPublish (w0 : World) (x0 : ((List (List (Int × Int))) × (List Int) × Int × Int)) (v0_0 : Value) (h0_0 : rdS ty_63 (· < w0.heap.size) w0 v0_0 x0.1) (v0_1 : Value) (h0_1 : rdS ty_3 (· < w0.heap.size) w0 v0_1 x0.2.1) (r : (Bool × Bool)) (hF : F_spec_CanPublish x0 = some r) :
  Calls Try.prog 79 [(.agg #[v0_0, v0_1, (.int .i64 x0.2.2.1), (.int .i64 x0.2.2.2)])].toArray w0 fun e w' => e = .returned (.tuple #[(.bool r.1), (.bool r.2)]) ∧ Below w0.heap.size w0 w' := by
 refine calls_mk' Try.func79 rfl Try.ntmps79 rfl rfl fun Q hQ hP => ?_
 have hB : Below w0.heap.size w0 w0 := Below.refl _ _
 have hS : Sep w0.heap.size w0 [] := Sep.nil _ _
 unfold F_spec_CanPublish at hF
 refine W.seq fun K1 hK1 => W.region (wl_box (cs := [v0_0, v0_1, (.int .i64 x0.2.2.1), (.int .i64 x0.2.2.2)]) rfl rfl rfl hB hS ?_)
 intro b2 w3 hb4 hB5 hS6
 refine wl_assign rfl rfl (wl_assign rfl rfl (WL.nil (fun a ha => hK1 _ _ (W.seq fun K7 hK7 => (W.seq fun K8 hK8 => (W.region (wl_load_blk (i := 0) (vs := [v0_0, v0_1, (.int .i64 x0.2.2.1), (.int .i64 x0.2.2.2)]) (v := (.agg #[v0_0, v0_1, (.int .i64 x0.2.2.1), (.int .i64 x0.2.2.2)])) tf_53 rfl rfl hS6 rfl rfl rfl ?_)))) a ha)))
 obtain ⟨u9, hu9, hF⟩ := bindE hF
 refine wl_call rfl Try.call145 (C_spec_swGood w3 x0 v0_0 (h0_0.ro hB5) v0_1 (h0_1.ro hB5) _ hu9) rfl ?_
 rintro _ w10 ⟨rfl, hb11⟩
 refine ⟨_, rfl, ?_⟩
 have hB12 := hB5.trans (hb11.mono hB5.size)
 have hS13 := hS6.below hb11
 refine wl_not rfl rfl (WL.nil (fun a ha => hK8 _ _ (W.cond rfl (fun h15 => ?_) (fun h15 => ?_)) a ha))
 ·replace hF := ifP h15 hF
  refine W.seq fun K16 hK16 => W.region (wl_assign rfl rfl (wl_assign rfl rfl (WL.nil (fun a ha => hK16 _ _ (W.ret ?_) a ha))))
  have hr := Option.some.inj hF
  subst hr
  exact rets (vs := [(.bool false), (.bool false)]) hQ rfl ⟨rv_tmp rfl, rv_tmp rfl, trivial⟩ ⟨rfl, hB12⟩
 ·replace hF := ifN h15 hF
  refine W.skip fun a ha => hK7 _ _ (W.seq fun K17 hK17 => (W.region (wl_load_blk (i := 0) (vs := [v0_0, v0_1, (.int .i64 x0.2.2.1), (.int .i64 x0.2.2.2)]) (v := (.agg #[v0_0, v0_1, (.int .i64 x0.2.2.1), (.int .i64 x0.2.2.2)])) tf_53 rfl rfl hS13 rfl rfl rfl ?_))) a ha
  obtain ⟨u18, hu18, hF⟩ := bindE hF
  refine wl_call rfl Try.call186 (C_spec_swUnsafe w10 x0 v0_0 (h0_0.ro hB12) v0_1 (h0_1.ro hB12) _ hu18) rfl ?_
  rintro _ w21 ⟨v19, F20, rfl, hb22, hM25⟩
  refine ⟨_, rfl, ?_⟩
  have hB23 := hB12.trans (hb22.mono hB12.size)
  have hS24 := hS13.join hb22 hM25 hB12.size
  refine wl_lenr (e := ty_3) (l := u18) Try.underlying29 rfl rfl (hS24.own_ro (i := 0) rfl) (wl_eql rfl rfl rfl (wl_assign rfl rfl (wl_assign rfl rfl (WL.nil (fun a ha => hK17 _ _ (W.ret ?_) a ha)))))
  have hr := Option.some.inj hF
  subst hr
  exact rets (vs := [(.bool ((List.length u18 : Int) == 0)), (.bool true)]) hQ rfl ⟨rv_tmp rfl, rv_tmp rfl, trivial⟩ ⟨rfl, hB23⟩
theorem C_slices_Reverse_impl_Spot_impl_Spot__mut__raw (w0 : World) (x0 : (List RawCell)) (v0_0 : Value) (B0_0 : List Nat) (hS0 : Sep 0 w0 [R.own ty_63raw B0_0 v0_0 x0]) (r : (List RawCell)) (hF : F_slices_Reverse_impl_Spot_impl_Spot__mut__raw x0 = some r) :
  Calls Try.prog 189 [v0_0].toArray w0 fun e w' => e = .returned (.tuple #[]) ∧ Below 0 (wE w0) w' ∧ Sep 0 w' [R.rest w0 (fps [R.own ty_63raw B0_0 v0_0 x0]), R.own ty_63raw B0_0 v0_0 r] := by
 refine calls_mkn' Try.func189 rfl Try.ntmps189 rfl rfl fun Q hQn hQ hP => ?_
 have hB : Below (wE w0).heap.size (wE w0) w0 := wE_below w0
 have hS : Sep (wE w0).heap.size w0 [R.rest w0 (fps [R.own ty_63raw B0_0 v0_0 x0]), R.own ty_63raw B0_0 v0_0 x0] := hS0.rest
 unfold F_slices_Reverse_impl_Spot_impl_Spot__mut__raw at hF
 refine W.seq fun K1 hK1 => W.region (wl_move rfl rfl (wl_lenr (e := ty_63raw) (l := x0) Try.underlying51 rfl rfl (hS.own_ro (i := 1) rfl) (wl_sub rfl rfl rfl (wl_assign rfl rfl (wl_assign rfl rfl (WL.nil (fun a ha => hK1 _ _ (W.block (W.loopk (fun m a w2 => ∃ (l5 : (List RawCell)) (y6 : Int) (y7 : Int), St 28 [(0, v0_0), (2, (.int .i64 y6)), (3, (.int .i64 y7))] a ∧ Below (wE w0).heap.size (wE w0) w2 ∧ Sep (wE w0).heap.size w2 [R.rest w0 (fps [R.own ty_63raw B0_0 v0_0 x0]), R.own ty_63raw B0_0 v0_0 l5] ∧ F_slices_Reverse_impl_Spot_impl_Spot__mut__raw_L1 m l5 y6 y7 = some r) FU ?_ ?_)) a ha)))))))
 ·
  exact fun a ha => ⟨x0, 0, (w64 ((List.length x0 : Int) - 1)), ha.sub ⟨rfl, rfl, rfl, trivial⟩, hB, (hS.sel [0, 1] rfl), hF⟩
 ·
  rintro m10 a w2 ⟨l5, y6, y7, ha, hB3, hS4, hF⟩ KL9 hKL9
  refine W.at ?_ ha
  cases m10 with
  | zero => exact noneE hF
  | succ m10 =>
   obtain ⟨nx8, hnx8⟩ : ∃ k, k = F_slices_Reverse_impl_Spot_impl_Spot__mut__raw_L1 m10 := ⟨_, rfl⟩
   rw [F_slices_Reverse_impl_Spot_impl_Spot__mut__raw_L1, ← hnx8] at hF
   refine W.seq fun K11 hK11 => W.seq fun K12 hK12 => W.region (wl_move rfl rfl (wl_move rfl rfl (wl_lss rfl rfl rfl (WL.nil (fun a ha => hK12 _ _ (W.cond rfl (fun h13 => ?_) (fun h13 => ?_)) a ha)))))
   ·replace hF := ifP h13 hF
    refine W.skip fun a ha => hK11 _ _ (W.seq fun K14 hK14 => ?_) a ha
    obtain ⟨k19, hk19, hF⟩ := jE1 hF
    have hJ20 : ∀ (l18 : (List RawCell)) (w15 : World) (_ : k19 l18 = some r) (_ : Below (wE w0).heap.size (wE w0) w15) (_ : Sep (wE w0).heap.size w15 [R.rest w0 (fps [R.own ty_63raw B0_0 v0_0 x0]), R.own ty_63raw B0_0 v0_0 l18]), ∀ a, St 28 [(0, v0_0), (2, (.int .i64 y6)), (3, (.int .i64 y7))] a → K14 a w15 := by
     intro l18 w15 hF hB16 hS17
     subst hk19
     refine fun a ha => hK14 _ _ (W.region (wl_move rfl rfl (wl_add rfl rfl rfl (wl_move rfl rfl (wl_sub rfl rfl rfl (wl_assign rfl rfl (wl_assign rfl rfl (WL.nil ?_)))))))) a ha
     rw [hnx8] at hF
     exact fun a ha => hKL9 a _ m10 (Nat.lt_succ_self m10) ⟨l18, (w64 (y6 + 1)), (w64 (y7 - 1)), ha.sub ⟨rfl, rfl, rfl, trivial⟩, hB16, (hS17.sel [0, 1] rfl), hF⟩
    refine W.block (W.regionH mixed_ B0_0 hB3 hS4 ?_)
    intro w21 hb22 hB23 hS24
    have hSW25 := KeepX.refl w21 B0_0
    refine WH.tk 0 rfl hP hSW25 (pr_move rfl rfl (WH.tk 1 rfl hP hSW25 (pr_move rfl rfl (WH.tk 2 rfl hP hSW25 (pr_move rfl rfl (WH.tk 3 rfl hP hSW25 (pr_move rfl rfl (WH.tk 4 rfl hP hSW25 (pr_move rfl rfl (WH.tk 5 rfl hP hSW25 (pr_move rfl rfl ?_)))))))))))
    obtain ⟨u26, hu26, hF⟩ := bindE hF
    refine WH.tk 6 rfl hP hSW25 (pr_indexo (e := ty_63raw) (i := 1) Try.underlying51 rfl rfl rfl hS24 rfl hu26 ?_)
    rintro p27 _ rfl hp28 ho29
    refine WH.tk 8 rfl hP hSW25 (pr_move rfl rfl (WH.tk 9 rfl hP hSW25 (pr_move rfl rfl ?_)))
    obtain ⟨u30, hu30, hF⟩ := bindE hF
    refine WH.tk 10 rfl hP hSW25 (pr_indexo (e := ty_63raw) (i := 1) Try.underlying51 rfl rfl rfl hS24 rfl hu30 ?_)
    rintro p31 _ rfl hp32 ho33
    refine WH.many (is := [7, 11]) (by kernel_rfl) rfl (List.forall_mem_cons.2 ⟨⟨_, rfl, ?_⟩, List.forall_mem_cons.2 ⟨⟨_, rfl, ?_⟩, fun _ h => by cases h⟩⟩)
    ·
     refine wl_load_p (vs := [u26.1]) (v := u26.1) tf_63 rfl rfl hp28 rfl rfl (WL.nil (WH.ret hSW25 (WH.on1 11 rfl (wl_load_p (vs := [u30.1]) (v := u30.1) tf_63 rfl rfl hp32 rfl rfl (WL.nil (WH.ret hSW25 ?_))))))
     obtain ⟨u34, hu34, hF⟩ := bindE hF
     refine WH.tk 12 rfl hP hSW25 (pr_indexo (e := ty_63raw) (i := 1) Try.underlying51 rfl rfl rfl hS24 rfl hu34 ?_)
     rintro p35 _ rfl hp36 ho37
     refine WH.on1 13 rfl (wl_storeo (i := 1) (o := 0) (vs := [u26.1]) (u' := u26) fl_63raw tf_63 rfl rfl (cells_one u26.2) rfl ho37 hu34 hB23 hS24 rfl rfl ⟨u26.2, trivial⟩ rfl ?_)
     intro w38 hk41 hB39 hS40
     have hSW42 := hSW25.wr' hk41.1 hk41.2.1 (fun _ _ h => h)
     have hbs43 : ∀ b, b < w21.heap.size → b ∈ B0_0 → b ∈ B0_0 := fun b hlt hb => (hk41.2.2 b hb).elim ((fun _ _ h => h) b hlt) (fun h => absurd hlt (Nat.not_lt.2 (Nat.le_trans hSW25.size h)))
     refine WL.nil (WH.ret hSW42 (WH.on1 14 rfl ?_))
     obtain ⟨u44, hu44, hF⟩ := bindE hF
     refine wl_indexo (e := ty_63raw) (i := 1) Try.underlying51 rfl rfl rfl hS40 rfl hu44 ?_
     rintro p45 _ rfl hp46 ho47
     refine WL.nil (WH.ret hSW42 (WH.on1 15 rfl (wl_storeo (i := 1) (o := 0) (vs := [u30.1]) (u' := u30) fl_63raw tf_63 rfl rfl (cells_one u30.2) rfl ho47 hu44 hB39 hS40 rfl rfl ⟨u30.2, trivial⟩ rfl ?_)))
     intro w48 hk51 hB49 hS50
     have hSW52 := hSW42.wr' hk51.1 hk51.2.1 (hbs43)
     refine WL.nil (WH.ret hSW52 (WH.done (by kernel_rfl) ?_))
     exact fun a ha => hJ20 ((seti (seti l5 y6 u26) y7 u30)) _ hF hB49 (hS50.sel [0, 1] rfl) a (ha.sub ⟨rfl, rfl, rfl, trivial⟩)
    ·
     refine wl_load_p (vs := [u30.1]) (v := u30.1) tf_63 rfl rfl hp32 rfl rfl (WL.nil (WH.ret hSW25 (WH.on1 7 rfl (wl_load_p (vs := [u26.1]) (v := u26.1) tf_63 rfl rfl hp28 rfl rfl (WL.nil (WH.ret hSW25 ?_))))))
     obtain ⟨u54, hu54, hF⟩ := bindE hF
     refine WH.tk 12 rfl hP hSW25 (pr_indexo (e := ty_63raw) (i := 1) Try.underlying51 rfl rfl rfl hS24 rfl hu54 ?_)
     rintro p55 _ rfl hp56 ho57
     refine WH.on1 13 rfl (wl_storeo (i := 1) (o := 0) (vs := [u26.1]) (u' := u26) fl_63raw tf_63 rfl rfl (cells_one u26.2) rfl ho57 hu54 hB23 hS24 rfl rfl ⟨u26.2, trivial⟩ rfl ?_)
     intro w58 hk61 hB59 hS60
     have hSW62 := hSW25.wr' hk61.1 hk61.2.1 (fun _ _ h => h)
     have hbs63 : ∀ b, b < w21.heap.size → b ∈ B0_0 → b ∈ B0_0 := fun b hlt hb => (hk61.2.2 b hb).elim ((fun _ _ h => h) b hlt) (fun h => absurd hlt (Nat.not_lt.2 (Nat.le_trans hSW25.size h)))
     refine WL.nil (WH.ret hSW62 (WH.on1 14 rfl ?_))
     obtain ⟨u64, hu64, hF⟩ := bindE hF
     refine wl_indexo (e := ty_63raw) (i := 1) Try.underlying51 rfl rfl rfl hS60 rfl hu64 ?_
     rintro p65 _ rfl hp66 ho67
     refine WL.nil (WH.ret hSW62 (WH.on1 15 rfl (wl_storeo (i := 1) (o := 0) (vs := [u30.1]) (u' := u30) fl_63raw tf_63 rfl rfl (cells_one u30.2) rfl ho67 hu64 hB59 hS60 rfl rfl ⟨u30.2, trivial⟩ rfl ?_)))
     intro w68 hk71 hB69 hS70
     have hSW72 := hSW62.wr' hk71.1 hk71.2.1 (hbs63)
     refine WL.nil (WH.ret hSW72 (WH.done (by kernel_rfl) ?_))
     exact fun a ha => hJ20 ((seti (seti l5 y6 u26) y7 u30)) _ hF hB69 (hS70.sel [0, 1] rfl) a (ha.sub ⟨rfl, rfl, rfl, trivial⟩)
   ·replace hF := ifN h13 hF
    refine W.exit ?_
    have hr := Option.some.inj hF
    subst hr
    exact retsn (vs := []) hQn rfl trivial ⟨rfl, hB3, hS4.sel [0, 1] rfl⟩
theorem rev_F_slices_Reverse_impl_Spot_impl_Spot__mut__raw (x0 : List RawCell) (h : x0.length ≤ 9223372036854775807) : F_slices_Reverse_impl_Spot_impl_Spot__mut__raw x0 = some x0.reverse := by
 unfold F_slices_Reverse_impl_Spot_impl_Spot__mut__raw
 exact rev_raw F_slices_Reverse_impl_Spot_impl_Spot__mut__raw_L1 x0 h (fun m l y z => by rw [F_slices_Reverse_impl_Spot_impl_Spot__mut__raw_L1]; rfl)
theorem C_slices_Reverse_int_int__mut (w0 : World) (x0 : (List Int)) (v0_0 : Value) (B0_0 : List Nat) (hS0 : Sep 0 w0 [R.own ty_3 B0_0 v0_0 x0]) (r : (List Int)) (hF : F_slices_Reverse_int_int__mut x0 = some r) :
  Calls Try.prog 190 [v0_0].toArray w0 fun e w' => e = .returned (.tuple #[]) ∧ Below 0 (wE w0) w' ∧ Sep 0 w' [R.rest w0 (fps [R.own ty_3 B0_0 v0_0 x0]), R.own ty_3 B0_0 v0_0 r] := by
 refine calls_mkn' Try.func190 rfl Try.ntmps190 rfl rfl fun Q hQn hQ hP => ?_
 have hB : Below (wE w0).heap.size (wE w0) w0 := wE_below w0
 have hS : Sep (wE w0).heap.size w0 [R.rest w0 (fps [R.own ty_3 B0_0 v0_0 x0]), R.own ty_3 B0_0 v0_0 x0] := hS0.rest
 unfold F_slices_Reverse_int_int__mut at hF
 refine W.seq fun K1 hK1 => W.region (wl_move rfl rfl (wl_lenr (e := ty_3) (l := x0) Try.underlying29 rfl rfl (hS.own_ro (i := 1) rfl) (wl_sub rfl rfl rfl (wl_assign rfl rfl (wl_assign rfl rfl (WL.nil (fun a ha => hK1 _ _ (W.block (W.loopk (fun m a w2 => ∃ (l5 : (List Int)) (y6 : Int) (y7 : Int), St 28 [(0, v0_0), (2, (.int .i64 y6)), (3, (.int .i64 y7))] a ∧ Below (wE w0).heap.size (wE w0) w2 ∧ Sep (wE w0).heap.size w2 [R.rest w0 (fps [R.own ty_3 B0_0 v0_0 x0]), R.own ty_3 B0_0 v0_0 l5] ∧ F_slices_Reverse_int_int__mut_L1 m l5 y6 y7 = some r) FU ?_ ?_)) a ha)))))))
 ·
  exact fun a ha => ⟨x0, 0, (w64 ((List.length x0 : Int) - 1)), ha.sub ⟨rfl, rfl, rfl, trivial⟩, hB, (hS.sel [0, 1] rfl), hF⟩
 ·
  rintro m10 a w2 ⟨l5, y6, y7, ha, hB3, hS4, hF⟩ KL9 hKL9
  refine W.at ?_ ha
  cases m10 with
  | zero => exact noneE hF
  | succ m10 =>
   obtain ⟨nx8, hnx8⟩ : ∃ k, k = F_slices_Reverse_int_int__mut_L1 m10 := ⟨_, rfl⟩
   rw [F_slices_Reverse_int_int__mut_L1, ← hnx8] at hF
   refine W.seq fun K11 hK11 => W.seq fun K12 hK12 => W.region (wl_move rfl rfl (wl_move rfl rfl (wl_lss rfl rfl rfl (WL.nil (fun a ha => hK12 _ _ (W.cond rfl (fun h13 => ?_) (fun h13 => ?_)) a ha)))))
   ·replace hF := ifP h13 hF
    refine W.skip fun a ha => hK11 _ _ (W.seq fun K14 hK14 => ?_) a ha
    obtain ⟨k19, hk19, hF⟩ := jE1 hF
    have hJ20 : ∀ (l18 : (List Int)) (w15 : World) (_ : k19 l18 = some r) (_ : Below (wE w0).heap.size (wE w0) w15) (_ : Sep (wE w0).heap.size w15 [R.rest w0 (fps [R.own ty_3 B0_0 v0_0 x0]), R.own ty_3 B0_0 v0_0 l18]), ∀ a, St 28 [(0, v0_0), (2, (.int .i64 y6)), (3, (.int .i64 y7))] a → K14 a w15 := by
     intro l18 w15 hF hB16 hS17
     subst hk19
     refine fun a ha => hK14 _ _ (W.region (wl_move rfl rfl (wl_add rfl rfl rfl (wl_move rfl rfl (wl_sub rfl rfl rfl (wl_assign rfl rfl (wl_assign rfl rfl (WL.nil ?_)))))))) a ha
     rw [hnx8] at hF
     exact fun a ha => hKL9 a _ m10 (Nat.lt_succ_self m10) ⟨l18, (w64 (y6 + 1)), (w64 (y7 - 1)), ha.sub ⟨rfl, rfl, rfl, trivial⟩, hB16, (hS17.sel [0, 1] rfl), hF⟩
    refine W.block (W.regionH mixed_ B0_0 hB3 hS4 ?_)
    intro w21 hb22 hB23 hS24
    have hSW25 := KeepX.refl w21 B0_0
    refine WH.tk 0 rfl hP hSW25 (pr_move rfl rfl (WH.tk 1 rfl hP hSW25 (pr_move rfl rfl (WH.tk 2 rfl hP hSW25 (pr_move rfl rfl (WH.tk 3 rfl hP hSW25 (pr_move rfl rfl (WH.tk 4 rfl hP hSW25 (pr_move rfl rfl (WH.tk 5 rfl hP hSW25 (pr_move rfl rfl ?_)))))))))))
    obtain ⟨u26, hu26, hF⟩ := bindE hF
    refine WH.tk 6 rfl hP hSW25 (pr_indexo (e := ty_3) (i := 1) Try.underlying29 rfl rfl rfl hS24 rfl hu26 ?_)
    rintro p27 _ rfl hp28 ho29
    refine WH.tk 8 rfl hP hSW25 (pr_move rfl rfl (WH.tk 9 rfl hP hSW25 (pr_move rfl rfl ?_)))
    obtain ⟨u30, hu30, hF⟩ := bindE hF
    refine WH.tk 10 rfl hP hSW25 (pr_indexo (e := ty_3) (i := 1) Try.underlying29 rfl rfl rfl hS24 rfl hu30 ?_)
    rintro p31 _ rfl hp32 ho33
    refine WH.many (is := [7, 11]) (by kernel_rfl) rfl (List.forall_mem_cons.2 ⟨⟨_, rfl, ?_⟩, List.forall_mem_cons.2 ⟨⟨_, rfl, ?_⟩, fun _ h => by cases h⟩⟩)
    ·
     refine wl_load_p (vs := [(.int .i64 u26)]) (v := (.int .i64 u26)) tf_3 rfl rfl hp28 rfl rfl (WL.nil (WH.ret hSW25 (WH.on1 11 rfl (wl_load_p (vs := [(.int .i64 u30)]) (v := (.int .i64 u30)) tf_3 rfl rfl hp32 rfl rfl (WL.nil (WH.ret hSW25 ?_))))))
     obtain ⟨u34, hu34, hF⟩ := bindE hF
     refine WH.tk 12 rfl hP hSW25 (pr_indexo (e := ty_3) (i := 1) Try.underlying29 rfl rfl rfl hS24 rfl hu34 ?_)
     rintro p35 _ rfl hp36 ho37
     refine WH.on1 13 rfl (wl_storeo (i := 1) (o := 0) (vs := [(.int .i64 u26)]) (u' := u26) fl_3 tf_3 rfl rfl rfl rfl ho37 hu34 hB23 hS24 rfl rfl ⟨rfl, trivial⟩ rfl ?_)
     intro w38 hk41 hB39 hS40
     have hSW42 := hSW25.wr' hk41.1 hk41.2.1 (fun _ _ h => h)
     have hbs43 : ∀ b, b < w21.heap.size → b ∈ B0_0 → b ∈ B0_0 := fun b hlt hb => (hk41.2.2 b hb).elim ((fun _ _ h => h) b hlt) (fun h => absurd hlt (Nat.not_lt.2 (Nat.le_trans hSW25.size h)))
     refine WL.nil (WH.ret hSW42 (WH.on1 14 rfl ?_))
     obtain ⟨u44, hu44, hF⟩ := bindE hF
     refine wl_indexo (e := ty_3) (i := 1) Try.underlying29 rfl rfl rfl hS40 rfl hu44 ?_
     rintro p45 _ rfl hp46 ho47
     refine WL.nil (WH.ret hSW42 (WH.on1 15 rfl (wl_storeo (i := 1) (o := 0) (vs := [(.int .i64 u30)]) (u' := u30) fl_3 tf_3 rfl rfl rfl rfl ho47 hu44 hB39 hS40 rfl rfl ⟨rfl, trivial⟩ rfl ?_)))
     intro w48 hk51 hB49 hS50
     have hSW52 := hSW42.wr' hk51.1 hk51.2.1 (hbs43)
     refine WL.nil (WH.ret hSW52 (WH.done (by kernel_rfl) ?_))
     exact fun a ha => hJ20 ((seti (seti l5 y6 u26) y7 u30)) _ hF hB49 (hS50.sel [0, 1] rfl) a (ha.sub ⟨rfl, rfl, rfl, trivial⟩)
    ·
     refine wl_load_p (vs := [(.int .i64 u30)]) (v := (.int .i64 u30)) tf_3 rfl rfl hp32 rfl rfl (WL.nil (WH.ret hSW25 (WH.on1 7 rfl (wl_load_p (vs := [(.int .i64 u26)]) (v := (.int .i64 u26)) tf_3 rfl rfl hp28 rfl rfl (WL.nil (WH.ret hSW25 ?_))))))
     obtain ⟨u54, hu54, hF⟩ := bindE hF
     refine WH.tk 12 rfl hP hSW25 (pr_indexo (e := ty_3) (i := 1) Try.underlying29 rfl rfl rfl hS24 rfl hu54 ?_)
     rintro p55 _ rfl hp56 ho57
     refine WH.on1 13 rfl (wl_storeo (i := 1) (o := 0) (vs := [(.int .i64 u26)]) (u' := u26) fl_3 tf_3 rfl rfl rfl rfl ho57 hu54 hB23 hS24 rfl rfl ⟨rfl, trivial⟩ rfl ?_)
     intro w58 hk61 hB59 hS60
     have hSW62 := hSW25.wr' hk61.1 hk61.2.1 (fun _ _ h => h)
     have hbs63 : ∀ b, b < w21.heap.size → b ∈ B0_0 → b ∈ B0_0 := fun b hlt hb => (hk61.2.2 b hb).elim ((fun _ _ h => h) b hlt) (fun h => absurd hlt (Nat.not_lt.2 (Nat.le_trans hSW25.size h)))
     refine WL.nil (WH.ret hSW62 (WH.on1 14 rfl ?_))
     obtain ⟨u64, hu64, hF⟩ := bindE hF
     refine wl_indexo (e := ty_3) (i := 1) Try.underlying29 rfl rfl rfl hS60 rfl hu64 ?_
     rintro p65 _ rfl hp66 ho67
     refine WL.nil (WH.ret hSW62 (WH.on1 15 rfl (wl_storeo (i := 1) (o := 0) (vs := [(.int .i64 u30)]) (u' := u30) fl_3 tf_3 rfl rfl rfl rfl ho67 hu64 hB59 hS60 rfl rfl ⟨rfl, trivial⟩ rfl ?_)))
     intro w68 hk71 hB69 hS70
     have hSW72 := hSW62.wr' hk71.1 hk71.2.1 (hbs63)
     refine WL.nil (WH.ret hSW72 (WH.done (by kernel_rfl) ?_))
     exact fun a ha => hJ20 ((seti (seti l5 y6 u26) y7 u30)) _ hF hB69 (hS70.sel [0, 1] rfl) a (ha.sub ⟨rfl, rfl, rfl, trivial⟩)
   ·replace hF := ifN h13 hF
    refine W.exit ?_
    have hr := Option.some.inj hF
    subst hr
    exact retsn (vs := []) hQn rfl trivial ⟨rfl, hB3, hS4.sel [0, 1] rfl⟩
theorem C_impl_ReverseShow (w0 : World) (x0 : ((List (List (Int × Int))) × (List Int) × Int × Int)) (v0_0 : Value) (h0_0 : rdS ty_63 (· < w0.heap.size) w0 v0_0 x0.1) (v0_1 : Value) (h0_1 : rdS ty_3 (· < w0.heap.size) w0 v0_1 x0.2.1) (r : (((List (List (Int × Int))) × (List Int) × Int × Int) × Bool)) (hF : F_impl_ReverseShow x0 = some r) :
  Calls Try.prog 81 [(.agg #[v0_0, v0_1, (.int .i64 x0.2.2.1), (.int .i64 x0.2.2.2)])].toArray w0 fun e w' => ∃ (q0 : Value) (G0 : List Nat) (q1 : Value) (G1 : List Nat), e = .returned (.tuple #[(.agg #[q0, q1, (.int .i64 r.1.2.2.1), (.int .i64 r.1.2.2.2)]), (.bool r.2)]) ∧ Below w0.heap.size w0 w' ∧ Sep w0.heap.size w' [R.own ty_63 G0 q0 r.1.1, R.own ty_3 G1 q1 r.1.2.1] := by
 refine calls_mk' Try.func81 rfl Try.ntmps81 rfl rfl fun Q hQ hP => ?_
 have hB : Below w0.heap.size w0 w0 := Below.refl _ _
 have hS : Sep w0.heap.size w0 [] := Sep.nil _ _
 unfold F_impl_ReverseShow at hF
 refine W.seq fun K1 hK1 => W.region (wl_box (cs := [v0_0, v0_1, (.int .i64 x0.2.2.1), (.int .i64 x0.2.2.2)]) rfl rfl rfl hB hS ?_)
 intro b2 w3 hb4 hB5 hS6
 refine wl_alloc (cs := [(.slice none 0 0), (.slice none 0 0), (.int .i64 0), (.int .i64 0)]) tf_53 rfl rfl hB5 hS6 ?_
 intro b7 w8 hb9 hB10 hS11
 refine wl_assign rfl rfl (WL.nil (fun a ha => hK1 _ _ (W.seq fun K12 hK12 => (W.seq fun K13 hK13 => (W.region (wl_load_blk (i := 1) (vs := [v0_0, v0_1, (.int .i64 x0.2.2.1), (.int .i64 x0.2.2.2)]) (v := (.agg #[v0_0, v0_1, (.int .i64 x0.2.2.1), (.int .i64 x0.2.2.2)])) tf_53 rfl rfl hS11 rfl rfl rfl ?_)))) a ha))
 obtain ⟨u14, hu14, hF⟩ := bindE hF
 refine wl_call rfl Try.call60 (C_impl_IsShow w8 x0 v0_0 (h0_0.ro hB10) v0_1 (h0_1.ro hB10) _ hu14) rfl ?_
 rintro _ w15 ⟨rfl, hb16⟩
 refine ⟨_, rfl, ?_⟩
 have hB17 := hB10.trans (hb16.mono hB10.size)
 have hS18 := hS11.below hb16
 refine wl_not rfl rfl (WL.nil (fun a ha => hK13 _ _ (W.cond rfl (fun h20 => ?_) (fun h20 => ?_)) a ha))
 ·replace hF := ifP h20 hF
  refine W.seq fun K21 hK21 => W.region (wl_build (zs := [(.slice none 0 0), (.slice none 0 0), (.int .i64 0), (.int .i64 0)]) (out := [(.slice none 0 0), (.slice none 0 0), (.int .i64 0), (.int .i64 0)]) (vs := []) (css := []) tf_53 pl_53 rfl rfl rfl rfl rfl (wl_store_blk (i := 0) (vs := [(.slice none 0 0), (.slice none 0 0), (.int .i64 0), (.int .i64 0)]) (cs' := [(.slice none 0 0), (.slice none 0 0), (.int .i64 0), (.int .i64 0)]) tf_53 rfl rfl rfl rfl hB17 hS18 rfl rfl ⟨rfl, rfl, rfl, rfl, trivial⟩ rfl ?_))
  intro w22 hk25 hB23 hS24
  refine wl_assign rfl rfl (WL.nil (fun a ha => hK21 _ _ (W.ret ?_) a ha))
  have hS26 := hS24.push0 (r := R.own ty_63 [] (.slice none 0 0) []) rfl fun _ => .inl ⟨rfl, rfl, rfl⟩
  have hS27 := hS26.push0 (r := R.own ty_3 [] (.slice none 0 0) []) rfl fun _ => .inl ⟨rfl, rfl, rfl⟩
  have hr := Option.some.inj hF
  subst hr
  exact rets (vs := [(.agg #[(.slice none 0 0), (.slice none 0 0), (.int .i64 0), (.int .i64 0)]), (.bool false)]) hQ rfl ⟨rv_cell (i := 0) tf_53 rfl hS24 rfl rfl rfl, rv_tmp rfl, trivial⟩ ⟨(.slice none 0 0), [], (.slice none 0 0), [], rfl, hB23, hS27.sel [1, 0] rfl⟩
 ·replace hF := ifN h20 hF
  refine W.skip fun a ha => hK12 _ _ (W.seq fun K28 hK28 => (W.region (wl_load_blk (i := 1) (vs := [v0_0, v0_1, (.int .i64 x0.2.2.1), (.int .i64 x0.2.2.2)]) (v := (.agg #[v0_0, v0_1, (.int .i64 x0.2.2.1), (.int .i64 x0.2.2.2)])) tf_53 rfl rfl hS18 rfl rfl rfl ?_))) a ha
  obtain ⟨u29, hu29, hF⟩ := bindE hF
  refine wl_call rfl Try.call168 (C_impl_copyShow w15 x0 v0_0 (h0_0.ro hB17) v0_1 (h0_1.ro hB17) _ hu29) rfl ?_
  rintro _ w34 ⟨v30, F31, v32, F33, rfl, hb35, hM38⟩
  refine ⟨_, rfl, ?_⟩
  have hB36 := hB17.trans (hb35.mono hB17.size)
  have hS37 := hS18.join hb35 hM38 hB17.size
  refine wl_alloc (cs := [(.slice none 0 0), (.slice none 0 0), (.int .i64 0), (.int .i64 0)]) tf_53 rfl rfl hB36 hS37 ?_
  intro b39 w40 hb41 hB42 hS43
  refine wl_store_blk (i := 0) (vs := [v30, v32, (.int .i64 u29.2.2.1), (.int .i64 u29.2.2.2)]) (cs' := [v30, v32, (.int .i64 u29.2.2.1), (.int .i64 u29.2.2.2)]) tf_53 rfl rfl rfl rfl hB42 hS43 rfl rfl ⟨(hS43.own_ro (i := 1) rfl).one, (hS43.own_ro (i := 2) rfl).one, rfl, rfl, trivial⟩ rfl ?_
  intro w44 hk47 hB45 hS46
  refine WL.nil fun a ha => hK28 _ _ (W.seq fun K48 hK48 => (W.region (wl_field (o := 0) (off' := 0) ff_53_0 rfl rfl rfl (wl_load_blk (i := 0) (vs := [v30]) (v := v30) tf_51 rfl rfl hS46 rfl rfl rfl ?_)))) a ha
  obtain ⟨F49, l50, F51, hq52, hq53, hq54, hq55⟩ := Sep.toRaw (e := ty_63) (er := ty_63raw) fl_63raw rfl rfl rfl (hS46.sel [1, 0, 2, 3, 4] rfl)
  have hq56 := rev_F_slices_Reverse_impl_Spot_impl_Spot__mut__raw l50 (by rw [hq52]; exact Nat.le_trans hq53 (by decide))
  refine wl_call rfl Try.call189 (C_slices_Reverse_impl_Spot_impl_Spot__mut__raw w44 l50 v30 F49 (hq54.sel [0] rfl).base0 _ hq56) rfl ?_
  rintro _ w57 ⟨rfl, hE58, hM59⟩
  refine ⟨_, rfl, ?_⟩
  have hB60 := hq54.mutB [0] rfl (M := [R.own ty_63raw F49 v30 l50]) rfl (M' := [R.own ty_63raw F49 v30 (List.reverse l50)]) rfl hB45 hB45.size hE58 hM59
  have hS61 : Sep w0.heap.size w57 ([R.own ty_63raw F49 v30 (List.reverse l50)] ++ F51 :: [R.blk b39 53 [v30, v32, (.int .i64 u29.2.2.1), (.int .i64 u29.2.2.2)], R.own ty_3 F33 v32 u29.2.1, R.blk b7 53 [(.slice none 0 0), (.slice none 0 0), (.int .i64 0), (.int .i64 0)], R.blk b2 53 [v0_0, v0_1, (.int .i64 x0.2.2.1), (.int .i64 x0.2.2.2)]]) := hq54.mut [0] [1, 2, 3, 4, 5] rfl (M := [R.own ty_63raw F49 v30 l50]) rfl (M' := [R.own ty_63raw F49 v30 (List.reverse l50)]) rfl hM59
  obtain ⟨F63, hS62⟩ := hq55 hS61
  refine WL.nil fun a ha => hK48 _ _ (W.seq fun K64 hK64 => (W.region (wl_field (o := 1) (off' := 1) ff_53_1 rfl rfl rfl (wl_load_blk (i := 1) (vs := [v32]) (v := v32) tf_29 rfl rfl hS62 rfl rfl rfl ?_)))) a ha
  obtain ⟨u65, hu65, hF⟩ := bindE hF
  refine wl_call rfl Try.call190 (C_slices_Reverse_int_int__mut w57 u29.2.1 v32 F33 (hS62.sel [2] rfl).base0 _ hu65) rfl ?_
  rintro _ w66 ⟨rfl, hE67, hM68⟩
  refine ⟨_, rfl, ?_⟩
  have hB69 := hS62.mutB [2] rfl (M := [R.own ty_3 F33 v32 u29.2.1]) rfl (M' := [R.own ty_3 F33 v32 u65]) rfl hB60 hB60.size hE67 hM68
  have hS70 : Sep w0.heap.size w66 [R.own ty_3 F33 v32 u65, R.own ty_63 F63 v30 (List.reverse u29.1), R.blk b39 53 [v30, v32, (.int .i64 u29.2.2.1), (.int .i64 u29.2.2.2)], R.blk b7 53 [(.slice none 0 0), (.slice none 0 0), (.int .i64 0), (.int .i64 0)], R.blk b2 53 [v0_0, v0_1, (.int .i64 x0.2.2.1), (.int .i64 x0.2.2.2)]] := hS62.mut [2] [0, 1, 3, 4] rfl (M := [R.own ty_3 F33 v32 u29.2.1]) rfl (M' := [R.own ty_3 F33 v32 u65]) rfl hM68
  refine WL.nil fun a ha => hK64 _ _ (W.seq fun K71 hK71 => (W.region (wl_load_blk (i := 2) (vs := [v30, v32, (.int .i64 u29.2.2.1), (.int .i64 u29.2.2.2)]) (v := (.agg #[v30, v32, (.int .i64 u29.2.2.1), (.int .i64 u29.2.2.2)])) tf_53 rfl rfl hS70 rfl rfl rfl (wl_store_blk (i := 3) (vs := [v30, v32, (.int .i64 u29.2.2.1), (.int .i64 u29.2.2.2)]) (cs' := [v30, v32, (.int .i64 u29.2.2.1), (.int .i64 u29.2.2.2)]) tf_53 rfl rfl rfl rfl hB69 hS70 rfl rfl ⟨(hS70.own_ro (i := 1) rfl).one, (hS70.own_ro (i := 0) rfl).one, rfl, rfl, trivial⟩ rfl ?_)))) a ha
  intro w72 hk75 hB73 hS74
  refine wl_assign rfl rfl (WL.nil (fun a ha => hK71 _ _ (W.ret ?_) a ha))
  have hr := Option.some.inj hF
  subst hr
  exact rets (vs := [(.agg #[v30, v32, (.int .i64 u29.2.2.1), (.int .i64 u29.2.2.2)]), (.bool true)]) hQ rfl ⟨rv_cell (i := 3) tf_53 rfl hS74 rfl rfl rfl, rv_tmp rfl, trivial⟩ ⟨v30, F63, v32, F33, rfl, hB73, hS74.sel [1, 0] rfl⟩
theorem C_spec_ReverseShow (w0 : World) (x0 : ((List (List (Int × Int))) × (List Int) × Int × Int)) (v0_0 : Value) (h0_0 : rdS ty_63 (· < w0.heap.size) w0 v0_0 x0.1) (v0_1 : Value) (h0_1 : rdS ty_3 (· < w0.heap.size) w0 v0_1 x0.2.1) (r : (((List (List (Int × Int))) × (List Int) × Int × Int) × Bool)) (hF : F_spec_ReverseShow x0 = some r) :
  Calls Try.prog 82 [(.agg #[v0_0, v0_1, (.int .i64 x0.2.2.1), (.int .i64 x0.2.2.2)])].toArray w0 fun e w' => ∃ (q0 : Value) (G0 : List Nat) (q1 : Value) (G1 : List Nat), e = .returned (.tuple #[(.agg #[q0, q1, (.int .i64 r.1.2.2.1), (.int .i64 r.1.2.2.2)]), (.bool r.2)]) ∧ Below w0.heap.size w0 w' ∧ Sep w0.heap.size w' [R.own ty_63 G0 q0 r.1.1, R.own ty_3 G1 q1 r.1.2.1] := by
 refine calls_mk' Try.func82 rfl Try.ntmps82 rfl rfl fun Q hQ hP => ?_
 have hB : Below w0.heap.size w0 w0 := Below.refl _ _
 have hS : Sep w0.heap.size w0 [] := Sep.nil _ _
 unfold F_spec_ReverseShow at hF
 refine W.seq fun K1 hK1 => W.region (wl_box (cs := [v0_0, v0_1, (.int .i64 x0.2.2.1), (.int .i64 x0.2.2.2)]) rfl rfl rfl hB hS ?_)
 intro b2 w3 hb4 hB5 hS6
 refine wl_alloc (cs := [(.slice none 0 0), (.slice none 0 0), (.int .i64 0), (.int .i64 0)]) tf_53 rfl rfl hB5 hS6 ?_
 intro b7 w8 hb9 hB10 hS11
 refine wl_assign rfl rfl (WL.nil (fun a ha => hK1 _ _ (W.seq fun K12 hK12 => (W.seq fun K13 hK13 => (W.region (wl_load_blk (i := 1) (vs := [v0_0, v0_1, (.int .i64 x0.2.2.1), (.int .i64 x0.2.2.2)]) (v := (.agg #[v0_0, v0_1, (.int .i64 x0.2.2.1), (.int .i64 x0.2.2.2)])) tf_53 rfl rfl hS11 rfl rfl rfl ?_)))) a ha))
 obtain ⟨u14, hu14, hF⟩ := bindE hF
 refine wl_call rfl Try.call145 (C_spec_swGood w8 x0 v0_0 (h0_0.ro hB10) v0_1 (h0_1.ro hB10) _ hu14) rfl ?_
 rintro _ w15 ⟨rfl, hb16⟩
 refine ⟨_, rfl, ?_⟩
 have hB17 := hB10.trans (hb16.mono hB10.size)
 have hS18 := hS11.below hb16
 refine wl_not rfl rfl (WL.nil (fun a ha => hK13 _ _ (W.cond rfl (fun h20 => ?_) (fun h20 => ?_)) a ha))
 ·replace hF := ifP h20 hF
  refine W.seq fun K21 hK21 => W.region (wl_build (zs := [(.slice none 0 0), (.slice none 0 0), (.int .i64 0), (.int .i64 0)]) (out := [(.slice none 0 0), (.slice none 0 0), (.int .i64 0), (.int .i64 0)]) (vs := []) (css := []) tf_53 pl_53 rfl rfl rfl rfl rfl (wl_store_blk (i := 0) (vs := [(.slice none 0 0), (.slice none 0 0), (.int .i64 0), (.int .i64 0)]) (cs' := [(.slice none 0 0), (.slice none 0 0), (.int .i64 0), (.int .i64 0)]) tf_53 rfl rfl rfl rfl hB17 hS18 rfl rfl ⟨rfl, rfl, rfl, rfl, trivial⟩ rfl ?_))
  intro w22 hk25 hB23 hS24
  refine wl_assign rfl rfl (WL.nil (fun a ha => hK21 _ _ (W.ret ?_) a ha))
  have hS26 := hS24.push0 (r := R.own ty_63 [] (.slice none 0 0) []) rfl fun _ => .inl ⟨rfl, rfl, rfl⟩
  have hS27 := hS26.push0 (r := R.own ty_3 [] (.slice none 0 0) []) rfl fun _ => .inl ⟨rfl, rfl, rfl⟩
  have hr := Option.some.inj hF
  subst hr
  exact rets (vs := [(.agg #[(.slice none 0 0), (.slice none 0 0), (.int .i64 0), (.int .i64 0)]), (.bool false)]) hQ rfl ⟨rv_cell (i := 0) tf_53 rfl hS24 rfl rfl rfl, rv_tmp rfl, trivial⟩ ⟨(.slice none 0 0), [], (.slice none 0 0), [], rfl, hB23, hS27.sel [1, 0] rfl⟩
 ·replace hF := ifN h20 hF
  refine W.skip fun a ha => hK12 _ _ (W.seq fun K28 hK28 => (W.region (wl_field (o := 2) (off' := 2) ff_53_2 rfl rfl rfl (wl_load_blk (i := 1) (vs := [(.int .i64 x0.2.2.1)]) (v := (.int .i64 x0.2.2.1)) tf_3 rfl rfl hS18 rfl rfl rfl (wl_field (o := 3) (off' := 3) ff_53_3 rfl rfl rfl (wl_load_blk (i := 1) (vs := [(.int .i64 x0.2.2.2)]) (v := (.int .i64 x0.2.2.2)) tf_3 rfl rfl hS18 rfl rfl rfl (wl_build (zs := [(.slice none 0 0), (.slice none 0 0), (.int .i64 0), (.int .i64 0)]) (out := [(.slice none 0 0), (.slice none 0 0), (.int .i64 x0.2.2.1), (.int .i64 x0.2.2.2)]) (vs := [(.int .i64 x0.2.2.1), (.int .i64 x0.2.2.2)]) (css := [[(.int .i64 x0.2.2.1)], [(.int .i64 x0.2.2.2)]]) tf_53 pl_53 rfl rfl rfl rfl rfl (wl_alloc (cs := [(.slice none 0 0), (.slice none 0 0), (.int .i64 0), (.int .i64 0)]) tf_53 rfl rfl hB17 hS18 ?_)))))))) a ha
  intro b29 w30 hb31 hB32 hS33
  refine wl_store_blk (i := 0) (vs := [(.slice none 0 0), (.slice none 0 0), (.int .i64 x0.2.2.1), (.int .i64 x0.2.2.2)]) (cs' := [(.slice none 0 0), (.slice none 0 0), (.int .i64 x0.2.2.1), (.int .i64 x0.2.2.2)]) tf_53 rfl rfl rfl rfl hB32 hS33 rfl rfl ⟨rfl, rfl, rfl, rfl, trivial⟩ rfl ?_
  intro w34 hk37 hB35 hS36
  refine WL.nil fun a ha => hK28 _ _ (W.seq fun K38 hK38 => (W.seq fun K39 hK39 => (W.region (wl_field (o := 0) (off' := 0) ff_53_0 rfl rfl rfl (wl_load_blk (i := 2) (vs := [v0_0]) (v := v0_0) tf_51 rfl rfl hS36 rfl rfl rfl (wl_lenr (e := ty_63) (l := x0.1) Try.underlying51 rfl rfl h0_0 (wl_sub rfl rfl rfl (wl_assign rfl rfl (WL.nil (fun a ha => hK39 _ _ (W.block ?_) a ha)))))))))) a ha
  refine W.loopk (fun m a w40 => ∃ (l43 : (List (List (Int × Int)))) (y46 : Int) (v44 : Value) (F45 : List Nat), St 54 [(1, (.pointer (some ⟨b2, 0, none⟩))), (2, (.pointer (some ⟨b7, 0, none⟩))), (4, (.pointer (some ⟨b29, 0, none⟩))), (5, (.int .i64 y46))] a ∧ Below w0.heap.size w0 w40 ∧ Sep w0.heap.size w40 [R.blk b2 53 [v0_0, v0_1, (.int .i64 x0.2.2.1), (.int .i64 x0.2.2.2)], R.blk b7 53 [(.slice none 0 0), (.slice none 0 0), (.int .i64 0), (.int .i64 0)], R.own ty_63 F45 v44 l43, R.blk b29 53 [v44, (.slice none 0 0), (.int .i64 x0.2.2.1), (.int .i64 x0.2.2.2)]] ∧ F_spec_ReverseShow_L1 x0 m l43 y46 = some r) FU ?_ ?_
  ·
   have hS48 := hS36.push0 (r := R.own ty_63 [] (.slice none 0 0) []) rfl fun _ => .inl ⟨rfl, rfl, rfl⟩
   exact fun a ha => ⟨[], (w64 ((List.length x0.1 : Int) - 1)), (.slice none 0 0), [], ha.sub ⟨rfl, rfl, rfl, rfl, trivial⟩, hB35, (hS48.sel [3, 2, 0, 1] rfl), hF⟩
  ·
   rintro m50 a w40 ⟨l43, y46, v44, F45, ha, hB41, hS42, hF⟩ KL49 hKL49
   refine W.at ?_ ha
   cases m50 with
   | zero => exact noneE hF
   | succ m50 =>
    obtain ⟨nx47, hnx47⟩ : ∃ k, k = F_spec_ReverseShow_L1 x0 m50 := ⟨_, rfl⟩
    rw [F_spec_ReverseShow_L1, ← hnx47] at hF
    refine W.seq fun K51 hK51 => W.seq fun K52 hK52 => W.region (wl_move rfl rfl (wl_geq rfl rfl rfl (WL.nil (fun a ha => hK52 _ _ (W.cond rfl (fun h53 => ?_) (fun h53 => ?_)) a ha))))
    ·replace hF := ifP h53 hF
     refine W.skip fun a ha => hK51 _ _ (W.seq fun K54 hK54 => ?_) a ha
     obtain ⟨k61, hk61, hF⟩ := jE1 hF
     have hJ62 : ∀ (l58 : (List (List (Int × Int)))) (v59 : Value) (F60 : List Nat) (w55 : World) (_ : k61 l58 = some r) (_ : Below w0.heap.size w0 w55) (_ : Sep w0.heap.size w55 [R.blk b2 53 [v0_0, v0_1, (.int .i64 x0.2.2.1), (.int .i64 x0.2.2.2)], R.blk b7 53 [(.slice none 0 0), (.slice none 0 0), (.int .i64 0), (.int .i64 0)], R.own ty_63 F60 v59 l58, R.blk b29 53 [v59, (.slice none 0 0), (.int .i64 x0.2.2.1), (.int .i64 x0.2.2.2)]]), ∀ a, St 54 [(1, (.pointer (some ⟨b2, 0, none⟩))), (2, (.pointer (some ⟨b7, 0, none⟩))), (4, (.pointer (some ⟨b29, 0, none⟩))), (5, (.int .i64 y46))] a → K54 a w55 := by
      intro l58 v59 F60 w55 hF hB56 hS57
      subst hk61
      refine fun a ha => hK54 _ _ (W.region (wl_move rfl rfl (wl_sub rfl rfl rfl (wl_assign rfl rfl (WL.nil ?_))))) a ha
      rw [hnx47] at hF
      exact fun a ha => hKL49 a _ m50 (Nat.lt_succ_self m50) ⟨l58, (w64 (y46 - 1)), v59, F60, ha.sub ⟨rfl, rfl, rfl, rfl, trivial⟩, hB56, (hS57.sel [0, 1, 2, 3] rfl), hF⟩
     refine W.block (W.regionH mixed_ (F45 ++ [b29]) hB41 hS42 ?_)
     intro w63 hb64 hB65 hS66
     have hSW67 := KeepX.refl w63 (F45 ++ [b29])
     refine WH.tk 0 rfl hP hSW67 (pr_field (o := 0) (off' := 0) ff_53_0 rfl rfl rfl (WH.tk 2 rfl hP hSW67 (pr_field (o := 0) (off' := 0) ff_53_0 rfl rfl rfl (WH.tk 3 rfl hP hSW67 (pr_load_blk (i := 0) (vs := [v0_0]) (v := v0_0) tf_51 rfl rfl hS66 rfl rfl rfl (fun hb => (List.mem_append.1 hb).elim (hS66.disj (i := 0) (j := 2) rfl rfl rfl b2 (by simp [R.blk])) (hS66.disj (i := 0) (j := 3) rfl rfl rfl b2 (by simp [R.blk]))) (WH.tk 4 rfl hP hSW67 (pr_move rfl rfl ?_)))))))
     obtain ⟨u68, hu68, hF⟩ := bindE hF
     refine WH.tk 5 rfl hP hSW67 (pr_index (e := ty_63) Try.underlying51 rfl rfl rfl h0_0 hu68 ?_)
     rintro p69 _ ⟨v71, rfl, hv72⟩ hp70
     refine WH.tk 6 rfl hP hSW67 (pr_load_p (vs := [v71]) (v := v71) tf_63 rfl rfl (hp70.kx hB65 (fun b hb => ((List.mem_append.1 hb).elim (fun hb => (((hS66.get (i := 2) rfl).2.1 b hb).1)) (fun hb => (((hS66.get (i := 3) rfl).2.1 b hb).1))))) rfl rfl (WH.many (is := [1, 7]) (by kernel_rfl) rfl (List.forall_mem_cons.2 ⟨⟨_, rfl, ?_⟩, List.forall_mem_cons.2 ⟨⟨_, rfl, ?_⟩, fun _ h => by cases h⟩⟩)))
     ·
      refine wl_load_blk (i := 3) (vs := [v44]) (v := v44) tf_51 rfl rfl hS66 rfl rfl rfl (WL.nil (WH.ret hSW67 (WH.on1 7 rfl ?_)))
      obtain ⟨u73, hu73, hF⟩ := bindE hF
      refine wl_call rfl Try.call171 (C_spec_chOwn w63 u68 v71 (hv72.ro hB65) _ hu73) rfl ?_
      rintro _ w76 ⟨v74, F75, rfl, hb77, hM80⟩
      refine ⟨_, rfl, ?_⟩
      have hB78 := hB65.trans (hb77.mono hB65.size)
      have hS79 := hS66.join hb77 hM80 hB65.size
      have hSW82 := hSW67.ext hb77
      refine WL.nil (WH.ret hSW82 (WH.on1 8 rfl ?_))
      have hq84 := hS79.sel [0, 1, 2, 3, 4] rfl
      have hq85 := hq84.head (r' := R.cel ty_63 F75 [v74] u73) (rfl) fun _ h0 => ⟨_, rfl, h0⟩
      refine wl_lit1 (e := ty_63) (vs := [v74]) Try.underlying51 rfl rfl (cells_one (hS79.own_ro (i := 0) rfl).one) rfl hB78 hq85 ?_
      intro v86 F87 w88 hb89 hf90 hB91 hS92
      have hSW94 := hSW82.ext hb89
      refine WL.nil (WH.ret hSW94 (WH.on1 9 rfl ?_))
      obtain ⟨u96, hu96, hF⟩ := bindE hF
      refine wl_appendn (e := ty_63) Try.underlying51 rfl rfl rfl hB91 (hS92.sel [3, 0, 1, 2, 4] rfl) hu96 ?_
      intro v97 F98 w99 hk100 hB101 hS102
      have hSW103 := hSW94.wr' hk100.1 hk100.2.1 (fun _ _ h => List.mem_append_left _ (h))
      refine WL.nil (WH.ret hSW103 (WH.tk 10 rfl hP hSW103 (pr_field (o := 0) (off' := 0) ff_53_0 rfl rfl rfl (WH.on1 11 rfl (wl_store_blk (i := 3) (vs := [v97]) (cs' := [v97, (.slice none 0 0), (.int .i64 x0.2.2.1), (.int .i64 x0.2.2.2)]) tf_51 rfl rfl (cells_one (hS102.own_ro (i := 0) rfl).one) rfl hB101 hS102 rfl rfl ⟨(hS102.own_ro (i := 0) rfl).one, trivial⟩ rfl ?_)))))
      intro w105 hk108 hB106 hS107
      have hSW109 := hSW103.wr' hk108.1 hk108.2.1 (fun _ _ h => List.mem_append_right _ h)
      refine WL.nil (WH.ret hSW109 (WH.done (by kernel_rfl) ?_))
      exact fun a ha => hJ62 (u96) (v97) (F98) _ hF hB106 (hS107.sel [1, 2, 0, 3] rfl) a (ha.sub ⟨rfl, rfl, rfl, rfl, trivial⟩)
     ·
      obtain ⟨u111, hu111, hF⟩ := bindE hF
      refine wl_call rfl Try.call171 (C_spec_chOwn w63 u68 v71 (hv72.ro hB65) _ hu111) rfl ?_
      rintro _ w114 ⟨v112, F113, rfl, hb115, hM118⟩
      refine ⟨_, rfl, ?_⟩
      have hB116 := hB65.trans (hb115.mono hB65.size)
      have hS117 := hS66.join hb115 hM118 hB65.size
      have hSW120 := hSW67.ext hb115
      refine WL.nil (WH.ret hSW120 (WH.many (is := [1, 8]) (by kernel_rfl) rfl (List.forall_mem_cons.2 ⟨⟨_, rfl, ?_⟩, List.forall_mem_cons.2 ⟨⟨_, rfl, ?_⟩, fun _ h => by cases h⟩⟩)))
      ·
       refine wl_load_blk (i := 4) (vs := [v44]) (v := v44) tf_51 rfl rfl hS117 rfl rfl rfl (WL.nil (WH.ret hSW120 (WH.on1 8 rfl ?_)))
       have hq122 := hS117.sel [0, 1, 2, 3, 4] rfl
       have hq123 := hq122.head (r' := R.cel ty_63 F113 [v112] u111) (rfl) fun _ h0 => ⟨_, rfl, h0⟩
       refine wl_lit1 (e := ty_63) (vs := [v112]) Try.underlying51 rfl rfl (cells_one (hS117.own_ro (i := 0) rfl).one) rfl hB116 hq123 ?_
       intro v124 F125 w126 hb127 hf128 hB129 hS130
       have hSW132 := hSW120.ext hb127
       refine WL.nil (WH.ret hSW132 (WH.on1 9 rfl ?_))
       obtain ⟨u134, hu134, hF⟩ := bindE hF
       refine wl_appendn (e := ty_63) Try.underlying51 rfl rfl rfl hB129 (hS130.sel [3, 0, 1, 2, 4] rfl) hu134 ?_
       intro v135 F136 w137 hk138 hB139 hS140
       have hSW141 := hSW132.wr' hk138.1 hk138.2.1 (fun _ _ h => List.mem_append_left _ (h))
       refine WL.nil (WH.ret hSW141 (WH.tk 10 rfl hP hSW141 (pr_field (o := 0) (off' := 0) ff_53_0 rfl rfl rfl (WH.on1 11 rfl (wl_store_blk (i := 3) (vs := [v135]) (cs' := [v135, (.slice none 0 0), (.int .i64 x0.2.2.1), (.int .i64 x0.2.2.2)]) tf_51 rfl rfl (cells_one (hS140.own_ro (i := 0) rfl).one) rfl hB139 hS140 rfl rfl ⟨(hS140.own_ro (i := 0) rfl).one, trivial⟩ rfl ?_)))))
       intro w143 hk146 hB144 hS145
       have hSW147 := hSW141.wr' hk146.1 hk146.2.1 (fun _ _ h => List.mem_append_right _ h)
       refine WL.nil (WH.ret hSW147 (WH.done (by kernel_rfl) ?_))
       exact fun a ha => hJ62 (u134) (v135) (F136) _ hF hB144 (hS145.sel [1, 2, 0, 3] rfl) a (ha.sub ⟨rfl, rfl, rfl, rfl, trivial⟩)
      ·
       have hq149 := hS117.sel [0, 1, 2, 3, 4] rfl
       have hq150 := hq149.head (r' := R.cel ty_63 F113 [v112] u111) (rfl) fun _ h0 => ⟨_, rfl, h0⟩
       refine wl_lit1 (e := ty_63) (vs := [v112]) Try.underlying51 rfl rfl (cells_one (hS117.own_ro (i := 0) rfl).one) rfl hB116 hq150 ?_
       intro v151 F152 w153 hb154 hf155 hB156 hS157
       have hSW159 := hSW120.ext hb154
       refine WL.nil (WH.ret hSW159 (WH.on1 1 rfl (wl_load_blk (i := 4) (vs := [v44]) (v := v44) tf_51 rfl rfl hS157 rfl rfl rfl (WL.nil (WH.ret hSW159 (WH.on1 9 rfl ?_))))))
       obtain ⟨u161, hu161, hF⟩ := bindE hF
       refine wl_appendn (e := ty_63) Try.underlying51 rfl rfl rfl hB156 (hS157.sel [3, 0, 1, 2, 4] rfl) hu161 ?_
       intro v162 F163 w164 hk165 hB166 hS167
       have hSW168 := hSW159.wr' hk165.1 hk165.2.1 (fun _ _ h => List.mem_append_left _ (h))
       refine WL.nil (WH.ret hSW168 (WH.tk 10 rfl hP hSW168 (pr_field (o := 0) (off' := 0) ff_53_0 rfl rfl rfl (WH.on1 11 rfl (wl_store_blk (i := 3) (vs := [v162]) (cs' := [v162, (.slice none 0 0), (.int .i64 x0.2.2.1), (.int .i64 x0.2.2.2)]) tf_51 rfl rfl (cells_one (hS167.own_ro (i := 0) rfl).one) rfl hB166 hS167 rfl rfl ⟨(hS167.own_ro (i := 0) rfl).one, trivial⟩ rfl ?_)))))
       intro w170 hk173 hB171 hS172
       have hSW174 := hSW168.wr' hk173.1 hk173.2.1 (fun _ _ h => List.mem_append_right _ h)
       refine WL.nil (WH.ret hSW174 (WH.done (by kernel_rfl) ?_))
       exact fun a ha => hJ62 (u161) (v162) (F163) _ hF hB171 (hS172.sel [1, 2, 0, 3] rfl) a (ha.sub ⟨rfl, rfl, rfl, rfl, trivial⟩)
    ·replace hF := ifN h53 hF
     refine W.exit fun a ha => hK38 _ _ (W.seq fun K176 hK176 => (W.seq fun K177 hK177 => (W.region (wl_field (o := 1) (off' := 1) ff_53_1 rfl rfl rfl (wl_load_blk (i := 0) (vs := [v0_1]) (v := v0_1) tf_29 rfl rfl hS42 rfl rfl rfl (wl_lenr (e := ty_3) (l := x0.2.1) Try.underlying29 rfl rfl h0_1 (wl_sub rfl rfl rfl (wl_assign rfl rfl (WL.nil (fun a ha => hK177 _ _ (W.block ?_) a ha)))))))))) a ha
     refine W.loopk (fun m a w178 => ∃ (l181 : (List Int)) (y184 : Int) (v182 : Value) (F183 : List Nat), St 54 [(1, (.pointer (some ⟨b2, 0, none⟩))), (2, (.pointer (some ⟨b7, 0, none⟩))), (4, (.pointer (some ⟨b29, 0, none⟩))), (6, (.int .i64 y184))] a ∧ Below w0.heap.size w0 w178 ∧ Sep w0.heap.size w178 [R.blk b2 53 [v0_0, v0_1, (.int .i64 x0.2.2.1), (.int .i64 x0.2.2.2)], R.blk b7 53 [(.slice none 0 0), (.slice none 0 0), (.int .i64 0), (.int .i64 0)], R.own ty_63 F45 v44 l43, R.own ty_3 F183 v182 l181, R.blk b29 53 [v44, v182, (.int .i64 x0.2.2.1), (.int .i64 x0.2.2.2)]] ∧ F_spec_ReverseShow_L2 x0 l43 m l181 y184 = some r) FU ?_ ?_
     ·
      have hS186 := hS42.push0 (r := R.own ty_3 [] (.slice none 0 0) []) rfl fun _ => .inl ⟨rfl, rfl, rfl⟩
      exact fun a ha => ⟨[], (w64 ((List.length x0.2.1 : Int) - 1)), (.slice none 0 0), [], ha.sub ⟨rfl, rfl, rfl, rfl, trivial⟩, hB41, (hS186.sel [1, 2, 3, 0, 4] rfl), hF⟩
     ·
      rintro m188 a w178 ⟨l181, y184, v182, F183, ha, hB179, hS180, hF⟩ KL187 hKL187
      refine W.at ?_ ha
      cases m188 with
      | zero => exact noneE hF
      | succ m188 =>
       obtain ⟨nx185, hnx185⟩ : ∃ k, k = F_spec_ReverseShow_L2 x0 l43 m188 := ⟨_, rfl⟩
       rw [F_spec_ReverseShow_L2, ← hnx185] at hF
       refine W.seq fun K189 hK189 => W.seq fun K190 hK190 => W.region (wl_move rfl rfl (wl_geq rfl rfl rfl (WL.nil (fun a ha => hK190 _ _ (W.cond rfl (fun h191 => ?_) (fun h191 => ?_)) a ha))))
       ·replace hF := ifP h191 hF
        refine W.skip fun a ha => hK189 _ _ (W.seq fun K192 hK192 => ?_) a ha
        obtain ⟨k199, hk199, hF⟩ := jE1 hF
        have hJ200 : ∀ (l196 : (List Int)) (v197 : Value) (F198 : List Nat) (w193 : World) (_ : k199 l196 = some r) (_ : Below w0.heap.size w0 w193) (_ : Sep w0.heap.size w193 [R.blk b2 53 [v0_0, v0_1, (.int .i64 x0.2.2.1), (.int .i64 x0.2.2.2)], R.blk b7 53 [(.slice none 0 0), (.slice none 0 0), (.int .i64 0), (.int .i64 0)], R.own ty_63 F45 v44 l43, R.own ty_3 F198 v197 l196, R.blk b29 53 [v44, v197, (.int .i64 x0.2.2.1), (.int .i64 x0.2.2.2)]]), ∀ a, St 54 [(1, (.pointer (some ⟨b2, 0, none⟩))), (2, (.pointer (some ⟨b7, 0, none⟩))), (4, (.pointer (some ⟨b29, 0, none⟩))), (6, (.int .i64 y184))] a → K192 a w193 := by
         intro l196 v197 F198 w193 hF hB194 hS195
         subst hk199
         refine fun a ha => hK192 _ _ (W.region (wl_move rfl rfl (wl_sub rfl rfl rfl (wl_assign rfl rfl (WL.nil ?_))))) a ha
         rw [hnx185] at hF
         exact fun a ha => hKL187 a _ m188 (Nat.lt_succ_self m188) ⟨l196, (w64 (y184 - 1)), v197, F198, ha.sub ⟨rfl, rfl, rfl, rfl, trivial⟩, hB194, (hS195.sel [0, 1, 2, 3, 4] rfl), hF⟩
        refine W.block (W.regionH mixed_ (F183 ++ [b29]) hB179 hS180 ?_)
        intro w201 hb202 hB203 hS204
        have hSW205 := KeepX.refl w201 (F183 ++ [b29])
        refine WH.tk 0 rfl hP hSW205 (pr_field (o := 1) (off' := 1) ff_53_1 rfl rfl rfl (WH.tk 2 rfl hP hSW205 (pr_field (o := 1) (off' := 1) ff_53_1 rfl rfl rfl (WH.tk 3 rfl hP hSW205 (pr_load_blk (i := 0) (vs := [v0_1]) (v := v0_1) tf_29 rfl rfl hS204 rfl rfl rfl (fun hb => (List.mem_append.1 hb).elim (hS204.disj (i := 0) (j := 3) rfl rfl rfl b2 (by simp [R.blk])) (hS204.disj (i := 0) (j := 4) rfl rfl rfl b2 (by simp [R.blk]))) (WH.tk 4 rfl hP hSW205 (pr_move rfl rfl ?_)))))))
        obtain ⟨u206, hu206, hF⟩ := bindE hF
        refine WH.tk 5 rfl hP hSW205 (pr_index (e := ty_3) Try.underlying29 rfl rfl rfl h0_1 hu206 ?_)
        rintro p207 _ rfl hp208
        refine WH.tk 6 rfl hP hSW205 (pr_load_p (vs := [(.int .i64 u206)]) (v := (.int .i64 u206)) tf_3 rfl rfl (hp208.kx hB203 (fun b hb => ((List.mem_append.1 hb).elim (fun hb => (((hS204.get (i := 3) rfl).2.1 b hb).1)) (fun hb => (((hS204.get (i := 4) rfl).2.1 b hb).1))))) rfl rfl (WH.many (is := [1, 7]) (by kernel_rfl) rfl (List.forall_mem_cons.2 ⟨⟨_, rfl, ?_⟩, List.forall_mem_cons.2 ⟨⟨_, rfl, ?_⟩, fun _ h => by cases h⟩⟩)))
        ·
         refine wl_load_blk (i := 4) (vs := [v182]) (v := v182) tf_29 rfl rfl hS204 rfl rfl rfl (WL.nil (WH.ret hSW205 (WH.on1 7 rfl (wl_lit (vs := [(.int .i64 u206)]) (l := [u206]) fl_3 Try.underlying29 rfl rfl rfl rfl rfl rfl (Below.self w201) (Sep.nil _ _) ?_))))
         intro v209 F210 w211 hb212 hB215 hM216
         have hB213 := hB203.trans (hb212.mono hB203.size)
         have hS214 := hS204.join hb212 hM216 hB203.size
         have hSW218 := hSW205.ext hb212
         refine WL.nil (WH.ret hSW218 (WH.on1 8 rfl ?_))
         obtain ⟨u220, hu220, hF⟩ := bindE hF
         refine wl_append (i := 4) (S := (· < w211.heap.size)) fl_3 Try.underlying29 rfl rfl rfl hB213 hS214 rfl (hS214.own_ro (i := 0) rfl) hu220 ?_
         intro v221 F222 w223 hk224 hB225 hS226
         have hSW227 := hSW218.wr' hk224.1 hk224.2.1 (fun _ _ h => List.mem_append_left _ (h))
         refine WL.nil (WH.ret hSW227 (WH.tk 9 rfl hP hSW227 (pr_field (o := 1) (off' := 1) ff_53_1 rfl rfl rfl (WH.on1 10 rfl (wl_store_blk (i := 5) (vs := [v221]) (cs' := [v44, v221, (.int .i64 x0.2.2.1), (.int .i64 x0.2.2.2)]) tf_29 rfl rfl (cells_one (hS226.own_ro (i := 4) rfl).one) rfl hB225 hS226 rfl rfl ⟨(hS226.own_ro (i := 4) rfl).one, trivial⟩ rfl ?_)))))
         intro w229 hk232 hB230 hS231
         have hSW233 := hSW227.wr' hk232.1 hk232.2.1 (fun _ _ h => List.mem_append_right _ h)
         refine WL.nil (WH.ret hSW233 (WH.done (by kernel_rfl) ?_))
         exact fun a ha => hJ200 (u220) (v221) (F222) _ hF hB230 (hS231.sel [1, 2, 3, 4, 5] rfl) a (ha.sub ⟨rfl, rfl, rfl, rfl, trivial⟩)
        ·
         refine wl_lit (vs := [(.int .i64 u206)]) (l := [u206]) fl_3 Try.underlying29 rfl rfl rfl rfl rfl rfl (Below.self w201) (Sep.nil _ _) ?_
         intro v235 F236 w237 hb238 hB241 hM242
         have hB239 := hB203.trans (hb238.mono hB203.size)
         have hS240 := hS204.join hb238 hM242 hB203.size
         have hSW244 := hSW205.ext hb238
         refine WL.nil (WH.ret hSW244 (WH.on1 1 rfl (wl_load_blk (i := 5) (vs := [v182]) (v := v182) tf_29 rfl rfl hS240 rfl rfl rfl (WL.nil (WH.ret hSW244 (WH.on1 8 rfl ?_))))))
         obtain ⟨u246, hu246, hF⟩ := bindE hF
         refine wl_append (i := 4) (S := (· < w237.heap.size)) fl_3 Try.underlying29 rfl rfl rfl hB239 hS240 rfl (hS240.own_ro (i := 0) rfl) hu246 ?_
         intro v247 F248 w249 hk250 hB251 hS252
         have hSW253 := hSW244.wr' hk250.1 hk250.2.1 (fun _ _ h => List.mem_append_left _ (h))
         refine WL.nil (WH.ret hSW253 (WH.tk 9 rfl hP hSW253 (pr_field (o := 1) (off' := 1) ff_53_1 rfl rfl rfl (WH.on1 10 rfl (wl_store_blk (i := 5) (vs := [v247]) (cs' := [v44, v247, (.int .i64 x0.2.2.1), (.int .i64 x0.2.2.2)]) tf_29 rfl rfl (cells_one (hS252.own_ro (i := 4) rfl).one) rfl hB251 hS252 rfl rfl ⟨(hS252.own_ro (i := 4) rfl).one, trivial⟩ rfl ?_)))))
         intro w255 hk258 hB256 hS257
         have hSW259 := hSW253.wr' hk258.1 hk258.2.1 (fun _ _ h => List.mem_append_right _ h)
         refine WL.nil (WH.ret hSW259 (WH.done (by kernel_rfl) ?_))
         exact fun a ha => hJ200 (u246) (v247) (F248) _ hF hB256 (hS257.sel [1, 2, 3, 4, 5] rfl) a (ha.sub ⟨rfl, rfl, rfl, rfl, trivial⟩)
       ·replace hF := ifN h191 hF
        refine W.exit fun a ha => hK176 _ _ (W.seq fun K261 hK261 => (W.region (wl_load_blk (i := 4) (vs := [v44, v182, (.int .i64 x0.2.2.1), (.int .i64 x0.2.2.2)]) (v := (.agg #[v44, v182, (.int .i64 x0.2.2.1), (.int .i64 x0.2.2.2)])) tf_53 rfl rfl hS180 rfl rfl rfl (wl_store_blk (i := 1) (vs := [v44, v182, (.int .i64 x0.2.2.1), (.int .i64 x0.2.2.2)]) (cs' := [v44, v182, (.int .i64 x0.2.2.1), (.int .i64 x0.2.2.2)]) tf_53 rfl rfl rfl rfl hB179 hS180 rfl rfl ⟨(hS180.own_ro (i := 2) rfl).one, (hS180.own_ro (i := 3) rfl).one, rfl, rfl, trivial⟩ rfl ?_)))) a ha
        intro w262 hk265 hB263 hS264
        refine wl_assign rfl rfl (WL.nil (fun a ha => hK261 _ _ (W.ret ?_) a ha))
        have hr := Option.some.inj hF
        subst hr
        exact rets (vs := [(.agg #[v44, v182, (.int .i64 x0.2.2.1), (.int .i64 x0.2.2.2)]), (.bool true)]) hQ rfl ⟨rv_cell (i := 1) tf_53 rfl hS264 rfl rfl rfl, rv_tmp rfl, trivial⟩ ⟨v44, F45, v182, F183, rfl, hB263, hS264.sel [2, 3] rfl⟩
theorem C_laws_pSameSheet (w0 : World) (x0 : (Int × (Int × Int) × (List (Int × (Int × Int))))) (v0_0 : Value) (h0_0 : rdS ty_169 (· < w0.heap.size) w0 v0_0 x0.2.2) (x1 : (Int × (Int × Int) × (List (Int × (Int × Int))))) (v1_0 : Value) (h1_0 : rdS ty_169 (· < w0.heap.size) w0 v1_0 x1.2.2) (r : Bool) (hF : F_laws_pSameSheet x0 x1 = some r) :
  Calls Try.prog 191 [(.agg #[(.int .i64 x0.1), (.int .i64 x0.2.1.1), (.int .i64 x0.2.1.2), v0_0]), (.agg #[(.int .i64 x1.1), (.int .i64 x1.2.1.1), (.int .i64 x1.2.1.2), v1_0])].toArray w0 fun e w' => e = .returned (.bool r) ∧ Below w0.heap.size w0 w' := by
 refine calls_mk' Try.func191 rfl Try.ntmps191 rfl rfl fun Q hQ hP => ?_
 have hB : Below w0.heap.size w0 w0 := Below.refl _ _
 have hS : Sep w0.heap.size w0 [] := Sep.nil _ _
 unfold F_laws_pSameSheet at hF
 refine W.seq fun K1 hK1 => W.region (wl_box (cs := [(.int .i64 x0.1), (.int .i64 x0.2.1.1), (.int .i64 x0.2.1.2), v0_0]) rfl rfl rfl hB hS ?_)
 intro b2 w3 hb4 hB5 hS6
 refine wl_box (cs := [(.int .i64 x1.1), (.int .i64 x1.2.1.1), (.int .i64 x1.2.1.2), v1_0]) rfl rfl rfl hB5 hS6 ?_
 intro b7 w8 hb9 hB10 hS11
 refine wl_assign rfl rfl (WL.nil (fun a ha => hK1 _ _ (W.seq fun K12 hK12 => (W.seq fun K13 hK13 => ?_)) a ha))
 obtain ⟨k18, hk18, hF⟩ := jE1 hF
 have hJ19 : ∀ (y17 : Bool) (w14 : World) (_ : k18 y17 = some r) (_ : Below w0.heap.size w0 w14) (_ : Sep w0.heap.size w14 [R.blk b2 114 [(.int .i64 x0.1), (.int .i64 x0.2.1.1), (.int .i64 x0.2.1.2), v0_0], R.blk b7 114 [(.int .i64 x1.1), (.int .i64 x1.2.1.1), (.int .i64 x1.2.1.2), v1_0]]), ∀ a, St 45 [(2, (.pointer (some ⟨b2, 0, none⟩))), (3, (.pointer (some ⟨b7, 0, none⟩))), (26, (.bool y17))] a → K13 a w14 := by
  intro y17 w14 hF hB15 hS16
  subst hk18
  refine fun a ha => hK13 _ _ (W.cond rfl (fun h20 => ?_) (fun h20 => ?_)) a ha
  ·replace hF := ifP h20 hF
   refine W.seq fun K21 hK21 => W.region (wl_assign rfl rfl (WL.nil (fun a ha => hK21 _ _ (W.ret ?_) a ha)))
   have hr := Option.some.inj hF
   subst hr
   exact rets (vs := [(.bool false)]) hQ rfl ⟨rv_tmp rfl, trivial⟩ ⟨rfl, hB15⟩
  ·replace hF := ifN h20 hF
   refine W.skip fun a ha => hK12 _ _ (W.seq fun K22 hK22 => (W.seq fun K23 hK23 => (W.region (wl_field (o := 3) (off' := 3) ff_114_2 rfl rfl rfl (wl_load_blk (i := 0) (vs := [v0_0]) (v := v0_0) tf_112 rfl rfl hS16 rfl rfl rfl (wl_lenr (e := ty_169) (l := x0.2.2) Try.underlying112 rfl rfl h0_0 (wl_move rfl rfl (WL.nil (fun a ha => hK23 _ _ (W.block (W.loopk (fun m a w24 => ∃ (y27 : Int), St 45 [(2, (.pointer (some ⟨b2, 0, none⟩))), (3, (.pointer (some ⟨b7, 0, none⟩))), (29, (.int .i64 (List.length x0.2.2 : Int))), (30, (.int .i64 y27))] a ∧ Below w0.heap.size w0 w24 ∧ Sep w0.heap.size w24 [R.blk b2 114 [(.int .i64 x0.1), (.int .i64 x0.2.1.1), (.int .i64 x0.2.1.2), v0_0], R.blk b7 114 [(.int .i64 x1.1), (.int .i64 x1.2.1.1), (.int .i64 x1.2.1.2), v1_0]] ∧ F_laws_pSameSheet_L1 x0 x1 m y27 = some r) FU ?_ ?_)) a ha))))))))) a ha
   ·
    exact fun a ha => ⟨0, ha.sub ⟨rfl, rfl, rfl, rfl, trivial⟩, hB15, (hS16.sel [0, 1] rfl), hF⟩
   ·
    rintro m30 a w24 ⟨y27, ha, hB25, hS26, hF⟩ KL29 hKL29
    refine W.at ?_ ha
    cases m30 with
    | zero => exact noneE hF
    | succ m30 =>
     obtain ⟨nx28, hnx28⟩ : ∃ k, k = F_laws_pSameSheet_L1 x0 x1 m30 := ⟨_, rfl⟩
     rw [F_laws_pSameSheet_L1, ← hnx28] at hF
     refine W.seq fun K31 hK31 => W.region (wl_lss rfl rfl rfl (WL.nil (fun a ha => hK31 _ _ (W.seq fun K32 hK32 => (W.cond rfl (fun h33 => ?_) (fun h33 => ?_))) a ha)))
     ·replace hF := ifP h33 hF
      refine W.skip fun a ha => hK32 _ _ (W.seq fun K34 hK34 => (W.block (W.seq fun K35 hK35 => (W.region (wl_move rfl rfl (wl_assign rfl rfl (WL.nil (fun a ha => hK35 _ _ (W.seq fun K36 hK36 => (W.regionH mixed_ [] hB25 hS26 ?_)) a ha)))))))) a ha
      intro w37 hb38 hB39 hS40
      have hSW41 := KeepX.refl w37 []
      refine WH.tk 0 rfl hP hSW41 (pr_field (o := 3) (off' := 3) ff_114_2 rfl rfl rfl (WH.tk 1 rfl hP hSW41 (pr_load_blk (i := 0) (vs := [v0_0]) (v := v0_0) tf_112 rfl rfl hS40 rfl rfl rfl (by simp) (WH.tk 2 rfl hP hSW41 (pr_move rfl rfl ?_)))))
      obtain ⟨u42, hu42, hF⟩ := bindE hF
      refine WH.tk 3 rfl hP hSW41 (pr_index (e := ty_169) Try.underlying112 rfl rfl rfl h0_0 hu42 ?_)
      rintro p43 _ rfl hp44
      refine WH.tk 4 rfl hP hSW41 (pr_load_p (vs := [(.int .i64 u42.1), (.int .i64 u42.2.1), (.int .i64 u42.2.2)]) (v := (.agg #[(.int .i64 u42.1), (.int .i64 u42.2.1), (.int .i64 u42.2.2)])) tf_169 rfl rfl (hp44.kx hB39 (by simp)) rfl rfl (WH.tk 5 rfl hP hSW41 (pr_field (o := 3) (off' := 3) ff_114_2 rfl rfl rfl (WH.tk 6 rfl hP hSW41 (pr_load_blk (i := 1) (vs := [v1_0]) (v := v1_0) tf_112 rfl rfl hS40 rfl rfl rfl (by simp) (WH.tk 7 rfl hP hSW41 (pr_move rfl rfl ?_)))))))
      obtain ⟨u45, hu45, hF⟩ := bindE hF
      refine WH.tk 8 rfl hP hSW41 (pr_index (e := ty_169) Try.underlying112 rfl rfl rfl h1_0 hu45 ?_)
      rintro p46 _ rfl hp47
      refine WH.tk 9 rfl hP hSW41 (pr_load_p (vs := [(.int .i64 u45.1), (.int .i64 u45.2.1), (.int .i64 u45.2.2)]) (v := (.agg #[(.int .i64 u45.1), (.int .i64 u45.2.1), (.int .i64 u45.2.2)])) tf_169 rfl rfl (hp47.kx hB39 (by simp)) rfl rfl (WH.tk 10 rfl hP hSW41 (pr_nes Try.eqGuardType169 (eq_169 u42 u45) rfl rfl rfl (WH.done (by kernel_rfl) (fun a ha => hK36 _ _ (W.cond rfl (fun h48 => ?_) (fun h48 => ?_)) a ha)))))
      ·replace hF := ifP h48 hF
       refine W.seq fun K49 hK49 => W.region (wl_assign rfl rfl (WL.nil (fun a ha => hK49 _ _ (W.ret ?_) a ha)))
       have hr := Option.some.inj hF
       subst hr
       exact rets (vs := [(.bool false)]) hQ rfl ⟨rv_tmp rfl, trivial⟩ ⟨rfl, hB39⟩
      ·replace hF := ifN h48 hF
       refine W.skip fun a ha => hK34 _ _ (W.region (wl_add rfl rfl rfl (wl_move rfl rfl (WL.nil ?_)))) a ha
       rw [hnx28] at hF
       exact fun a ha => hKL29 a _ m30 (Nat.lt_succ_self m30) ⟨(w64 (y27 + 1)), ha.sub ⟨rfl, rfl, rfl, rfl, trivial⟩, hB39, (hS40.sel [0, 1] rfl), hF⟩
     ·replace hF := ifN h33 hF
      refine W.exit fun a ha => hK22 _ _ (W.seq fun K50 hK50 => (W.region (wl_assign rfl rfl (WL.nil (fun a ha => hK50 _ _ (W.ret ?_) a ha))))) a ha
      have hr := Option.some.inj hF
      subst hr
      exact rets (vs := [(.bool true)]) hQ rfl ⟨rv_tmp rfl, trivial⟩ ⟨rfl, hB25⟩
 refine W.region (wl_field (o := 0) (off' := 0) ff_114_0 rfl rfl rfl (wl_load_blk (i := 1) (vs := [(.int .i64 x0.1)]) (v := (.int .i64 x0.1)) tf_3 rfl rfl hS11 rfl rfl rfl (wl_field (o := 0) (off' := 0) ff_114_0 rfl rfl rfl (wl_load_blk (i := 0) (vs := [(.int .i64 x1.1)]) (v := (.int .i64 x1.1)) tf_3 rfl rfl hS11 rfl rfl rfl (wl_neq rfl rfl rfl (wl_move rfl rfl ?_))))))
 rcases bE (x0.1 != x1.1) with h51 | h51
 ·replace hF := ifP h51 hF
  refine wl_off rfl rfl rfl h51 (wl_off rfl rfl rfl h51 (wl_off rfl rfl rfl h51 (wl_off rfl rfl rfl h51 (wl_off rfl rfl rfl h51 (wl_pick_t rfl rfl h51 rfl (wl_move rfl rfl (wl_off rfl rfl rfl rfl (wl_off rfl rfl rfl rfl (wl_off rfl rfl rfl rfl (wl_off rfl rfl rfl rfl (wl_off rfl rfl rfl rfl (wl_off rfl rfl rfl rfl (wl_off rfl rfl rfl rfl ?_)))))))))))))
  refine wl_pick_t rfl rfl rfl rfl (WL.nil ?_)
  exact fun a ha => hJ19 (true) _ hF hB10 (hS11.sel [1, 0] rfl) a (ha.sub ⟨rfl, rfl, rfl, trivial⟩)
 ·replace hF := ifN h51 hF
  refine wl_on rfl rfl h51 (wl_field (o := 1) (off' := 1) ff_114_1 rfl rfl rfl (wl_on rfl rfl h51 (wl_load_blk (i := 1) (vs := [(.int .i64 x0.2.1.1), (.int .i64 x0.2.1.2)]) (v := (.agg #[(.int .i64 x0.2.1.1), (.int .i64 x0.2.1.2)])) tf_68 rfl rfl hS11 rfl rfl rfl (wl_on rfl rfl h51 (wl_field (o := 1) (off' := 1) ff_114_1 rfl rfl rfl (wl_on rfl rfl h51 (wl_load_blk (i := 0) (vs := [(.int .i64 x1.2.1.1), (.int .i64 x1.2.1.2)]) (v := (.agg #[(.int .i64 x1.2.1.1), (.int .i64 x1.2.1.2)])) tf_68 rfl rfl hS11 rfl rfl rfl (wl_on rfl rfl h51 (wl_nes Try.eqGuardType68 (eq_68 x0.2.1 x1.2.1) rfl rfl rfl (wl_pick_f rfl rfl h51 rfl (wl_move rfl rfl ?_)))))))))))
  rcases bE (!(eqv_Spot x0.2.1 x1.2.1)) with h52 | h52
  ·replace hF := ifP h52 hF
   refine wl_off rfl rfl rfl h52 (wl_off rfl rfl rfl h52 (wl_off rfl rfl rfl h52 (wl_off rfl rfl rfl h52 (wl_off rfl rfl rfl h52 (wl_off rfl rfl rfl h52 (wl_off rfl rfl rfl h52 (wl_pick_t rfl rfl h52 rfl (WL.nil ?_))))))))
   exact fun a ha => hJ19 (true) _ hF hB10 (hS11.sel [1, 0] rfl) a (ha.sub ⟨rfl, rfl, rfl, trivial⟩)
  ·replace hF := ifN h52 hF
   refine wl_on rfl rfl h52 (wl_field (o := 3) (off' := 3) ff_114_2 rfl rfl rfl (wl_on rfl rfl h52 (wl_load_blk (i := 1) (vs := [v0_0]) (v := v0_0) tf_112 rfl rfl hS11 rfl rfl rfl (wl_on rfl rfl h52 (wl_lenr (e := ty_169) (l := x0.2.2) Try.underlying112 rfl rfl h0_0 (wl_on rfl rfl h52 (wl_field (o := 3) (off' := 3) ff_114_2 rfl rfl rfl (wl_on rfl rfl h52 (wl_load_blk (i := 0) (vs := [v1_0]) (v := v1_0) tf_112 rfl rfl hS11 rfl rfl rfl (wl_on rfl rfl h52 (wl_lenr (e := ty_169) (l := x1.2.2) Try.underlying112 rfl rfl h1_0 (wl_on rfl rfl h52 (wl_neq rfl rfl rfl ?_)))))))))))))
   refine wl_pick_f rfl rfl h52 rfl (WL.nil ?_)
   exact fun a ha => hJ19 (((List.length x0.2.2 : Int) != (List.length x1.2.2 : Int))) _ hF hB10 (hS11.sel [1, 0] rfl) a (ha.sub ⟨rfl, rfl, rfl, trivial⟩)
theorem C_laws_pSameSheets (w0 : World) (x0 : (List (Int × (Int × Int) × (List (Int × (Int × Int)))))) (v0_0 : Value) (h0_0 : rdS ty_114 (· < w0.heap.size) w0 v0_0 x0) (x1 : (List (Int × (Int × Int) × (List (Int × (Int × Int)))))) (v1_0 : Value) (h1_0 : rdS ty_114 (· < w0.heap.size) w0 v1_0 x1) (r : Bool) (hF : F_laws_pSameSheets x0 x1 = some r) :
  Calls Try.prog 83 [v0_0, v1_0].toArray w0 fun e w' => e = .returned (.bool r) ∧ Below w0.heap.size w0 w' := by
 refine calls_mk' Try.func83 rfl Try.ntmps83 rfl rfl fun Q hQ hP => ?_
 have hB : Below w0.heap.size w0 w0 := Below.refl _ _
 have hS : Sep w0.heap.size w0 [] := Sep.nil _ _
 unfold F_laws_pSameSheets at hF
 refine W.seq fun K1 hK1 => W.region (wl_assign rfl rfl (WL.nil (fun a ha => hK1 _ _ (W.seq fun K2 hK2 => (W.seq fun K3 hK3 => (W.region (wl_move rfl rfl (wl_lenr (e := ty_114) (l := x0) Try.underlying91 rfl rfl h0_0 (wl_move rfl rfl (wl_lenr (e := ty_114) (l := x1) Try.underlying91 rfl rfl h1_0 (wl_neq rfl rfl rfl (WL.nil ?_))))))))) a ha)))
 refine fun a ha => hK3 _ _ (W.cond rfl (fun h4 => ?_) (fun h4 => ?_)) a ha
 ·replace hF := ifP h4 hF
  refine W.seq fun K5 hK5 => W.region (wl_assign rfl rfl (WL.nil (fun a ha => hK5 _ _ (W.ret ?_) a ha)))
  have hr := Option.some.inj hF
  subst hr
  exact rets (vs := [(.bool false)]) hQ rfl ⟨rv_tmp rfl, trivial⟩ ⟨rfl, hB⟩
 ·replace hF := ifN h4 hF
  refine W.skip fun a ha => hK2 _ _ (W.seq fun K6 hK6 => (W.seq fun K7 hK7 => (W.region (wl_move rfl rfl (wl_lenr (e := ty_114) (l := x0) Try.underlying91 rfl rfl h0_0 (wl_move rfl rfl (WL.nil (fun a ha => hK7 _ _ (W.block (W.loopk (fun m a w8 => ∃ (y11 : Int), St 27 [(0, v0_0), (1, v1_0), (12, (.int .i64 (List.length x0 : Int))), (13, (.int .i64 y11))] a ∧ Below w0.heap.size w0 w8 ∧ Sep w0.heap.size w8 [] ∧ F_laws_pSameSheets_L1 x0 x1 m y11 = some r) FU ?_ ?_)) a ha)))))))) a ha
  ·
   exact fun a ha => ⟨0, ha.sub ⟨rfl, rfl, rfl, rfl, trivial⟩, hB, (hS.sel [] rfl), hF⟩
  ·
   rintro m14 a w8 ⟨y11, ha, hB9, hS10, hF⟩ KL13 hKL13
   refine W.at ?_ ha
   cases m14 with
   | zero => exact noneE hF
   | succ m14 =>
    obtain ⟨nx12, hnx12⟩ : ∃ k, k = F_laws_pSameSheets_L1 x0 x1 m14 := ⟨_, rfl⟩
    rw [F_laws_pSameSheets_L1, ← hnx12] at hF
    refine W.seq fun K15 hK15 => W.region (wl_lss rfl rfl rfl (WL.nil (fun a ha => hK15 _ _ (W.seq fun K16 hK16 => (W.cond rfl (fun h17 => ?_) (fun h17 => ?_))) a ha)))
    ·replace hF := ifP h17 hF
     refine W.skip fun a ha => hK16 _ _ (W.seq fun K18 hK18 => (W.block (W.seq fun K19 hK19 => (W.region (wl_move rfl rfl (wl_assign rfl rfl (WL.nil (fun a ha => hK19 _ _ (W.seq fun K20 hK20 => (W.regionH mixed_ [] hB9 hS10 ?_)) a ha)))))))) a ha
     intro w21 hb22 hB23 hS24
     have hSW25 := KeepX.refl w21 []
     refine WH.tk 0 rfl hP hSW25 (pr_move rfl rfl (WH.tk 1 rfl hP hSW25 (pr_move rfl rfl ?_)))
     obtain ⟨u26, hu26, hF⟩ := bindE hF
     refine WH.tk 2 rfl hP hSW25 (pr_index (e := ty_114) Try.underlying91 rfl rfl rfl h0_0 hu26 ?_)
     rintro p27 _ ⟨_, _, rfl, rfl, ⟨_, _, rfl, rfl, ⟨v29, rfl, hv30⟩⟩⟩ hp28
     refine WH.tk 3 rfl hP hSW25 (pr_load_p (vs := [(.int .i64 u26.1), (.int .i64 u26.2.1.1), (.int .i64 u26.2.1.2), v29]) (v := (.agg #[(.int .i64 u26.1), (.int .i64 u26.2.1.1), (.int .i64 u26.2.1.2), v29])) tf_114 rfl rfl (hp28.kx hB23 (by simp)) rfl rfl (WH.tk 4 rfl hP hSW25 (pr_move rfl rfl (WH.tk 5 rfl hP hSW25 (pr_move rfl rfl ?_)))))
     obtain ⟨u31, hu31, hF⟩ := bindE hF
     refine WH.tk 6 rfl hP hSW25 (pr_index (e := ty_114) Try.underlying91 rfl rfl rfl h1_0 hu31 ?_)
     rintro p32 _ ⟨_, _, rfl, rfl, ⟨_, _, rfl, rfl, ⟨v34, rfl, hv35⟩⟩⟩ hp33
     refine WH.tk 7 rfl hP hSW25 (pr_load_p (vs := [(.int .i64 u31.1), (.int .i64 u31.2.1.1), (.int .i64 u31.2.1.2), v34]) (v := (.agg #[(.int .i64 u31.1), (.int .i64 u31.2.1.1), (.int .i64 u31.2.1.2), v34])) tf_114 rfl rfl (hp33.kx hB23 (by simp)) rfl rfl (WH.on1 8 rfl ?_))
     obtain ⟨u36, hu36, hF⟩ := bindE hF
     refine wl_call rfl Try.call191 (C_laws_pSameSheet w21 u26 v29 (hv30.ro hB23) u31 v34 (hv35.ro hB23) _ hu36) rfl ?_
     rintro _ w37 ⟨rfl, hb38⟩
     refine ⟨_, rfl, ?_⟩
     have hB39 := hB23.trans (hb38.mono hB23.size)
     have hS40 := hS24.below hb38
     have hSW42 := hSW25.ext hb38
     refine WL.nil (WH.ret hSW42 (WH.tk 9 rfl hP hSW42 (pr_not rfl rfl (WH.done (by kernel_rfl) (fun a ha => hK20 _ _ (W.cond rfl (fun h43 => ?_) (fun h43 => ?_)) a ha)))))
     ·replace hF := ifP h43 hF
      refine W.seq fun K44 hK44 => W.region (wl_assign rfl rfl (WL.nil (fun a ha => hK44 _ _ (W.ret ?_) a ha)))
      have hr := Option.some.inj hF
      subst hr
      exact rets (vs := [(.bool false)]) hQ rfl ⟨rv_tmp rfl, trivial⟩ ⟨rfl, hB39⟩
     ·replace hF := ifN h43 hF
      refine W.skip fun a ha => hK18 _ _ (W.region (wl_add rfl rfl rfl (wl_move rfl rfl (WL.nil ?_)))) a ha
      rw [hnx12] at hF
      exact fun a ha => hKL13 a _ m14 (Nat.lt_succ_self m14) ⟨(w64 (y11 + 1)), ha.sub ⟨rfl, rfl, rfl, rfl, trivial⟩, hB39, (hS40.sel [] rfl), hF⟩
    ·replace hF := ifN h17 hF
     refine W.exit fun a ha => hK6 _ _ (W.seq fun K45 hK45 => (W.region (wl_assign rfl rfl (WL.nil (fun a ha => hK45 _ _ (W.ret ?_) a ha))))) a ha
     have hr := Option.some.inj hF
     subst hr
     exact rets (vs := [(.bool true)]) hQ rfl ⟨rv_tmp rfl, trivial⟩ ⟨rfl, hB9⟩
theorem C_impl_ChartsOf (w0 : World) (x0 : (List (Int × (Int × Int) × (List (Int × (Int × Int)))))) (v0_0 : Value) (h0_0 : rdS ty_114 (· < w0.heap.size) w0 v0_0 x0) (r : ((List (List (Int × Int))) × (List Int) × Bool)) (hF : F_impl_ChartsOf x0 = some r) :
  Calls Try.prog 84 [v0_0].toArray w0 fun e w' => ∃ (q0 : Value) (G0 : List Nat) (q1 : Value) (G1 : List Nat), e = .returned (.tuple #[q0, q1, (.bool r.2.2)]) ∧ Below w0.heap.size w0 w' ∧ Sep w0.heap.size w' [R.own ty_63 G0 q0 r.1, R.own ty_3 G1 q1 r.2.1] := by
 refine calls_mk' Try.func84 rfl Try.ntmps84 rfl rfl fun Q hQ hP => ?_
 have hB : Below w0.heap.size w0 w0 := Below.refl _ _
 have hS : Sep w0.heap.size w0 [] := Sep.nil _ _
 unfold F_impl_ChartsOf at hF
 refine W.seq fun K1 hK1 => W.region (wl_assign rfl rfl (wl_assign rfl rfl (wl_assign rfl rfl (WL.nil (fun a ha => hK1 _ _ (W.seq fun K2 hK2 => (W.seq fun K3 hK3 => (W.region (wl_move rfl rfl (wl_lenr (e := ty_114) (l := x0) Try.underlying91 rfl rfl h0_0 ?_))))) a ha)))))
 obtain ⟨u4, hu4, hF⟩ := bindE hF
 refine wl_call rfl Try.call128 (C_impl_within w0 (List.length x0 : Int) 1 12 _ hu4) rfl ?_
 rintro _ w5 ⟨rfl, hb6⟩
 refine ⟨_, rfl, ?_⟩
 have hB7 := hB.trans (hb6.mono hB.size)
 have hS8 := hS.below hb6
 refine wl_not rfl rfl (WL.nil (fun a ha => hK3 _ _ (W.cond rfl (fun h10 => ?_) (fun h10 => ?_)) a ha))
 ·replace hF := ifP h10 hF
  refine W.seq fun K11 hK11 => W.region (wl_assign rfl rfl (wl_assign rfl rfl (wl_assign rfl rfl (WL.nil (fun a ha => hK11 _ _ (W.ret ?_) a ha)))))
  have hS12 := hS8.push0 (r := R.own ty_63 [] (.slice none 0 0) []) rfl fun _ => .inl ⟨rfl, rfl, rfl⟩
  have hS13 := hS12.push0 (r := R.own ty_3 [] (.slice none 0 0) []) rfl fun _ => .inl ⟨rfl, rfl, rfl⟩
  have hr := Option.some.inj hF
  subst hr
  exact rets (vs := [(.slice none 0 0), (.slice none 0 0), (.bool false)]) hQ rfl ⟨rv_tmp rfl, rv_tmp rfl, rv_tmp rfl, trivial⟩ ⟨(.slice none 0 0), [], (.slice none 0 0), [], rfl, hB7, hS13.sel [1, 0] rfl⟩
 ·replace hF := ifN h10 hF
  refine W.skip fun a ha => hK2 _ _ (W.seq fun K14 hK14 => (W.seq fun K15 hK15 => (W.region (wl_move rfl rfl (wl_lenr (e := ty_114) (l := x0) Try.underlying91 rfl rfl h0_0 (wl_move rfl rfl (WL.nil (fun a ha => hK15 _ _ (W.block (W.loopk (fun m a w16 => ∃ (y19 : Int), St 119 [(0, v0_0), (20, v0_0), (21, (.int .i64 (List.length x0 : Int))), (22, (.int .i64 y19))] a ∧ Below w0.heap.size w0 w16 ∧ Sep w0.heap.size w16 [] ∧ F_impl_ChartsOf_L1 x0 m y19 = some r) FU ?_ ?_)) a ha)))))))) a ha
  ·
   exact fun a ha => ⟨0, ha.sub ⟨rfl, rfl, rfl, rfl, trivial⟩, hB7, (hS8.sel [] rfl), hF⟩
  ·
   rintro m22 a w16 ⟨y19, ha, hB17, hS18, hF⟩ KL21 hKL21
   refine W.at ?_ ha
   cases m22 with
   | zero => exact noneE hF
   | succ m22 =>
    obtain ⟨nx20, hnx20⟩ : ∃ k, k = F_impl_ChartsOf_L1 x0 m22 := ⟨_, rfl⟩
    rw [F_impl_ChartsOf_L1, ← hnx20] at hF
    refine W.seq fun K23 hK23 => W.region (wl_lss rfl rfl rfl (WL.nil (fun a ha => hK23 _ _ (W.seq fun K24 hK24 => (W.cond rfl (fun h25 => ?_) (fun h25 => ?_))) a ha)))
    ·replace hF := ifP h25 hF
     refine W.skip fun a ha => hK24 _ _ (W.seq fun K26 hK26 => (W.block (W.seq fun K27 hK27 => (W.region (wl_move rfl rfl ?_))))) a ha
     obtain ⟨u28, hu28, hF⟩ := bindE hF
     refine wl_index (e := ty_114) Try.underlying91 rfl rfl rfl h0_0 hu28 ?_
     rintro p29 _ ⟨_, _, rfl, rfl, ⟨_, _, rfl, rfl, ⟨v31, rfl, hv32⟩⟩⟩ hp30
     refine wl_load_p (vs := [(.int .i64 u28.1), (.int .i64 u28.2.1.1), (.int .i64 u28.2.1.2), v31]) (v := (.agg #[(.int .i64 u28.1), (.int .i64 u28.2.1.1), (.int .i64 u28.2.1.2), v31])) tf_114 rfl rfl (hp30.ro hB17) rfl rfl (wl_alloc (cs := [(.int .i64 0), (.int .i64 0), (.int .i64 0), (.slice none 0 0)]) tf_114 rfl rfl hB17 hS18 ?_)
     intro b33 w34 hb35 hB36 hS37
     refine wl_assign rfl rfl (wl_store_blk (i := 0) (vs := [(.int .i64 u28.1), (.int .i64 u28.2.1.1), (.int .i64 u28.2.1.2), v31]) (cs' := [(.int .i64 u28.1), (.int .i64 u28.2.1.1), (.int .i64 u28.2.1.2), v31]) tf_114 rfl rfl rfl rfl hB36 hS37 rfl rfl ⟨rfl, rfl, rfl, (hv32.ro hB36).one, trivial⟩ rfl ?_)
     intro w38 hk41 hB39 hS40
     refine WL.nil fun a ha => hK27 _ _ (W.seq fun K42 hK42 => ?_) a ha
     obtain ⟨k47, hk47, hF⟩ := jE1 hF
     have hJ48 : ∀ (y46 : Bool) (w43 : World) (_ : k47 y46 = some r) (_ : Below w0.heap.size w0 w43) (_ : Sep w0.heap.size w43 []), ∀ a, St 119 [(0, v0_0), (20, v0_0), (21, (.int .i64 (List.length x0 : Int))), (22, (.int .i64 y19)), (46, (.bool y46))] a → K42 a w43 := by
      intro y46 w43 hF hB44 hS45
      subst hk47
      refine fun a ha => hK42 _ _ (W.cond rfl (fun h49 => ?_) (fun h49 => ?_)) a ha
      ·replace hF := ifP h49 hF
       refine W.seq fun K50 hK50 => W.region (wl_assign rfl rfl (wl_assign rfl rfl (wl_assign rfl rfl (WL.nil (fun a ha => hK50 _ _ (W.ret ?_) a ha)))))
       have hS51 := hS45.push0 (r := R.own ty_63 [] (.slice none 0 0) []) rfl fun _ => .inl ⟨rfl, rfl, rfl⟩
       have hS52 := hS51.push0 (r := R.own ty_3 [] (.slice none 0 0) []) rfl fun _ => .inl ⟨rfl, rfl, rfl⟩
       have hr := Option.some.inj hF
       subst hr
       exact rets (vs := [(.slice none 0 0), (.slice none 0 0), (.bool false)]) hQ rfl ⟨rv_tmp rfl, rv_tmp rfl, rv_tmp rfl, trivial⟩ ⟨(.slice none 0 0), [], (.slice none 0 0), [], rfl, hB44, hS52.sel [1, 0] rfl⟩
      ·replace hF := ifN h49 hF
       refine W.skip fun a ha => hK26 _ _ (W.region (wl_add rfl rfl rfl (wl_move rfl rfl (WL.nil ?_)))) a ha
       rw [hnx20] at hF
       exact fun a ha => hKL21 a _ m22 (Nat.lt_succ_self m22) ⟨(w64 (y19 + 1)), ha.sub ⟨rfl, rfl, rfl, rfl, trivial⟩, hB44, (hS45.sel [] rfl), hF⟩
     refine W.regionH mixed_ [] hB39 hS40 ?_
     intro w53 hb54 hB55 hS56
     have hSW57 := KeepX.refl w53 []
     refine WH.tk 0 rfl hP hSW57 (pr_load_blk (i := 0) (vs := [(.int .i64 u28.1), (.int .i64 u28.2.1.1), (.int .i64 u28.2.1.2), v31]) (v := (.agg #[(.int .i64 u28.1), (.int .i64 u28.2.1.1), (.int .i64 u28.2.1.2), v31])) tf_114 rfl rfl hS56 rfl rfl rfl (by simp) (WH.on1 1 rfl ?_))
     obtain ⟨u58, hu58, hF⟩ := bindE hF
     refine wl_call rfl Try.call192 (C_impl_IsSheet w53 u28 v31 (hv32.ro hB55) _ hu58) rfl ?_
     rintro _ w59 ⟨rfl, hb60⟩
     refine ⟨_, rfl, ?_⟩
     have hB61 := hB55.trans (hb60.mono hB55.size)
     have hS62 := hS56.below hb60
     have hSW64 := hSW57.ext hb60
     refine WL.nil (WH.ret hSW64 (WH.tk 2 rfl hP hSW64 (pr_not rfl rfl (WH.tk 3 rfl hP hSW64 (pr_move rfl rfl ?_)))))
     rcases bE (!u58) with h65 | h65
     ·replace hF := ifP h65 hF
      refine WH.off (i := 4) rfl (by kernel_rfl) (by kernel_rfl) (by kernel_rfl) hP rfl rfl h65 rfl hSW64 (WH.off (i := 5) rfl (by kernel_rfl) (by kernel_rfl) (by kernel_rfl) hP rfl rfl h65 rfl hSW64 (WH.off (i := 6) rfl (by kernel_rfl) (by kernel_rfl) (by kernel_rfl) hP rfl rfl h65 rfl hSW64 (WH.off (i := 7) rfl (by kernel_rfl) (by kernel_rfl) (by kernel_rfl) hP rfl rfl h65 rfl hSW64 (WH.tk 8 rfl hP hSW64 (pr_pick_t rfl rfl h65 rfl (WH.tk 9 rfl hP hSW64 (pr_move rfl rfl (WH.off (i := 10) rfl (by kernel_rfl) (by kernel_rfl) (by kernel_rfl) hP rfl rfl rfl rfl hSW64 (WH.off (i := 11) rfl (by kernel_rfl) (by kernel_rfl) (by kernel_rfl) hP rfl rfl rfl rfl hSW64 (WH.off (i := 12) rfl (by kernel_rfl) (by kernel_rfl) (by kernel_rfl) hP rfl rfl rfl rfl hSW64 (WH.off (i := 13) rfl (by kernel_rfl) (by kernel_rfl) (by kernel_rfl) hP rfl rfl rfl rfl hSW64 ?_)))))))))))
      refine WH.off (i := 14) rfl (by kernel_rfl) (by kernel_rfl) (by kernel_rfl) hP rfl rfl rfl rfl hSW64 (WH.off (i := 15) rfl (by kernel_rfl) (by kernel_rfl) (by kernel_rfl) hP rfl rfl rfl rfl hSW64 (WH.off (i := 16) rfl (by kernel_rfl) (by kernel_rfl) (by kernel_rfl) hP rfl rfl rfl rfl hSW64 (WH.off (i := 17) rfl (by kernel_rfl) (by kernel_rfl) (by kernel_rfl) hP rfl rfl rfl rfl hSW64 (WH.off (i := 18) rfl (by kernel_rfl) (by kernel_rfl) (by kernel_rfl) hP rfl rfl rfl rfl hSW64 (WH.tk 19 rfl hP hSW64 (pr_pick_t rfl rfl rfl rfl (WH.done (by kernel_rfl) ?_)))))))
      exact fun a ha => hJ48 (true) _ hF hB61 (hS62.sel [] rfl) a (ha.sub ⟨rfl, rfl, rfl, rfl, rfl, trivial⟩)
     ·replace hF := ifN h65 hF
      refine WH.takexg (i := 4) rfl (by kernel_rfl) (by kernel_rfl) (by kernel_rfl) hP rfl rfl h65 hSW64 (pr_field (o := 0) (off' := 0) ff_114_0 rfl rfl rfl (WH.takexg (i := 5) rfl (by kernel_rfl) (by kernel_rfl) (by kernel_rfl) hP rfl rfl h65 hSW64 (pr_load_blk (i := 0) (vs := [(.int .i64 u28.1)]) (v := (.int .i64 u28.1)) tf_3 rfl rfl hS56 rfl rfl rfl (by simp) (WH.takexg (i := 6) rfl (by kernel_rfl) (by kernel_rfl) (by kernel_rfl) hP rfl rfl h65 hSW64 (pr_move rfl rfl (WH.takexg (i := 7) rfl (by kernel_rfl) (by kernel_rfl) (by kernel_rfl) hP rfl rfl h65 hSW64 (pr_neq rfl rfl rfl (WH.tk 8 rfl hP hSW64 (pr_pick_f rfl rfl h65 rfl (WH.tk 9 rfl hP hSW64 (pr_move rfl rfl ?_)))))))))))
      rcases bE (u28.1 != y19) with h66 | h66
      ·replace hF := ifP h66 hF
       refine WH.off (i := 10) rfl (by kernel_rfl) (by kernel_rfl) (by kernel_rfl) hP rfl rfl h66 rfl hSW64 (WH.off (i := 11) rfl (by kernel_rfl) (by kernel_rfl) (by kernel_rfl) hP rfl rfl h66 rfl hSW64 (WH.off (i := 12) rfl (by kernel_rfl) (by kernel_rfl) (by kernel_rfl) hP rfl rfl h66 rfl hSW64 (WH.off (i := 13) rfl (by kernel_rfl) (by kernel_rfl) (by kernel_rfl) hP rfl rfl h66 rfl hSW64 (WH.off (i := 14) rfl (by kernel_rfl) (by kernel_rfl) (by kernel_rfl) hP rfl rfl h66 rfl hSW64 (WH.off (i := 15) rfl (by kernel_rfl) (by kernel_rfl) (by kernel_rfl) hP rfl rfl h66 rfl hSW64 (WH.off (i := 16) rfl (by kernel_rfl) (by kernel_rfl) (by kernel_rfl) hP rfl rfl h66 rfl hSW64 (WH.off (i := 17) rfl (by kernel_rfl) (by kernel_rfl) (by kernel_rfl) hP rfl rfl h66 rfl hSW64 (WH.off (i := 18) rfl (by kernel_rfl) (by kernel_rfl) (by kernel_rfl) hP rfl rfl h66 rfl hSW64 (WH.tk 19 rfl hP hSW64 ?_)))))))))
       refine pr_pick_t rfl rfl h66 rfl (WH.done (by kernel_rfl) ?_)
       exact fun a ha => hJ48 (true) _ hF hB61 (hS62.sel [] rfl) a (ha.sub ⟨rfl, rfl, rfl, rfl, rfl, trivial⟩)
      ·replace hF := ifN h66 hF
       refine WH.takexg (i := 10) rfl (by kernel_rfl) (by kernel_rfl) (by kernel_rfl) hP rfl rfl h66 hSW64 (pr_field (o := 3) (off' := 3) ff_114_2 rfl rfl rfl (WH.takexg (i := 11) rfl (by kernel_rfl) (by kernel_rfl) (by kernel_rfl) hP rfl rfl h66 hSW64 (pr_load_blk (i := 0) (vs := [v31]) (v := v31) tf_112 rfl rfl hS56 rfl rfl rfl (by simp) (WH.takexg (i := 12) rfl (by kernel_rfl) (by kernel_rfl) (by kernel_rfl) hP rfl rfl h66 hSW64 (pr_lenr (e := ty_169) (l := u28.2.2) Try.underlying112 rfl rfl hv32 (WH.takexg (i := 13) rfl (by kernel_rfl) (by kernel_rfl) (by kernel_rfl) hP rfl rfl h66 hSW64 (pr_move rfl rfl ?_)))))))
       obtain ⟨u67, hu67, hF⟩ := bindE hF
       refine WH.takexg (i := 14) rfl (by kernel_rfl) (by kernel_rfl) (by kernel_rfl) hP rfl rfl h66 hSW64 (pr_index (e := ty_114) Try.underlying91 rfl rfl rfl h0_0 hu67 ?_)
       rintro p68 _ ⟨_, _, rfl, rfl, ⟨_, _, rfl, rfl, ⟨v70, rfl, hv71⟩⟩⟩ hp69
       refine WH.takexg (i := 15) rfl (by kernel_rfl) (by kernel_rfl) (by kernel_rfl) hP rfl rfl h66 hSW64 (pr_fieldp (o := 3) ff_114_2 rfl rfl (WH.takexg (i := 16) rfl (by kernel_rfl) (by kernel_rfl) (by kernel_rfl) hP rfl rfl h66 hSW64 (pr_load_p (vs := [v70]) (v := v70) tf_112 rfl rfl (EAt.addk (hp69.kx hB55 (by simp)) 3) rfl rfl (WH.takexg (i := 17) rfl (by kernel_rfl) (by kernel_rfl) (by kernel_rfl) hP rfl rfl h66 hSW64 (pr_lenr (e := ty_169) (l := u67.2.2) Try.underlying112 rfl rfl hv71 (WH.takexg (i := 18) rfl (by kernel_rfl) (by kernel_rfl) (by kernel_rfl) hP rfl rfl h66 hSW64 (pr_neq rfl rfl rfl (WH.tk 19 rfl hP hSW64 (pr_pick_f rfl rfl h66 rfl (WH.done (by kernel_rfl) ?_))))))))))
       exact fun a ha => hJ48 (((List.length u28.2.2 : Int) != (List.length u67.2.2 : Int))) _ hF hB61 (hS62.sel [] rfl) a (ha.sub ⟨rfl, rfl, rfl, rfl, rfl, trivial⟩)
    ·replace hF := ifN h25 hF
     refine W.exit fun a ha => hK14 _ _ (W.seq fun K72 hK72 => (W.region (wl_lit (vs := []) (l := []) fl_68 Try.underlying63 rfl rfl rfl rfl rfl rfl hB17 hS18 ?_))) a ha
     intro v73 F74 w75 hb76 hB77 hS78
     have hq79 := hS78.sel [0] rfl
     have hq80 := hq79.head (r' := R.cel ty_63 F74 [v73] []) (rfl) fun _ h0 => ⟨_, rfl, h0⟩
     refine wl_lit1 (e := ty_63) (vs := [v73]) Try.underlying51 rfl rfl (cells_one (hS78.own_ro (i := 0) rfl).one) rfl hB77 hq80 ?_
     intro v81 F82 w83 hb84 hf85 hB86 hS87
     refine wl_lit (vs := []) (l := []) fl_3 Try.underlying29 rfl rfl rfl rfl rfl rfl hB86 hS87 ?_
     intro v88 F89 w90 hb91 hB92 hS93
     refine wl_assign rfl rfl (wl_assign rfl rfl (WL.nil (fun a ha => hK72 _ _ (W.seq fun K94 hK94 => (W.seq fun K95 hK95 => (W.region (wl_move rfl rfl (wl_lenr (e := ty_114) (l := x0) Try.underlying91 rfl rfl h0_0 (wl_move rfl rfl (WL.nil (fun a ha => hK95 _ _ (W.block (W.loopk (fun m a w96 => ∃ (l99 : (List (List (Int × Int)))) (y102 : Int) (v100 : Value) (F101 : List Nat), St 119 [(0, v0_0), (7, v100), (8, v88), (51, v0_0), (52, (.int .i64 (List.length x0 : Int))), (53, (.int .i64 y102))] a ∧ Below w0.heap.size w0 w96 ∧ Sep w0.heap.size w96 [R.own ty_63 F101 v100 l99, R.own ty_3 F89 v88 []] ∧ F_impl_ChartsOf_L2 x0 m l99 y102 = some r) FU ?_ ?_)) a ha)))))))) a ha)))
     ·
      exact fun a ha => ⟨[[]], 0, v81, F82, ha.sub ⟨rfl, rfl, rfl, rfl, rfl, rfl, trivial⟩, hB92, (hS93.sel [1, 0] rfl), hF⟩
     ·
      rintro m105 a w96 ⟨l99, y102, v100, F101, ha, hB97, hS98, hF⟩ KL104 hKL104
      refine W.at ?_ ha
      cases m105 with
      | zero => exact noneE hF
      | succ m105 =>
       obtain ⟨nx103, hnx103⟩ : ∃ k, k = F_impl_ChartsOf_L2 x0 m105 := ⟨_, rfl⟩
       rw [F_impl_ChartsOf_L2, ← hnx103] at hF
       refine W.seq fun K106 hK106 => W.region (wl_lss rfl rfl rfl (WL.nil (fun a ha => hK106 _ _ (W.seq fun K107 hK107 => (W.cond rfl (fun h108 => ?_) (fun h108 => ?_))) a ha)))
       ·replace hF := ifP h108 hF
        refine W.skip fun a ha => hK107 _ _ (W.seq fun K109 hK109 => ?_) a ha
        obtain ⟨k116, hk116, hF⟩ := jE1 hF
        have hJ117 : ∀ (l113 : (List (List (Int × Int)))) (v114 : Value) (F115 : List Nat) (w110 : World) (_ : k116 l113 = some r) (_ : Below w0.heap.size w0 w110) (_ : Sep w0.heap.size w110 [R.own ty_63 F115 v114 l113, R.own ty_3 F89 v88 []]), ∀ a, St 119 [(0, v0_0), (7, v114), (8, v88), (51, v0_0), (52, (.int .i64 (List.length x0 : Int))), (53, (.int .i64 y102))] a → K109 a w110 := by
         intro l113 v114 F115 w110 hF hB111 hS112
         subst hk116
         refine fun a ha => hK109 _ _ (W.region (wl_add rfl rfl rfl (wl_move rfl rfl (WL.nil ?_)))) a ha
         rw [hnx103] at hF
         exact fun a ha => hKL104 a _ m105 (Nat.lt_succ_self m105) ⟨l113, (w64 (y102 + 1)), v114, F115, ha.sub ⟨rfl, rfl, rfl, rfl, rfl, rfl, trivial⟩, hB111, (hS112.sel [0, 1] rfl), hF⟩
        refine W.block (W.seq fun K118 hK118 => (W.region ?_))
        obtain ⟨u119, hu119, hF⟩ := bindE hF
        refine wl_index (e := ty_114) Try.underlying91 rfl rfl rfl h0_0 hu119 ?_
        rintro p120 _ ⟨_, _, rfl, rfl, ⟨_, _, rfl, rfl, ⟨v122, rfl, hv123⟩⟩⟩ hp121
        refine wl_load_p (vs := [(.int .i64 u119.1), (.int .i64 u119.2.1.1), (.int .i64 u119.2.1.2), v122]) (v := (.agg #[(.int .i64 u119.1), (.int .i64 u119.2.1.1), (.int .i64 u119.2.1.2), v122])) tf_114 rfl rfl (hp121.ro hB97) rfl rfl (wl_alloc (cs := [(.int .i64 0), (.int .i64 0), (.int .i64 0), (.slice none 0 0)]) tf_114 rfl rfl hB97 hS98 ?_)
        intro b124 w125 hb126 hB127 hS128
        refine wl_store_blk (i := 0) (vs := [(.int .i64 u119.1), (.int .i64 u119.2.1.1), (.int .i64 u119.2.1.2), v122]) (cs' := [(.int .i64 u119.1), (.int .i64 u119.2.1.1), (.int .i64 u119.2.1.2), v122]) tf_114 rfl rfl rfl rfl hB127 hS128 rfl rfl ⟨rfl, rfl, rfl, (hv123.ro hB127).one, trivial⟩ rfl ?_
        intro w129 hk132 hB130 hS131
        refine WL.nil fun a ha => hK118 _ _ (W.regionH mixed_ F101 hB130 hS131 ?_) a ha
        intro w133 hb134 hB135 hS136
        have hSW137 := KeepX.refl w133 F101
        refine WH.tk 0 rfl hP hSW137 (pr_move rfl rfl (WH.tk 1 rfl hP hSW137 (pr_move rfl rfl ?_)))
        obtain ⟨u138, hu138, hF⟩ := bindE hF
        refine WH.tk 2 rfl hP hSW137 (pr_indexoF (e := ty_63) (i := 1) Try.underlying51 rfl rfl rfl hS136 rfl hu138 ?_)
        rintro p139 _ ⟨v141, rfl, hv142⟩ hp140 ho143
        refine WH.tk 4 rfl hP hSW137 (pr_field (o := 1) (off' := 1) ff_114_1 rfl rfl rfl (WH.tk 5 rfl hP hSW137 (pr_load_blk (i := 0) (vs := [(.int .i64 u119.2.1.1), (.int .i64 u119.2.1.2)]) (v := (.agg #[(.int .i64 u119.2.1.1), (.int .i64 u119.2.1.2)])) tf_68 rfl rfl hS136 rfl rfl rfl (hS136.disj (i := 0) (j := 1) rfl rfl rfl b124 (by simp [R.blk])) (WH.many (is := [3, 6]) (by kernel_rfl) rfl (List.forall_mem_cons.2 ⟨⟨_, rfl, ?_⟩, List.forall_mem_cons.2 ⟨⟨_, rfl, ?_⟩, fun _ h => by cases h⟩⟩)))))
        ·
         refine wl_load_p (vs := [v141]) (v := v141) tf_63 rfl rfl hp140 rfl rfl (WL.nil (WH.ret hSW137 (WH.on1 6 rfl (wl_lit (vs := [(.agg #[(.int .i64 u119.2.1.1), (.int .i64 u119.2.1.2)])]) (l := [u119.2.1]) fl_68 Try.underlying63 rfl rfl rfl rfl rfl rfl (Below.self w133) (Sep.nil _ _) ?_))))
         intro v144 F145 w146 hb147 hB150 hM151
         have hB148 := hB135.trans (hb147.mono hB135.size)
         have hS149 := hS136.join hb147 hM151 hB135.size
         have hpv153 := hp140.keepS (fun b hb => hb147.block b (((hS136.get (i := 1) rfl).2.1 b hb).2)) (fun _ h => h)
         have hSW155 := hSW137.ext hb147
         refine WL.nil (WH.ret hSW155 (WH.on1 7 rfl ?_))
         obtain ⟨F157, hS158, hq159, hq160⟩ := (hS149.sel [2, 0, 1, 3] rfl).lend (e := ty_63) (F := F101) (v := v100) (l := l99) hu138 ho143 (hpv153.keepS (fun _ _ => rfl) (fun b hb => ((hS149.get (i := 2) rfl).2.1 b hb).2)) rfl
         have hS161 : Sep w0.heap.size w146 [R.own ty_68 F157 v141 u138, R.hol ty_63 F101 F157 v100 l99 (0 : Int).toNat, R.own ty_68 F145 v144 [u119.2.1], R.blk b124 114 [(.int .i64 u119.1), (.int .i64 u119.2.1.1), (.int .i64 u119.2.1.2), v122], R.own ty_3 F89 v88 []] := hS158.head rfl fun _ h => by obtain ⟨_, h1, h2⟩ := h; cases h1; exact h2
         obtain ⟨u162, hu162, hF⟩ := bindE hF
         refine wl_append (i := 0) (S := (· < w146.heap.size)) fl_68 Try.underlying63 rfl rfl rfl hB148 hS161 rfl (hS161.own_ro (i := 2) rfl) hu162 ?_
         intro v163 F164 w165 hk166 hB167 hS168
         have hSW169 := hSW155.wr' hk166.1 hk166.2.1 (fun b hlt hb => (fun _ _ h => h) b hlt (hq159 b hb))
         refine WL.nil (WH.ret hSW169 (WH.on1 8 rfl ?_))
         obtain ⟨u171, hu171, hF⟩ := bindE hF
         refine wl_indexh (i := 1) Try.underlying51 rfl rfl rfl hS168 rfl hu171 ?_
         intro p172 ho174
         refine WL.nil (WH.ret hSW169 (WH.on1 9 rfl (wl_storeh (vs := [v163]) (u' := u162) tf_63 rfl rfl (cells_one (hS168.own_ro (i := 0) rfl).one) rfl ho174 hu171 hB167 (((hS168.sel [0, 1, 2, 3, 4] rfl).cel1 (e := ty_63) (fun _ _ _ _ h => ⟨_, rfl, h⟩)).sel [1, 0, 2, 3, 4] rfl) rfl ⟨(hS168.own_ro (i := 0) rfl).one, trivial⟩ hq160 ?_)))
         intro w175 F178 hk179 hB176 hS177
         have hSW180 := hSW169.wr' hk179.1 hk179.2.1 (fun _ _ h => h)
         refine WL.nil (WH.ret hSW180 (WH.done (by kernel_rfl) ?_))
         exact fun a ha => hJ117 ((seti l99 0 u162)) (v100) (F178) _ hF hB176 (hS177.sel [0, 3] rfl) a (ha.sub ⟨rfl, rfl, rfl, rfl, rfl, rfl, trivial⟩)
        ·
         refine wl_lit (vs := [(.agg #[(.int .i64 u119.2.1.1), (.int .i64 u119.2.1.2)])]) (l := [u119.2.1]) fl_68 Try.underlying63 rfl rfl rfl rfl rfl rfl (Below.self w133) (Sep.nil _ _) ?_
         intro v181 F182 w183 hb184 hB187 hM188
         have hB185 := hB135.trans (hb184.mono hB135.size)
         have hS186 := hS136.join hb184 hM188 hB135.size
         have hpv190 := hp140.keepS (fun b hb => hb184.block b (((hS136.get (i := 1) rfl).2.1 b hb).2)) (fun _ h => h)
         have hSW191 := hSW137.ext hb184
         refine WL.nil (WH.ret hSW191 (WH.on1 3 rfl (wl_load_p (vs := [v141]) (v := v141) tf_63 rfl rfl hpv190 rfl rfl (WL.nil (WH.ret hSW191 (WH.on1 7 rfl ?_))))))
         obtain ⟨F193, hS194, hq195, hq196⟩ := (hS186.sel [2, 0, 1, 3] rfl).lend (e := ty_63) (F := F101) (v := v100) (l := l99) hu138 ho143 (hpv190.keepS (fun _ _ => rfl) (fun b hb => ((hS186.get (i := 2) rfl).2.1 b hb).2)) rfl
         have hS197 : Sep w0.heap.size w183 [R.own ty_68 F193 v141 u138, R.hol ty_63 F101 F193 v100 l99 (0 : Int).toNat, R.own ty_68 F182 v181 [u119.2.1], R.blk b124 114 [(.int .i64 u119.1), (.int .i64 u119.2.1.1), (.int .i64 u119.2.1.2), v122], R.own ty_3 F89 v88 []] := hS194.head rfl fun _ h => by obtain ⟨_, h1, h2⟩ := h; cases h1; exact h2
         obtain ⟨u198, hu198, hF⟩ := bindE hF
         refine wl_append (i := 0) (S := (· < w183.heap.size)) fl_68 Try.underlying63 rfl rfl rfl hB185 hS197 rfl (hS197.own_ro (i := 2) rfl) hu198 ?_
         intro v199 F200 w201 hk202 hB203 hS204
         have hSW205 := hSW191.wr' hk202.1 hk202.2.1 (fun b hlt hb => (fun _ _ h => h) b hlt (hq195 b hb))
         refine WL.nil (WH.ret hSW205 (WH.on1 8 rfl ?_))
         obtain ⟨u207, hu207, hF⟩ := bindE hF
         refine wl_indexh (i := 1) Try.underlying51 rfl rfl rfl hS204 rfl hu207 ?_
         intro p208 ho210
         refine WL.nil (WH.ret hSW205 (WH.on1 9 rfl (wl_storeh (vs := [v199]) (u' := u198) tf_63 rfl rfl (cells_one (hS204.own_ro (i := 0) rfl).one) rfl ho210 hu207 hB203 (((hS204.sel [0, 1, 2, 3, 4] rfl).cel1 (e := ty_63) (fun _ _ _ _ h => ⟨_, rfl, h⟩)).sel [1, 0, 2, 3, 4] rfl) rfl ⟨(hS204.own_ro (i := 0) rfl).one, trivial⟩ hq196 ?_)))
         intro w211 F214 hk215 hB212 hS213
         have hSW216 := hSW205.wr' hk215.1 hk215.2.1 (fun _ _ h => h)
         refine WL.nil (WH.ret hSW216 (WH.done (by kernel_rfl) ?_))
         exact fun a ha => hJ117 ((seti l99 0 u198)) (v100) (F214) _ hF hB212 (hS213.sel [0, 3] rfl) a (ha.sub ⟨rfl, rfl, rfl, rfl, rfl, rfl, trivial⟩)
       ·replace hF := ifN h108 hF
        refine W.exit fun a ha => hK94 _ _ (W.seq fun K217 hK217 => (W.seq fun K218 hK218 => (W.region (wl_move rfl rfl ?_)))) a ha
        obtain ⟨u219, hu219, hF⟩ := bindE hF
        refine wl_index (e := ty_114) Try.underlying91 rfl rfl rfl h0_0 hu219 ?_
        rintro p220 _ ⟨_, _, rfl, rfl, ⟨_, _, rfl, rfl, ⟨v222, rfl, hv223⟩⟩⟩ hp221
        refine wl_fieldp (o := 3) ff_114_2 rfl rfl (wl_load_p (vs := [v222]) (v := v222) tf_112 rfl rfl ((hp221.ro hB97).add 3) rfl rfl (wl_lenr (e := ty_169) (l := u219.2.2) Try.underlying112 rfl rfl hv223 (wl_move rfl rfl (WL.nil (fun a ha => hK218 _ _ (W.block (W.loopk (fun m a w224 => ∃ (l227 : (List (List (Int × Int)))) (l230 : (List Int)) (y233 : Int) (v228 : Value) (F229 : List Nat) (v231 : Value) (F232 : List Nat), St 119 [(0, v0_0), (7, v228), (8, v231), (70, v222), (71, (.int .i64 (List.length u219.2.2 : Int))), (72, (.int .i64 y233))] a ∧ Below w0.heap.size w0 w224 ∧ Sep w0.heap.size w224 [R.own ty_63 F229 v228 l227, R.own ty_3 F232 v231 l230] ∧ F_impl_ChartsOf_L3 u219 x0 m l227 l230 y233 = some r) FU ?_ ?_)) a ha)))))
        ·
         exact fun a ha => ⟨l99, [], 0, v100, F101, v88, F89, ha.sub ⟨rfl, rfl, rfl, rfl, rfl, rfl, trivial⟩, hB97, (hS98.sel [0, 1] rfl), hF⟩
        ·
         rintro m236 a w224 ⟨l227, l230, y233, v228, F229, v231, F232, ha, hB225, hS226, hF⟩ KL235 hKL235
         refine W.at ?_ ha
         cases m236 with
         | zero => exact noneE hF
         | succ m236 =>
          obtain ⟨nx234, hnx234⟩ : ∃ k, k = F_impl_ChartsOf_L3 u219 x0 m236 := ⟨_, rfl⟩
          rw [F_impl_ChartsOf_L3, ← hnx234] at hF
          refine W.seq fun K237 hK237 => W.region (wl_lss rfl rfl rfl (WL.nil (fun a ha => hK237 _ _ (W.seq fun K238 hK238 => (W.cond rfl (fun h239 => ?_) (fun h239 => ?_))) a ha)))
          ·replace hF := ifP h239 hF
           refine W.skip fun a ha => hK238 _ _ (W.seq fun K240 hK240 => (W.block (W.seq fun K241 hK241 => (W.region (wl_move rfl rfl ?_))))) a ha
           obtain ⟨u242, hu242, hF⟩ := bindE hF
           refine wl_index (e := ty_169) Try.underlying112 rfl rfl rfl hv223 hu242 ?_
           rintro p243 _ rfl hp244
           refine wl_load_p (vs := [(.int .i64 u242.1), (.int .i64 u242.2.1), (.int .i64 u242.2.2)]) (v := (.agg #[(.int .i64 u242.1), (.int .i64 u242.2.1), (.int .i64 u242.2.2)])) tf_169 rfl rfl (hp244.ro hB225) rfl rfl (wl_alloc (cs := [(.int .i64 0), (.int .i64 0), (.int .i64 0)]) tf_169 rfl rfl hB225 hS226 ?_)
           intro b245 w246 hb247 hB248 hS249
           refine wl_assign rfl rfl (wl_store_blk (i := 0) (vs := [(.int .i64 u242.1), (.int .i64 u242.2.1), (.int .i64 u242.2.2)]) (cs' := [(.int .i64 u242.1), (.int .i64 u242.2.1), (.int .i64 u242.2.2)]) tf_169 rfl rfl rfl rfl hB248 hS249 rfl rfl ⟨rfl, rfl, rfl, trivial⟩ rfl ?_)
           intro w250 hk253 hB251 hS252
           refine WL.nil fun a ha => hK241 _ _ (W.seq fun K254 hK254 => (W.region (wl_lit (vs := []) (l := []) fl_68 Try.underlying63 rfl rfl rfl rfl rfl rfl hB251 hS252 ?_))) a ha
           intro v255 F256 w257 hb258 hB259 hS260
           refine wl_assign rfl rfl (WL.nil (fun a ha => hK254 _ _ (W.seq fun K261 hK261 => (W.seq fun K262 hK262 => (W.region (wl_move rfl rfl (wl_lenr (e := ty_114) (l := x0) Try.underlying91 rfl rfl h0_0 (wl_move rfl rfl (WL.nil (fun a ha => hK262 _ _ (W.block ?_) a ha)))))))) a ha))
           refine W.loopk (fun m a w263 => ∃ (l266 : (List (Int × Int))) (y269 : Int) (v267 : Value) (F268 : List Nat), St 119 [(0, v0_0), (7, v228), (8, v231), (11, (.int .i64 y233)), (12, (.pointer (some ⟨b245, 0, none⟩))), (13, v267), (70, v222), (71, (.int .i64 (List.length u219.2.2 : Int))), (72, (.int .i64 y233)), (78, v0_0), (79, (.int .i64 (List.length x0 : Int))), (80, (.int .i64 y269))] a ∧ Below w0.heap.size w0 w263 ∧ Sep w0.heap.size w263 [R.own ty_63 F229 v228 l227, R.own ty_3 F232 v231 l230, R.blk b245 169 [(.int .i64 u242.1), (.int .i64 u242.2.1), (.int .i64 u242.2.2)], R.own ty_68 F268 v267 l266] ∧ F_impl_ChartsOf_L4 x0 y233 u242 l227 l230 nx234 m l266 y269 = some r) FU ?_ ?_
           ·
            exact fun a ha => ⟨[], 0, v255, F256, ha.sub ⟨rfl, rfl, rfl, rfl, rfl, rfl, rfl, rfl, rfl, rfl, rfl, rfl, trivial⟩, hB259, (hS260.sel [2, 3, 1, 0] rfl), hF⟩
           ·
            rintro m272 a w263 ⟨l266, y269, v267, F268, ha, hB264, hS265, hF⟩ KL271 hKL271
            refine W.at ?_ ha
            cases m272 with
            | zero => exact noneE hF
            | succ m272 =>
             obtain ⟨nx270, hnx270⟩ : ∃ k, k = F_impl_ChartsOf_L4 x0 y233 u242 l227 l230 nx234 m272 := ⟨_, rfl⟩
             rw [F_impl_ChartsOf_L4, ← hnx270] at hF
             refine W.seq fun K273 hK273 => W.region (wl_lss rfl rfl rfl (WL.nil (fun a ha => hK273 _ _ (W.seq fun K274 hK274 => (W.cond rfl (fun h275 => ?_) (fun h275 => ?_))) a ha)))
             ·replace hF := ifP h275 hF
              refine W.skip fun a ha => hK274 _ _ (W.seq fun K276 hK276 => (W.block (W.seq fun K277 hK277 => (W.region ?_)))) a ha
              obtain ⟨u278, hu278, hF⟩ := bindE hF
              refine wl_index (e := ty_114) Try.underlying91 rfl rfl rfl h0_0 hu278 ?_
              rintro p279 _ ⟨_, _, rfl, rfl, ⟨_, _, rfl, rfl, ⟨v281, rfl, hv282⟩⟩⟩ hp280
              refine wl_load_p (vs := [(.int .i64 u278.1), (.int .i64 u278.2.1.1), (.int .i64 u278.2.1.2), v281]) (v := (.agg #[(.int .i64 u278.1), (.int .i64 u278.2.1.1), (.int .i64 u278.2.1.2), v281])) tf_114 rfl rfl (hp280.ro hB264) rfl rfl (wl_alloc (cs := [(.int .i64 0), (.int .i64 0), (.int .i64 0), (.slice none 0 0)]) tf_114 rfl rfl hB264 hS265 ?_)
              intro b283 w284 hb285 hB286 hS287
              refine wl_store_blk (i := 0) (vs := [(.int .i64 u278.1), (.int .i64 u278.2.1.1), (.int .i64 u278.2.1.2), v281]) (cs' := [(.int .i64 u278.1), (.int .i64 u278.2.1.1), (.int .i64 u278.2.1.2), v281]) tf_114 rfl rfl rfl rfl hB286 hS287 rfl rfl ⟨rfl, rfl, rfl, (hv282.ro hB286).one, trivial⟩ rfl ?_
              intro w288 hk291 hB289 hS290
              refine WL.nil fun a ha => hK277 _ _ (W.seq fun K292 hK292 => (W.seq fun K293 hK293 => (W.regionH mixed_ [] hB289 hS290 ?_))) a ha
              intro w294 hb295 hB296 hS297
              have hSW298 := KeepX.refl w294 []
              refine WH.tk 0 rfl hP hSW298 (pr_field (o := 3) (off' := 3) ff_114_2 rfl rfl rfl (WH.tk 1 rfl hP hSW298 (pr_load_blk (i := 0) (vs := [v281]) (v := v281) tf_112 rfl rfl hS297 rfl rfl rfl (by simp) (WH.tk 2 rfl hP hSW298 (pr_move rfl rfl ?_)))))
              obtain ⟨u299, hu299, hF⟩ := bindE hF
              refine WH.tk 3 rfl hP hSW298 (pr_index (e := ty_169) Try.underlying112 rfl rfl rfl hv282 hu299 ?_)
              rintro p300 _ rfl hp301
              refine WH.tk 4 rfl hP hSW298 (pr_fieldp (o := 0) ff_169_0 rfl rfl (WH.tk 5 rfl hP hSW298 (pr_load_p (vs := [(.int .i64 u299.1)]) (v := (.int .i64 u299.1)) tf_3 rfl rfl (EAt.addk (hp301.kx hB296 (by simp)) 0) rfl rfl (WH.tk 6 rfl hP hSW298 (pr_field (o := 0) (off' := 0) ff_169_0 rfl rfl rfl (WH.tk 7 rfl hP hSW298 (pr_load_blk (i := 3) (vs := [(.int .i64 u242.1)]) (v := (.int .i64 u242.1)) tf_3 rfl rfl hS297 rfl rfl rfl (by simp) (WH.tk 8 rfl hP hSW298 (pr_neq rfl rfl rfl (WH.done (by kernel_rfl) (fun a ha => hK293 _ _ (W.cond rfl (fun h302 => ?_) (fun h302 => ?_)) a ha)))))))))))
              ·replace hF := ifP h302 hF
               refine W.seq fun K303 hK303 => W.region (wl_assign rfl rfl (wl_assign rfl rfl (wl_assign rfl rfl (WL.nil (fun a ha => hK303 _ _ (W.ret ?_) a ha)))))
               have hS304 := hS297.push0 (r := R.own ty_63 [] (.slice none 0 0) []) rfl fun _ => .inl ⟨rfl, rfl, rfl⟩
               have hS305 := hS304.push0 (r := R.own ty_3 [] (.slice none 0 0) []) rfl fun _ => .inl ⟨rfl, rfl, rfl⟩
               have hr := Option.some.inj hF
               subst hr
               exact rets (vs := [(.slice none 0 0), (.slice none 0 0), (.bool false)]) hQ rfl ⟨rv_tmp rfl, rv_tmp rfl, rv_tmp rfl, trivial⟩ ⟨(.slice none 0 0), [], (.slice none 0 0), [], rfl, hB296, hS305.sel [1, 0] rfl⟩
              ·replace hF := ifN h302 hF
               refine W.skip fun a ha => hK292 _ _ (W.region (wl_move rfl rfl (wl_field (o := 3) (off' := 3) ff_114_2 rfl rfl rfl (wl_load_blk (i := 0) (vs := [v281]) (v := v281) tf_112 rfl rfl hS297 rfl rfl rfl (wl_move rfl rfl ?_))))) a ha
               obtain ⟨u306, hu306, hF⟩ := bindE hF
               refine wl_index (e := ty_169) Try.underlying112 rfl rfl rfl hv282 hu306 ?_
               rintro p307 _ rfl hp308
               refine wl_fieldp (o := 1) ff_169_1 rfl rfl (wl_load_p (vs := [(.int .i64 u306.2.1), (.int .i64 u306.2.2)]) (v := (.agg #[(.int .i64 u306.2.1), (.int .i64 u306.2.2)])) tf_68 rfl rfl ((hp308.ro hB296).add 1) rfl rfl (wl_lit (vs := [(.agg #[(.int .i64 u306.2.1), (.int .i64 u306.2.2)])]) (l := [u306.2]) fl_68 Try.underlying63 rfl rfl rfl rfl rfl rfl hB296 hS297 ?_))
               intro v309 F310 w311 hb312 hB313 hS314
               obtain ⟨u315, hu315, hF⟩ := bindE hF
               refine wl_append (i := 5) (S := (· < w311.heap.size)) fl_68 Try.underlying63 rfl rfl rfl hB313 hS314 rfl (hS314.own_ro (i := 0) rfl) hu315 ?_
               intro v316 F317 w318 hk319 hB320 hS321
               refine wl_assign rfl rfl (WL.nil (fun a ha => hK276 _ _ (W.region (wl_add rfl rfl rfl (wl_move rfl rfl (WL.nil ?_)))) a ha))
               rw [hnx270] at hF
               exact fun a ha => hKL271 a _ m272 (Nat.lt_succ_self m272) ⟨u315, (w64 (y269 + 1)), v316, F317, ha.sub ⟨rfl, rfl, rfl, rfl, rfl, rfl, rfl, rfl, rfl, rfl, rfl, rfl, trivial⟩, hB320, (hS321.sel [2, 3, 4, 5] rfl), hF⟩
             ·replace hF := ifN h275 hF
              refine W.exit fun a ha => hK261 _ _ (W.seq fun K322 hK322 => (W.region (wl_move rfl rfl (wl_move rfl rfl ?_)))) a ha
              have hq323 := hS265.sel [3, 0, 1, 2] rfl
              have hq324 := hq323.head (r' := R.cel ty_63 F268 [v267] l266) (rfl) fun _ h0 => ⟨_, rfl, h0⟩
              refine wl_lit1 (e := ty_63) (vs := [v267]) Try.underlying51 rfl rfl (cells_one (hS265.own_ro (i := 3) rfl).one) rfl hB264 hq324 ?_
              intro v325 F326 w327 hb328 hf329 hB330 hS331
              obtain ⟨u332, hu332, hF⟩ := bindE hF
              refine wl_appendn (e := ty_63) Try.underlying51 rfl rfl rfl hB330 (hS331.sel [1, 0, 2, 3] rfl) hu332 ?_
              intro v333 F334 w335 hk336 hB337 hS338
              refine wl_assign rfl rfl (WL.nil (fun a ha => hK322 _ _ (W.region (wl_move rfl rfl (wl_field (o := 0) (off' := 0) ff_169_0 rfl rfl rfl (wl_load_blk (i := 2) (vs := [(.int .i64 u242.1)]) (v := (.int .i64 u242.1)) tf_3 rfl rfl hS338 rfl rfl rfl (wl_lit (vs := [(.int .i64 u242.1)]) (l := [u242.1]) fl_3 Try.underlying29 rfl rfl rfl rfl rfl rfl hB337 hS338 ?_))))) a ha))
              intro v339 F340 w341 hb342 hB343 hS344
              obtain ⟨u345, hu345, hF⟩ := bindE hF
              refine wl_append (i := 2) (S := (· < w341.heap.size)) fl_3 Try.underlying29 rfl rfl rfl hB343 hS344 rfl (hS344.own_ro (i := 0) rfl) hu345 ?_
              intro v346 F347 w348 hk349 hB350 hS351
              refine wl_assign rfl rfl (WL.nil (fun a ha => hK240 _ _ (W.region (wl_add rfl rfl rfl (wl_move rfl rfl (WL.nil ?_)))) a ha))
              rw [hnx234] at hF
              exact fun a ha => hKL235 a _ m236 (Nat.lt_succ_self m236) ⟨u332, u345, (w64 (y233 + 1)), v333, F334, v346, F347, ha.sub ⟨rfl, rfl, rfl, rfl, rfl, rfl, trivial⟩, hB350, (hS351.sel [1, 2] rfl), hF⟩
          ·replace hF := ifN h239 hF
           refine W.exit fun a ha => hK217 _ _ (W.seq fun K352 hK352 => (W.seq fun K353 hK353 => (W.region (wl_move rfl rfl (wl_move rfl rfl ?_))))) a ha
           obtain ⟨u354, hu354, hF⟩ := bindE hF
           refine wl_call rfl Try.call175 (C_impl_areCharts w224 l227 v228 (hS226.own_ro (i := 0) rfl) l230 v231 (hS226.own_ro (i := 1) rfl) _ hu354) rfl ?_
           rintro _ w355 ⟨rfl, hb356⟩
           refine ⟨_, rfl, ?_⟩
           have hB357 := hB225.trans (hb356.mono hB225.size)
           have hS358 := hS226.below hb356
           refine wl_not rfl rfl (WL.nil (fun a ha => hK353 _ _ (W.cond rfl (fun h360 => ?_) (fun h360 => ?_)) a ha))
           ·replace hF := ifP h360 hF
            refine W.seq fun K361 hK361 => W.region (wl_assign rfl rfl (wl_assign rfl rfl (wl_assign rfl rfl (WL.nil (fun a ha => hK361 _ _ (W.ret ?_) a ha)))))
            have hS362 := hS358.push0 (r := R.own ty_63 [] (.slice none 0 0) []) rfl fun _ => .inl ⟨rfl, rfl, rfl⟩
            have hS363 := hS362.push0 (r := R.own ty_3 [] (.slice none 0 0) []) rfl fun _ => .inl ⟨rfl, rfl, rfl⟩
            have hr := Option.some.inj hF
            subst hr
            exact rets (vs := [(.slice none 0 0), (.slice none 0 0), (.bool false)]) hQ rfl ⟨rv_tmp rfl, rv_tmp rfl, rv_tmp rfl, trivial⟩ ⟨(.slice none 0 0), [], (.slice none 0 0), [], rfl, hB357, hS363.sel [1, 0] rfl⟩
           ·replace hF := ifN h360 hF
            refine W.skip fun a ha => hK352 _ _ (W.seq fun K364 hK364 => (W.region (wl_move rfl rfl (wl_move rfl rfl (wl_assign rfl rfl (wl_assign rfl rfl (wl_assign rfl rfl (WL.nil (fun a ha => hK364 _ _ (W.ret ?_) a ha))))))))) a ha
            have hr := Option.some.inj hF
            subst hr
            exact rets (vs := [v228, v231, (.bool true)]) hQ rfl ⟨rv_tmp rfl, rv_tmp rfl, rv_tmp rfl, trivial⟩ ⟨v228, F229, v231, F232, rfl, hB357, hS358.sel [0, 1] rfl⟩
theorem C_laws_pSum (w0 : World) (x0 : (List Int)) (v0_0 : Value) (h0_0 : rdS ty_3 (· < w0.heap.size) w0 v0_0 x0) (r : Int) (hF : F_laws_pSum x0 = some r) :
  Calls Try.prog 86 [v0_0].toArray w0 fun e w' => e = .returned (.int .i64 r) ∧ Below w0.heap.size w0 w' := by
 refine calls_mk' Try.func86 rfl Try.ntmps86 rfl rfl fun Q hQ hP => ?_
 have hB : Below w0.heap.size w0 w0 := Below.refl _ _
 have hS : Sep w0.heap.size w0 [] := Sep.nil _ _
 unfold F_laws_pSum at hF
 refine W.seq fun K1 hK1 => W.region (wl_assign rfl rfl (WL.nil (fun a ha => hK1 _ _ (W.seq fun K2 hK2 => (W.region (wl_assign rfl rfl (WL.nil (fun a ha => hK2 _ _ (W.seq fun K3 hK3 => (W.seq fun K4 hK4 => (W.region (wl_move rfl rfl ?_)))) a ha))))) a ha)))
 refine wl_lenr (e := ty_3) (l := x0) Try.underlying29 rfl rfl h0_0 (wl_move rfl rfl (WL.nil (fun a ha => hK4 _ _ (W.block (W.loopk (fun m a w5 => ∃ (y8 : Int) (y9 : Int), St 17 [(3, (.int .i64 y8)), (6, v0_0), (7, (.int .i64 (List.length x0 : Int))), (8, (.int .i64 y9))] a ∧ Below w0.heap.size w0 w5 ∧ Sep w0.heap.size w5 [] ∧ F_laws_pSum_L1 x0 m y8 y9 = some r) FU ?_ ?_)) a ha)))
 ·
  exact fun a ha => ⟨0, 0, ha.sub ⟨rfl, rfl, rfl, rfl, trivial⟩, hB, (hS.sel [] rfl), hF⟩
 ·
  rintro m12 a w5 ⟨y8, y9, ha, hB6, hS7, hF⟩ KL11 hKL11
  refine W.at ?_ ha
  cases m12 with
  | zero => exact noneE hF
  | succ m12 =>
   obtain ⟨nx10, hnx10⟩ : ∃ k, k = F_laws_pSum_L1 x0 m12 := ⟨_, rfl⟩
   rw [F_laws_pSum_L1, ← hnx10] at hF
   refine W.seq fun K13 hK13 => W.region (wl_lss rfl rfl rfl (WL.nil (fun a ha => hK13 _ _ (W.seq fun K14 hK14 => (W.cond rfl (fun h15 => ?_) (fun h15 => ?_))) a ha)))
   ·replace hF := ifP h15 hF
    refine W.skip fun a ha => hK14 _ _ (W.seq fun K16 hK16 => (W.block (W.seq fun K17 hK17 => (W.region ?_)))) a ha
    obtain ⟨u18, hu18, hF⟩ := bindE hF
    refine wl_index (e := ty_3) Try.underlying29 rfl rfl rfl h0_0 hu18 ?_
    rintro p19 _ rfl hp20
    refine wl_load_p (vs := [(.int .i64 u18)]) (v := (.int .i64 u18)) tf_3 rfl rfl (hp20.ro hB6) rfl rfl (wl_assign rfl rfl (WL.nil (fun a ha => hK17 _ _ (W.region (wl_move rfl rfl (wl_move rfl rfl (wl_add rfl rfl rfl (wl_assign rfl rfl (WL.nil (fun a ha => hK16 _ _ (W.region (wl_add rfl rfl rfl (wl_move rfl rfl ?_))) a ha))))))) a ha)))
    refine WL.nil ?_
    rw [hnx10] at hF
    exact fun a ha => hKL11 a _ m12 (Nat.lt_succ_self m12) ⟨(w64 (y8 + u18)), (w64 (y9 + 1)), ha.sub ⟨rfl, rfl, rfl, rfl, trivial⟩, hB6, (hS7.sel [] rfl), hF⟩
   ·replace hF := ifN h15 hF
    refine W.exit fun a ha => hK3 _ _ (W.seq fun K21 hK21 => (W.region (wl_move rfl rfl (wl_assign rfl rfl (WL.nil (fun a ha => hK21 _ _ (W.ret ?_) a ha)))))) a ha
    have hr := Option.some.inj hF
    subst hr
    exact rets (vs := [(.int .i64 y8)]) hQ rfl ⟨rv_tmp rfl, trivial⟩ ⟨rfl, hB6⟩
theorem C_spec_DrawShowMoves (w0 : World) (x0 : (List Int)) (v0_0 : Value) (h0_0 : rdS ty_5 (· < w0.heap.size) w0 v0_0 x0) (r : (((List (List (Int × Int))) × (List Int) × Int × Int) × Int)) (hF : F_spec_DrawShowMoves x0 = some r) :
  Calls Try.prog 87 [v0_0].toArray w0 fun e w' => ∃ (q0 : Value) (G0 : List Nat) (q1 : Value) (G1 : List Nat), e = .returned (.tuple #[(.agg #[q0, q1, (.int .i64 r.1.2.2.1), (.int .i64 r.1.2.2.2)]), (.int .i64 r.2)]) ∧ Below w0.heap.size w0 w' ∧ Sep w0.heap.size w' [R.own ty_63 G0 q0 r.1.1, R.own ty_3 G1 q1 r.1.2.1] := by
 refine calls_mk' Try.func87 rfl Try.ntmps87 rfl rfl fun Q hQ hP => ?_
 have hB : Below w0.heap.size w0 w0 := Below.refl _ _
 have hS : Sep w0.heap.size w0 [] := Sep.nil _ _
 unfold F_spec_DrawShowMoves at hF
 refine W.seq fun K1 hK1 => W.region (wl_alloc (cs := [(.slice none 0 0), (.slice none 0 0), (.int .i64 0), (.int .i64 0)]) tf_53 rfl rfl hB hS ?_)
 intro b2 w3 hb4 hB5 hS6
 refine wl_assign rfl rfl (WL.nil (fun a ha => hK1 _ _ (W.seq fun K7 hK7 => (W.region (wl_move rfl rfl (wl_build (zs := [(.slice none 0 0), (.int .i64 0), (.int .u64 0)]) (out := [v0_0, (.int .i64 0), (.int .u64 0)]) (vs := [v0_0]) (css := [[v0_0]]) tf_131 pl_131 rfl rfl (by simp only [List.map_cons, List.map_nil, cells_one ((h0_0.ro hB5).one)] <;> rfl) rfl rfl (wl_box (cs := [v0_0, (.int .i64 0), (.int .u64 0)]) rfl rfl rfl hB5 hS6 ?_))))) a ha))
 intro b8 w9 hb10 hB11 hS12
 refine wl_assign rfl rfl (WL.nil (fun a ha => hK7 _ _ (W.seq fun K13 hK13 => (W.region (wl_move rfl rfl ?_))) a ha))
 obtain ⟨u14, hu14, hF⟩ := bindE hF
 refine wl_call rfl Try.call149 (C_spec_l1Cur__show__mut__box w9 (x0, 0, 0) b8 v0_0 (h0_0.oldo hB11 (hS12.sel [0] rfl)) (hS12.sel [0] rfl).base0 _ hu14) rfl ?_
 rintro _ w15 ⟨v20, F21, v22, F23, rfl, hE16, hM17⟩
 refine ⟨_, rfl, ?_⟩
 have hB18 := hS12.takeB [0] rfl (M := [R.blk b8 131 [v0_0, (.int .i64 0), (.int .u64 0)]]) rfl hB11 hE16 hM17
 have hS19 : Sep w0.heap.size w15 [R.blk b8 131 [v0_0, (.int .i64 u14.2.2.1), (.int .u64 u14.2.2.2)], R.own ty_63 F21 v20 u14.1.1, R.own ty_3 F23 v22 u14.1.2.1, R.blk b2 53 [(.slice none 0 0), (.slice none 0 0), (.int .i64 0), (.int .i64 0)]] := hS12.take [0] [1] rfl (M := [R.blk b8 131 [v0_0, (.int .i64 0), (.int .u64 0)]]) rfl hM17 hB11.size
 refine wl_alloc (cs := [(.slice none 0 0), (.slice none 0 0), (.int .i64 0), (.int .i64 0)]) tf_53 rfl rfl hB18 hS19 ?_
 intro b24 w25 hb26 hB27 hS28
 refine wl_store_blk (i := 0) (vs := [v20, v22, (.int .i64 u14.1.2.2.1), (.int .i64 u14.1.2.2.2)]) (cs' := [v20, v22, (.int .i64 u14.1.2.2.1), (.int .i64 u14.1.2.2.2)]) tf_53 rfl rfl rfl rfl hB27 hS28 rfl rfl ⟨(hS28.own_ro (i := 2) rfl).one, (hS28.own_ro (i := 3) rfl).one, rfl, rfl, trivial⟩ rfl ?_
 intro w29 hk32 hB30 hS31
 refine WL.nil fun a ha => hK13 _ _ (W.seq fun K33 hK33 => (W.regionH mixed_ ([b8] ++ [b2]) hB30 hS31 ?_)) a ha
 intro w34 hb35 hB36 hS37
 have hSW38 := KeepX.refl w34 ([b8] ++ [b2])
 refine WH.tk 0 rfl hP hSW38 (pr_load_blk (i := 0) (vs := [v20, v22, (.int .i64 u14.1.2.2.1), (.int .i64 u14.1.2.2.2)]) (v := (.agg #[v20, v22, (.int .i64 u14.1.2.2.1), (.int .i64 u14.1.2.2.2)])) tf_53 rfl rfl hS37 rfl rfl rfl (fun hb => (List.mem_append.1 hb).elim (hS37.disj (i := 0) (j := 1) rfl rfl rfl b24 (by simp [R.blk])) (hS37.disj (i := 0) (j := 4) rfl rfl rfl b24 (by simp [R.blk]))) (WH.tk 1 rfl hP hSW38 (pr_move rfl rfl (WH.tk 2 rfl hP hSW38 (pr_load_blk (i := 0) (vs := [v20, v22, (.int .i64 u14.1.2.2.1), (.int .i64 u14.1.2.2.2)]) (v := (.agg #[v20, v22, (.int .i64 u14.1.2.2.1), (.int .i64 u14.1.2.2.2)])) tf_53 rfl rfl hS37 rfl rfl rfl (fun hb => (List.mem_append.1 hb).elim (hS37.disj (i := 0) (j := 1) rfl rfl rfl b24 (by simp [R.blk])) (hS37.disj (i := 0) (j := 4) rfl rfl rfl b24 (by simp [R.blk]))) (WH.on1 3 rfl ?_))))))
 obtain ⟨u39, hu39, hF⟩ := bindE hF
 refine wl_call rfl Try.call178 (C_spec_l1Cur__partOf__mut__box w34 (x0, u14.2.2.1, u14.2.2.2) b8 v0_0 (h0_0.oldo hB36 (hS37.sel [1] rfl)) u14.1 v20 v22 (own_out (hS37.sel [2, 1] rfl)) (own_out (hS37.sel [3, 1] rfl)) (hS37.sel [1] rfl).base0 _ hu39) rfl ?_
 rintro _ w40 ⟨rfl, hE41, hM42⟩
 refine ⟨_, rfl, ?_⟩
 have hB43 := hS37.takeB [1] rfl (M := [R.blk b8 131 [v0_0, (.int .i64 u14.2.2.1), (.int .u64 u14.2.2.2)]]) rfl hB36 hE41 hM42
 have hS44 : Sep w0.heap.size w40 [R.blk b8 131 [v0_0, (.int .i64 u39.2.2.1), (.int .u64 u39.2.2.2)], R.blk b24 53 [v20, v22, (.int .i64 u14.1.2.2.1), (.int .i64 u14.1.2.2.2)], R.own ty_63 F21 v20 u14.1.1, R.own ty_3 F23 v22 u14.1.2.1, R.blk b2 53 [(.slice none 0 0), (.slice none 0 0), (.int .i64 0), (.int .i64 0)]] := hS37.take [1] [0, 2, 3, 4] rfl (M := [R.blk b8 131 [v0_0, (.int .i64 u14.2.2.1), (.int .u64 u14.2.2.2)]]) rfl hM42 hB36.size
 have hk45 := box_kept hM42
 have hSW46 := hSW38.wr' hk45.1 hk45.2.1 (fun _ _ h => List.mem_append_left _ (h))
 refine WL.nil (WH.ret hSW46 (WH.on1 4 rfl (wl_store_blk (i := 4) (vs := [v20, v22, (.int .i64 u14.1.2.2.1), (.int .i64 u14.1.2.2.2)]) (cs' := [v20, v22, (.int .i64 u14.1.2.2.1), (.int .i64 u14.1.2.2.2)]) tf_53 rfl rfl rfl rfl hB43 hS44 rfl rfl ⟨(hS44.own_ro (i := 2) rfl).one, (hS44.own_ro (i := 3) rfl).one, rfl, rfl, trivial⟩ rfl ?_)))
 intro w48 hk51 hB49 hS50
 have hSW52 := hSW46.wr' hk51.1 hk51.2.1 (fun _ _ h => List.mem_append_right _ h)
 refine WL.nil (WH.ret hSW52 (WH.tk 5 rfl hP hSW52 (pr_assign rfl rfl (WH.done (by kernel_rfl) (fun a ha => hK33 _ _ (W.ret ?_) a ha)))))
 have hr := Option.some.inj hF
 subst hr
 exact rets (vs := [(.agg #[v20, v22, (.int .i64 u14.1.2.2.1), (.int .i64 u14.1.2.2.2)]), (.int .i64 u39.1)]) hQ rfl ⟨rv_cell (i := 4) tf_53 rfl hS50 rfl rfl rfl, rv_tmp rfl, trivial⟩ ⟨v20, F21, v22, F23, rfl, hB49, hS50.sel [2, 3] rfl⟩
theorem C_spec_ShowMoves (w0 : World) (x0 : ((List (List (Int × Int))) × (List Int) × Int × Int)) (v0_0 : Value) (h0_0 : rdS ty_63 (· < w0.heap.size) w0 v0_0 x0.1) (v0_1 : Value) (h0_1 : rdS ty_3 (· < w0.heap.size) w0 v0_1 x0.2.1) (x1 : Int) (r : ((List ((Int × Int) × (Int × Int) × Int)) × Bool)) (hF : F_spec_ShowMoves x0 x1 = some r) :
  Calls Try.prog 88 [(.agg #[v0_0, v0_1, (.int .i64 x0.2.2.1), (.int .i64 x0.2.2.2)]), (.int .i64 x1)].toArray w0 fun e w' => ∃ (q0 : Value) (G0 : List Nat), e = .returned (.tuple #[q0, (.bool r.2)]) ∧ Below w0.heap.size w0 w' ∧ Sep w0.heap.size w' [R.own ty_70 G0 q0 r.1] := by
 refine calls_mk' Try.func88 rfl Try.ntmps88 rfl rfl fun Q hQ hP => ?_
 have hB : Below w0.heap.size w0 w0 := Below.refl _ _
 have hS : Sep w0.heap.size w0 [] := Sep.nil _ _
 unfold F_spec_ShowMoves at hF
 refine W.seq fun K1 hK1 => W.region (wl_box (cs := [v0_0, v0_1, (.int .i64 x0.2.2.1), (.int .i64 x0.2.2.2)]) rfl rfl rfl hB hS ?_)
 intro b2 w3 hb4 hB5 hS6
 refine wl_assign rfl rfl (wl_assign rfl rfl (WL.nil (fun a ha => hK1 _ _ (W.seq fun K7 hK7 => (W.seq fun K8 hK8 => (W.region (wl_load_blk (i := 0) (vs := [v0_0, v0_1, (.int .i64 x0.2.2.1), (.int .i64 x0.2.2.2)]) (v := (.agg #[v0_0, v0_1, (.int .i64 x0.2.2.1), (.int .i64 x0.2.2.2)])) tf_53 rfl rfl hS6 rfl rfl rfl (wl_move rfl rfl ?_))))) a ha)))
 obtain ⟨u9, hu9, hF⟩ := bindE hF
 refine wl_call rfl Try.call179 (C_spec_swHas w3 x0 v0_0 (h0_0.ro hB5) v0_1 (h0_1.ro hB5) x1 _ hu9) rfl ?_
 rintro _ w10 ⟨rfl, hb11⟩
 refine ⟨_, rfl, ?_⟩
 have hB12 := hB5.trans (hb11.mono hB5.size)
 have hS13 := hS6.below hb11
 refine wl_not rfl rfl (WL.nil (fun a ha => hK8 _ _ (W.cond rfl (fun h15 => ?_) (fun h15 => ?_)) a ha))
 ·replace hF := ifP h15 hF
  refine W.seq fun K16 hK16 => W.region (wl_assign rfl rfl (wl_assign rfl rfl (WL.nil (fun a ha => hK16 _ _ (W.ret ?_) a ha))))
  have hS17 := hS13.push0 (r := R.own ty_70 [] (.slice none 0 0) []) rfl fun _ => .inl ⟨rfl, rfl, rfl⟩
  have hr := Option.some.inj hF
  subst hr
  exact rets (vs := [(.slice none 0 0), (.bool false)]) hQ rfl ⟨rv_tmp rfl, rv_tmp rfl, trivial⟩ ⟨(.slice none 0 0), [], rfl, hB12, hS17.sel [0] rfl⟩
 ·replace hF := ifN h15 hF
  refine W.skip fun a ha => hK7 _ _ (W.seq fun K18 hK18 => (W.region (wl_load_blk (i := 0) (vs := [v0_0, v0_1, (.int .i64 x0.2.2.1), (.int .i64 x0.2.2.2)]) (v := (.agg #[v0_0, v0_1, (.int .i64 x0.2.2.1), (.int .i64 x0.2.2.2)])) tf_53 rfl rfl hS13 rfl rfl rfl (wl_move rfl rfl ?_)))) a ha
  obtain ⟨u19, hu19, hF⟩ := bindE hF
  refine wl_call rfl Try.call160 (C_spec_swMoves w10 x0 v0_0 (h0_0.ro hB12) v0_1 (h0_1.ro hB12) x1 _ hu19) rfl ?_
  rintro _ w22 ⟨v20, F21, rfl, hb23, hM26⟩
  refine ⟨_, rfl, ?_⟩
  have hB24 := hB12.trans (hb23.mono hB12.size)
  have hS25 := hS13.join hb23 hM26 hB12.size
  refine wl_assign rfl rfl (wl_assign rfl rfl (WL.nil (fun a ha => hK18 _ _ (W.ret ?_) a ha)))
  have hr := Option.some.inj hF
  subst hr
  exact rets (vs := [v20, (.bool true)]) hQ rfl ⟨rv_tmp rfl, rv_tmp rfl, trivial⟩ ⟨v20, F21, rfl, hB24, hS25.sel [0] rfl⟩
theorem C_laws_pSameMoves (w0 : World) (x0 : (List ((Int × Int) × (Int × Int) × Int))) (v0_0 : Value) (h0_0 : rdS ty_70 (· < w0.heap.size) w0 v0_0 x0) (x1 : (List ((Int × Int) × (Int × Int) × Int))) (v1_0 : Value) (h1_0 : rdS ty_70 (· < w0.heap.size) w0 v1_0 x1) (r : Bool) (hF : F_laws_pSameMoves x0 x1 = some r) :
  Calls Try.prog 89 [v0_0, v1_0].toArray w0 fun e w' => e = .returned (.bool r) ∧ Below w0.heap.size w0 w' := by
 refine calls_mk' Try.func89 rfl Try.ntmps89 rfl rfl fun Q hQ hP => ?_
 have hB : Below w0.heap.size w0 w0 := Below.refl _ _
 have hS : Sep w0.heap.size w0 [] := Sep.nil _ _
 unfold F_laws_pSameMoves at hF
 refine W.seq fun K1 hK1 => W.region (wl_assign rfl rfl (WL.nil (fun a ha => hK1 _ _ (W.seq fun K2 hK2 => (W.seq fun K3 hK3 => (W.region (wl_move rfl rfl (wl_lenr (e := ty_70) (l := x0) Try.underlying64 rfl rfl h0_0 (wl_move rfl rfl (wl_lenr (e := ty_70) (l := x1) Try.underlying64 rfl rfl h1_0 (wl_neq rfl rfl rfl (WL.nil ?_))))))))) a ha)))
 refine fun a ha => hK3 _ _ (W.cond rfl (fun h4 => ?_) (fun h4 => ?_)) a ha
 ·replace hF := ifP h4 hF
  refine W.seq fun K5 hK5 => W.region (wl_assign rfl rfl (WL.nil (fun a ha => hK5 _ _ (W.ret ?_) a ha)))
  have hr := Option.some.inj hF
  subst hr
  exact rets (vs := [(.bool false)]) hQ rfl ⟨rv_tmp rfl, trivial⟩ ⟨rfl, hB⟩
 ·replace hF := ifN h4 hF
  refine W.skip fun a ha => hK2 _ _ (W.seq fun K6 hK6 => (W.seq fun K7 hK7 => (W.region (wl_move rfl rfl (wl_lenr (e := ty_70) (l := x0) Try.underlying64 rfl rfl h0_0 (wl_move rfl rfl (WL.nil (fun a ha => hK7 _ _ (W.block (W.loopk (fun m a w8 => ∃ (y11 : Int), St 26 [(0, v0_0), (1, v1_0), (12, (.int .i64 (List.length x0 : Int))), (13, (.int .i64 y11))] a ∧ Below w0.heap.size w0 w8 ∧ Sep w0.heap.size w8 [] ∧ F_laws_pSameMoves_L1 x0 x1 m y11 = some r) FU ?_ ?_)) a ha)))))))) a ha
  ·
   exact fun a ha => ⟨0, ha.sub ⟨rfl, rfl, rfl, rfl, trivial⟩, hB, (hS.sel [] rfl), hF⟩
  ·
   rintro m14 a w8 ⟨y11, ha, hB9, hS10, hF⟩ KL13 hKL13
   refine W.at ?_ ha
   cases m14 with
   | zero => exact noneE hF
   | succ m14 =>
    obtain ⟨nx12, hnx12⟩ : ∃ k, k = F_laws_pSameMoves_L1 x0 x1 m14 := ⟨_, rfl⟩
    rw [F_laws_pSameMoves_L1, ← hnx12] at hF
    refine W.seq fun K15 hK15 => W.region (wl_lss rfl rfl rfl (WL.nil (fun a ha => hK15 _ _ (W.seq fun K16 hK16 => (W.cond rfl (fun h17 => ?_) (fun h17 => ?_))) a ha)))
    ·replace hF := ifP h17 hF
     refine W.skip fun a ha => hK16 _ _ (W.seq fun K18 hK18 => (W.block (W.seq fun K19 hK19 => (W.region (wl_move rfl rfl (wl_assign rfl rfl (WL.nil (fun a ha => hK19 _ _ (W.seq fun K20 hK20 => (W.regionH mixed_ [] hB9 hS10 ?_)) a ha)))))))) a ha
     intro w21 hb22 hB23 hS24
     have hSW25 := KeepX.refl w21 []
     refine WH.tk 0 rfl hP hSW25 (pr_move rfl rfl (WH.tk 1 rfl hP hSW25 (pr_move rfl rfl ?_)))
     obtain ⟨u26, hu26, hF⟩ := bindE hF
     refine WH.tk 2 rfl hP hSW25 (pr_index (e := ty_70) Try.underlying64 rfl rfl rfl h0_0 hu26 ?_)
     rintro p27 _ rfl hp28
     refine WH.tk 3 rfl hP hSW25 (pr_load_p (vs := [(.int .i64 u26.1.1), (.int .i64 u26.1.2), (.int .i64 u26.2.1.1), (.int .i64 u26.2.1.2), (.int .i64 u26.2.2)]) (v := (.agg #[(.int .i64 u26.1.1), (.int .i64 u26.1.2), (.int .i64 u26.2.1.1), (.int .i64 u26.2.1.2), (.int .i64 u26.2.2)])) tf_70 rfl rfl (hp28.kx hB23 (by simp)) rfl rfl (WH.tk 4 rfl hP hSW25 (pr_move rfl rfl (WH.tk 5 rfl hP hSW25 (pr_move rfl rfl ?_)))))
     obtain ⟨u29, hu29, hF⟩ := bindE hF
     refine WH.tk 6 rfl hP hSW25 (pr_index (e := ty_70) Try.underlying64 rfl rfl rfl h1_0 hu29 ?_)
     rintro p30 _ rfl hp31
     refine WH.tk 7 rfl hP hSW25 (pr_load_p (vs := [(.int .i64 u29.1.1), (.int .i64 u29.1.2), (.int .i64 u29.2.1.1), (.int .i64 u29.2.1.2), (.int .i64 u29.2.2)]) (v := (.agg #[(.int .i64 u29.1.1), (.int .i64 u29.1.2), (.int .i64 u29.2.1.1), (.int .i64 u29.2.1.2), (.int .i64 u29.2.2)])) tf_70 rfl rfl (hp31.kx hB23 (by simp)) rfl rfl (WH.tk 8 rfl hP hSW25 (pr_nes Try.eqGuardType70 (eq_70 u26 u29) rfl rfl rfl (WH.done (by kernel_rfl) (fun a ha => hK20 _ _ (W.cond rfl (fun h32 => ?_) (fun h32 => ?_)) a ha)))))
     ·replace hF := ifP h32 hF
      refine W.seq fun K33 hK33 => W.region (wl_assign rfl rfl (WL.nil (fun a ha => hK33 _ _ (W.ret ?_) a ha)))
      have hr := Option.some.inj hF
      subst hr
      exact rets (vs := [(.bool false)]) hQ rfl ⟨rv_tmp rfl, trivial⟩ ⟨rfl, hB23⟩
     ·replace hF := ifN h32 hF
      refine W.skip fun a ha => hK18 _ _ (W.region (wl_add rfl rfl rfl (wl_move rfl rfl (WL.nil ?_)))) a ha
      rw [hnx12] at hF
      exact fun a ha => hKL13 a _ m14 (Nat.lt_succ_self m14) ⟨(w64 (y11 + 1)), ha.sub ⟨rfl, rfl, rfl, rfl, trivial⟩, hB23, (hS24.sel [] rfl), hF⟩
    ·replace hF := ifN h17 hF
     refine W.exit fun a ha => hK6 _ _ (W.seq fun K34 hK34 => (W.region (wl_assign rfl rfl (WL.nil (fun a ha => hK34 _ _ (W.ret ?_) a ha))))) a ha
     have hr := Option.some.inj hF
     subst hr
     exact rets (vs := [(.bool true)]) hQ rfl ⟨rv_tmp rfl, trivial⟩ ⟨rfl, hB9⟩
end Go.Proofs.Ytmkignciedkidaa
