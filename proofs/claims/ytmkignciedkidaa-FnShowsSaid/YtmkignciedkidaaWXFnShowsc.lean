/-
  THE WALKS of functions of this seat, by program (gen.py, prune.py).
-/
import Derived.Test.YtmkignciedkidaaWXFnShowsb
set_option linter.unusedSimpArgs false
set_option linter.unusedVariables false
set_option maxRecDepth 100000
set_option maxHeartbeats 1600000
namespace Go.Proofs.Ytmkignciedkidaa
open Go Go.RowKit
theorem C_impl_ClosePairs (w0 : World) (x0 : ((List (List (Int × Int))) × (List Int) × Int × Int)) (v0_0 : Value) (h0_0 : rdS ty_63 (· < w0.heap.size) w0 v0_0 x0.1) (v0_1 : Value) (h0_1 : rdS ty_3 (· < w0.heap.size) w0 v0_1 x0.2.1) (x1 : Int) (r : ((List (List Int)) × Bool)) (hF : F_impl_ClosePairs x0 x1 = some r) :
  Calls Try.prog 51 [(.agg #[v0_0, v0_1, (.int .i64 x0.2.2.1), (.int .i64 x0.2.2.2)]), (.int .i64 x1)].toArray w0 fun e w' => ∃ (q0 : Value) (G0 : List Nat), e = .returned (.tuple #[q0, (.bool r.2)]) ∧ Below w0.heap.size w0 w' ∧ Sep w0.heap.size w' [R.own ty_29 G0 q0 r.1] := by
 refine calls_mk' Try.func51 rfl Try.ntmps51 rfl rfl fun Q hQ hP => ?_
 have hB : Below w0.heap.size w0 w0 := Below.refl _ _
 have hS : Sep w0.heap.size w0 [] := Sep.nil _ _
 unfold F_impl_ClosePairs at hF
 refine W.seq fun K1 hK1 => W.region (wl_box (cs := [v0_0, v0_1, (.int .i64 x0.2.2.1), (.int .i64 x0.2.2.2)]) rfl rfl rfl hB hS ?_)
 intro b2 w3 hb4 hB5 hS6
 refine wl_assign rfl rfl (wl_assign rfl rfl (WL.nil (fun a ha => hK1 _ _ (W.seq fun K7 hK7 => (W.seq fun K8 hK8 => (W.region (wl_load_blk (i := 0) (vs := [v0_0, v0_1, (.int .i64 x0.2.2.1), (.int .i64 x0.2.2.2)]) (v := (.agg #[v0_0, v0_1, (.int .i64 x0.2.2.1), (.int .i64 x0.2.2.2)])) tf_53 rfl rfl hS6 rfl rfl rfl (wl_move rfl rfl ?_))))) a ha)))
 obtain ⟨u9, hu9, hF⟩ := bindE hF
 refine wl_call rfl Try.call163 (C_impl_isPart w3 x0 v0_0 (h0_0.ro hB5) v0_1 (h0_1.ro hB5) x1 _ hu9) rfl ?_
 rintro _ w10 ⟨rfl, hb11⟩
 refine ⟨_, rfl, ?_⟩
 have hB12 := hB5.trans (hb11.mono hB5.size)
 have hS13 := hS6.below hb11
 refine wl_not rfl rfl (WL.nil (fun a ha => hK8 _ _ (W.cond rfl (fun h15 => ?_) (fun h15 => ?_)) a ha))
 ·replace hF := ifP h15 hF
  refine W.seq fun K16 hK16 => W.region (wl_assign rfl rfl (wl_assign rfl rfl (WL.nil (fun a ha => hK16 _ _ (W.ret ?_) a ha))))
  have hS17 := hS13.push0 (r := R.own ty_29 [] (.slice none 0 0) []) rfl fun _ => .inl ⟨rfl, rfl, rfl⟩
  have hr := Option.some.inj hF
  subst hr
  exact rets (vs := [(.slice none 0 0), (.bool false)]) hQ rfl ⟨rv_tmp rfl, rv_tmp rfl, trivial⟩ ⟨(.slice none 0 0), [], rfl, hB12, hS17.sel [0] rfl⟩
 ·replace hF := ifN h15 hF
  refine W.skip fun a ha => hK7 _ _ (W.seq fun K18 hK18 => (W.regionH mixed_ [] hB12 hS13 ?_)) a ha
  intro w19 hb20 hB21 hS22
  have hSW23 := KeepX.refl w19 []
  refine WH.tk 0 rfl hP hSW23 (pr_load_blk (i := 0) (vs := [v0_0, v0_1, (.int .i64 x0.2.2.1), (.int .i64 x0.2.2.2)]) (v := (.agg #[v0_0, v0_1, (.int .i64 x0.2.2.1), (.int .i64 x0.2.2.2)])) tf_53 rfl rfl hS22 rfl rfl rfl (by simp) (WH.tk 1 rfl hP hSW23 (pr_move rfl rfl (WH.tk 3 rfl hP hSW23 (pr_field (o := 2) (off' := 2) ff_53_2 rfl rfl rfl (WH.tk 4 rfl hP hSW23 (pr_load_blk (i := 0) (vs := [(.int .i64 x0.2.2.1)]) (v := (.int .i64 x0.2.2.1)) tf_3 rfl rfl hS22 rfl rfl rfl (by simp) (WH.on1 2 rfl ?_))))))))
  obtain ⟨u24, hu24, hF⟩ := bindE hF
  refine wl_call rfl Try.call152 (C_impl_showMoves w19 x0 v0_0 (h0_0.ro hB21) v0_1 (h0_1.ro hB21) x1 _ hu24) rfl ?_
  rintro _ w27 ⟨v25, F26, rfl, hb28, hM31⟩
  refine ⟨_, rfl, ?_⟩
  have hB29 := hB21.trans (hb28.mono hB21.size)
  have hS30 := hS22.join hb28 hM31 hB21.size
  have hSW33 := hSW23.ext hb28
  refine WL.nil (WH.ret hSW33 (WH.on1 5 rfl ?_))
  obtain ⟨u34, hu34, hF⟩ := bindE hF
  refine wl_call rfl Try.call162 (C_impl_pairsTooClose w27 u24 v25 (hS30.own_ro (i := 0) rfl) x0.2.2.1 _ hu34) rfl ?_
  rintro _ w37 ⟨v35, F36, rfl, hb38, hM41⟩
  refine ⟨_, rfl, ?_⟩
  have hB39 := hB29.trans (hb38.mono hB29.size)
  have hS40 := hS30.join hb38 hM41 hB29.size
  have hSW43 := hSW33.ext hb38
  refine WL.nil (WH.ret hSW43 (WH.tk 6 rfl hP hSW43 (pr_assign rfl rfl (WH.tk 7 rfl hP hSW43 (pr_assign rfl rfl (WH.done (by kernel_rfl) (fun a ha => hK18 _ _ (W.ret ?_) a ha)))))))
  have hr := Option.some.inj hF
  subst hr
  exact rets (vs := [v35, (.bool true)]) hQ rfl ⟨rv_tmp rfl, rv_tmp rfl, trivial⟩ ⟨v35, F36, rfl, hB39, hS40.sel [0] rfl⟩
theorem C_laws_big (w0 : World) (x0 : (List Int)) (v0_0 : Value) (h0_0 : rdS ty_5 (· < w0.heap.size) w0 v0_0 x0) (x1 : (List Int)) (v1_0 : Value) (h1_0 : rdS ty_5 (· < w0.heap.size) w0 v1_0 x1) (r : Bool) (hF : F_laws_big x0 x1 = some r) :
  Calls Try.prog 54 [v0_0, v1_0].toArray w0 fun e w' => e = .returned (.bool r) ∧ Below w0.heap.size w0 w' := by
 refine calls_mk' Try.func54 rfl Try.ntmps54 rfl rfl fun Q hQ hP => ?_
 have hB : Below w0.heap.size w0 w0 := Below.refl _ _
 have hS : Sep w0.heap.size w0 [] := Sep.nil _ _
 unfold F_laws_big at hF
 refine W.seq fun K1 hK1 => W.region (wl_assign rfl rfl (WL.nil (fun a ha => hK1 _ _ (W.seq fun K2 hK2 => ?_) a ha)))
 obtain ⟨k7, hk7, hF⟩ := jE1 hF
 have hJ8 : ∀ (y6 : Bool) (w3 : World) (_ : k7 y6 = some r) (_ : Below w0.heap.size w0 w3) (_ : Sep w0.heap.size w3 []), ∀ a, St 16 [(4, (.bool y6))] a → K2 a w3 := by
  intro y6 w3 hF hB4 hS5
  subst hk7
  refine fun a ha => hK2 _ _ (W.ret ?_) a ha
  have hr := Option.some.inj hF
  subst hr
  exact rets (vs := [(.bool y6)]) hQ rfl ⟨rv_tmp rfl, trivial⟩ ⟨rfl, hB4⟩
 refine W.region (wl_move rfl rfl (wl_lenr (e := ty_5) (l := x0) Try.underlying22 rfl rfl h0_0 (wl_gtr rfl rfl rfl (wl_move rfl rfl ?_))))
 rcases bE (decide (1048576 < (List.length x0 : Int))) with h9 | h9
 ·replace hF := ifP h9 hF
  refine wl_off rfl rfl rfl h9 (wl_off rfl rfl rfl h9 (wl_off rfl rfl rfl h9 (wl_off rfl rfl rfl h9 (wl_off rfl rfl rfl h9 (wl_off rfl rfl rfl h9 (wl_pick_t rfl rfl h9 rfl (wl_assign rfl rfl (WL.nil ?_))))))))
  exact fun a ha => hJ8 (true) _ hF hB (hS.sel [] rfl) a (ha.sub ⟨rfl, trivial⟩)
 ·replace hF := ifN h9 hF
  refine wl_on rfl rfl h9 (wl_move rfl rfl (wl_on rfl rfl h9 (wl_lenr (e := ty_5) (l := x1) Try.underlying22 rfl rfl h1_0 (wl_on rfl rfl h9 (wl_move rfl rfl (wl_on rfl rfl h9 (wl_lenr (e := ty_5) (l := x0) Try.underlying22 rfl rfl h0_0 (wl_on rfl rfl h9 (wl_sub rfl rfl rfl (wl_on rfl rfl h9 (wl_gtr rfl rfl rfl (wl_pick_f rfl rfl h9 rfl (wl_assign rfl rfl ?_)))))))))))))
  refine WL.nil ?_
  exact fun a ha => hJ8 ((decide ((w64 (1048576 - (List.length x0 : Int))) < (List.length x1 : Int)))) _ hF hB (hS.sel [] rfl) a (ha.sub ⟨rfl, trivial⟩)
theorem C_impl_copyInts (w0 : World) (x0 : (List Int)) (v0_0 : Value) (h0_0 : rdS ty_3 (· < w0.heap.size) w0 v0_0 x0) (r : (List Int)) (hF : F_impl_copyInts x0 = some r) :
  Calls Try.prog 241 [v0_0].toArray w0 fun e w' => ∃ (q0 : Value) (G0 : List Nat), e = .returned q0 ∧ Below w0.heap.size w0 w' ∧ Sep w0.heap.size w' [R.own ty_3 G0 q0 r] := by
 refine calls_mk' Try.func241 rfl Try.ntmps241 rfl rfl fun Q hQ hP => ?_
 have hB : Below w0.heap.size w0 w0 := Below.refl _ _
 have hS : Sep w0.heap.size w0 [] := Sep.nil _ _
 unfold F_impl_copyInts at hF
 refine W.seq fun K1 hK1 => W.region (wl_assign rfl rfl (WL.nil (fun a ha => hK1 _ _ (W.seq fun K2 hK2 => (W.region (wl_lit (vs := []) (l := []) fl_3 Try.underlying29 rfl rfl rfl rfl rfl rfl hB hS ?_))) a ha)))
 intro v3 F4 w5 hb6 hB7 hS8
 refine wl_move rfl rfl ?_
 obtain ⟨u9, hu9, hF⟩ := bindE hF
 refine wl_append (i := 0) (S := (· < w5.heap.size)) fl_3 Try.underlying29 rfl rfl rfl hB7 hS8 rfl (h0_0.ro hB7) hu9 ?_
 intro v10 F11 w12 hk13 hB14 hS15
 refine wl_assign rfl rfl (WL.nil (fun a ha => hK2 _ _ (W.ret ?_) a ha))
 have hr := Option.some.inj hF
 subst hr
 exact rets (vs := [v10]) hQ rfl ⟨rv_tmp rfl, trivial⟩ ⟨v10, F11, rfl, hB14, hS15.sel [0] rfl⟩
theorem C_impl_copyShow (w0 : World) (x0 : ((List (List (Int × Int))) × (List Int) × Int × Int)) (v0_0 : Value) (h0_0 : rdS ty_63 (· < w0.heap.size) w0 v0_0 x0.1) (v0_1 : Value) (h0_1 : rdS ty_3 (· < w0.heap.size) w0 v0_1 x0.2.1) (r : ((List (List (Int × Int))) × (List Int) × Int × Int)) (hF : F_impl_copyShow x0 = some r) :
  Calls Try.prog 168 [(.agg #[v0_0, v0_1, (.int .i64 x0.2.2.1), (.int .i64 x0.2.2.2)])].toArray w0 fun e w' => ∃ (q0 : Value) (G0 : List Nat) (q1 : Value) (G1 : List Nat), e = .returned (.agg #[q0, q1, (.int .i64 r.2.2.1), (.int .i64 r.2.2.2)]) ∧ Below w0.heap.size w0 w' ∧ Sep w0.heap.size w' [R.own ty_63 G0 q0 r.1, R.own ty_3 G1 q1 r.2.1] := by
 refine calls_mk' Try.func168 rfl Try.ntmps168 rfl rfl fun Q hQ hP => ?_
 have hB : Below w0.heap.size w0 w0 := Below.refl _ _
 have hS : Sep w0.heap.size w0 [] := Sep.nil _ _
 unfold F_impl_copyShow at hF
 refine W.seq fun K1 hK1 => W.region (wl_box (cs := [v0_0, v0_1, (.int .i64 x0.2.2.1), (.int .i64 x0.2.2.2)]) rfl rfl rfl hB hS ?_)
 intro b2 w3 hb4 hB5 hS6
 refine wl_alloc (cs := [(.slice none 0 0), (.slice none 0 0), (.int .i64 0), (.int .i64 0)]) tf_53 rfl rfl hB5 hS6 ?_
 intro b7 w8 hb9 hB10 hS11
 refine WL.nil fun a ha => hK1 _ _ (W.seq fun K12 hK12 => ?_) a ha
 obtain ⟨k25, hk25, hF⟩ := jE4 hF
 have hJ26 : ∀ (l17 : (List (List (Int × Int)))) (l20 : (List Int)) (y23 : Int) (y24 : Int) (v18 : Value) (F19 : List Nat) (v21 : Value) (F22 : List Nat) (b16 : Nat) (w13 : World) (_ : k25 l17 l20 y23 y24 = some r) (_ : Below w0.heap.size w0 w13) (_ : Sep w0.heap.size w13 [R.blk b2 53 [v0_0, v0_1, (.int .i64 x0.2.2.1), (.int .i64 x0.2.2.2)], R.blk b7 53 [(.slice none 0 0), (.slice none 0 0), (.int .i64 0), (.int .i64 0)], R.own ty_63 F19 v18 l17, R.own ty_3 F22 v21 l20, R.blk b16 53 [v18, v21, (.int .i64 y23), (.int .i64 y24)]]), ∀ a, St 32 [(1, (.pointer (some ⟨b2, 0, none⟩))), (2, (.pointer (some ⟨b7, 0, none⟩))), (3, (.pointer (some ⟨b16, 0, none⟩)))] a → K12 a w13 := by
  intro l17 l20 y23 y24 v18 F19 v21 F22 b16 w13 hF hB14 hS15
  subst hk25
  refine fun a ha => hK12 _ _ (W.seq fun K27 hK27 => (W.seq fun K28 hK28 => (W.region (wl_field (o := 0) (off' := 0) ff_53_0 rfl rfl rfl (wl_load_blk (i := 0) (vs := [v0_0]) (v := v0_0) tf_51 rfl rfl hS15 rfl rfl rfl (wl_lenr (e := ty_63) (l := x0.1) Try.underlying51 rfl rfl h0_0 (wl_move rfl rfl (WL.nil (fun a ha => hK28 _ _ (W.block ?_) a ha))))))))) a ha
  refine W.loopk (fun m a w29 => ∃ (l32 : (List (List (Int × Int)))) (y35 : Int) (v33 : Value) (F34 : List Nat), St 32 [(2, (.pointer (some ⟨b7, 0, none⟩))), (3, (.pointer (some ⟨b16, 0, none⟩))), (16, v0_0), (17, (.int .i64 (List.length x0.1 : Int))), (18, (.int .i64 y35))] a ∧ Below w0.heap.size w0 w29 ∧ Sep w0.heap.size w29 [R.blk b7 53 [(.slice none 0 0), (.slice none 0 0), (.int .i64 0), (.int .i64 0)], R.own ty_63 F34 v33 l32, R.own ty_3 F22 v21 l20, R.blk b16 53 [v33, v21, (.int .i64 y23), (.int .i64 y24)]] ∧ F_impl_copyShow_L1 x0 l20 y23 y24 m l32 y35 = some r) FU ?_ ?_
  ·
   exact fun a ha => ⟨l17, 0, v18, F19, ha.sub ⟨rfl, rfl, rfl, rfl, rfl, trivial⟩, hB14, (hS15.sel [1, 2, 3, 4] rfl), hF⟩
  ·
   rintro m38 a w29 ⟨l32, y35, v33, F34, ha, hB30, hS31, hF⟩ KL37 hKL37
   refine W.at ?_ ha
   cases m38 with
   | zero => exact noneE hF
   | succ m38 =>
    obtain ⟨nx36, hnx36⟩ : ∃ k, k = F_impl_copyShow_L1 x0 l20 y23 y24 m38 := ⟨_, rfl⟩
    rw [F_impl_copyShow_L1, ← hnx36] at hF
    refine W.seq fun K39 hK39 => W.region (wl_lss rfl rfl rfl (WL.nil (fun a ha => hK39 _ _ (W.seq fun K40 hK40 => (W.cond rfl (fun h41 => ?_) (fun h41 => ?_))) a ha)))
    ·replace hF := ifP h41 hF
     refine W.skip fun a ha => hK40 _ _ (W.seq fun K42 hK42 => ?_) a ha
     obtain ⟨k49, hk49, hF⟩ := jE1 hF
     have hJ50 : ∀ (l46 : (List (List (Int × Int)))) (v47 : Value) (F48 : List Nat) (w43 : World) (_ : k49 l46 = some r) (_ : Below w0.heap.size w0 w43) (_ : Sep w0.heap.size w43 [R.blk b7 53 [(.slice none 0 0), (.slice none 0 0), (.int .i64 0), (.int .i64 0)], R.own ty_63 F48 v47 l46, R.own ty_3 F22 v21 l20, R.blk b16 53 [v47, v21, (.int .i64 y23), (.int .i64 y24)]]), ∀ a, St 32 [(2, (.pointer (some ⟨b7, 0, none⟩))), (3, (.pointer (some ⟨b16, 0, none⟩))), (16, v0_0), (17, (.int .i64 (List.length x0.1 : Int))), (18, (.int .i64 y35))] a → K42 a w43 := by
      intro l46 v47 F48 w43 hF hB44 hS45
      subst hk49
      refine fun a ha => hK42 _ _ (W.region (wl_add rfl rfl rfl (wl_move rfl rfl (WL.nil ?_)))) a ha
      rw [hnx36] at hF
      exact fun a ha => hKL37 a _ m38 (Nat.lt_succ_self m38) ⟨l46, (w64 (y35 + 1)), v47, F48, ha.sub ⟨rfl, rfl, rfl, rfl, rfl, trivial⟩, hB44, (hS45.sel [0, 1, 2, 3] rfl), hF⟩
     refine W.block (W.seq fun K51 hK51 => (W.region ?_))
     obtain ⟨u52, hu52, hF⟩ := bindE hF
     refine wl_index (e := ty_63) Try.underlying51 rfl rfl rfl h0_0 hu52 ?_
     rintro p53 _ ⟨v55, rfl, hv56⟩ hp54
     refine wl_load_p (vs := [v55]) (v := v55) tf_63 rfl rfl (hp54.ro hB30) rfl rfl (wl_assign rfl rfl (WL.nil (fun a ha => hK51 _ _ (W.regionH mixed_ (F34 ++ [b16]) hB30 hS31 ?_) a ha)))
     intro w57 hb58 hB59 hS60
     have hSW61 := KeepX.refl w57 (F34 ++ [b16])
     refine WH.tk 0 rfl hP hSW61 (pr_field (o := 0) (off' := 0) ff_53_0 rfl rfl rfl (WH.tk 3 rfl hP hSW61 (pr_move rfl rfl (WH.many (is := [1, 2]) (by kernel_rfl) rfl (List.forall_mem_cons.2 ⟨⟨_, rfl, ?_⟩, List.forall_mem_cons.2 ⟨⟨_, rfl, ?_⟩, fun _ h => by cases h⟩⟩)))))
     ·
      refine wl_load_blk (i := 3) (vs := [v33]) (v := v33) tf_51 rfl rfl hS60 rfl rfl rfl (WL.nil (WH.ret hSW61 (WH.on1 2 rfl (wl_lit (vs := []) (l := []) fl_68 Try.underlying63 rfl rfl rfl rfl rfl rfl (Below.self w57) (Sep.nil _ _) ?_))))
      intro v62 F63 w65 hb66 hB69 hM70
      have hB67 := hB59.trans (hb66.mono hB59.size)
      have hS68 := hS60.join hb66 hM70 hB59.size
      have hn71 : ∀ b ∈ F63, w57.heap.size ≤ b := fun b hb => Nat.le_trans hSW61.size ((hM70.1 _ (List.mem_cons_self ..)).2.1 b hb).1
      have hSW72 := hSW61.ext hb66
      refine WL.nil (WH.ret hSW72 (WH.on1 4 rfl ?_))
      obtain ⟨u74, hu74, hF⟩ := bindE hF
      refine wl_append (i := 0) (S := (· < w65.heap.size)) fl_68 Try.underlying63 rfl rfl rfl hB67 hS68 rfl (hv56.ro hB67) hu74 ?_
      intro v75 F76 w77 hk78 hB79 hS80
      have hSW81 := hSW72.wr' hk78.1 hk78.2.1 (fun b hlt hb => absurd hlt (Nat.not_lt.2 (hn71 b hb)))
      refine WL.nil (WH.ret hSW81 (WH.on1 5 rfl ?_))
      have hq83 := hS80.sel [0, 1, 2, 3, 4] rfl
      have hq84 := hq83.head (r' := R.cel ty_63 F76 [v75] u74) (rfl) fun _ h0 => ⟨_, rfl, h0⟩
      refine wl_lit1 (e := ty_63) (vs := [v75]) Try.underlying51 rfl rfl (cells_one (hS80.own_ro (i := 0) rfl).one) rfl hB79 hq84 ?_
      intro v85 F86 w87 hb88 hf89 hB90 hS91
      have hSW93 := hSW81.ext hb88
      refine WL.nil (WH.ret hSW93 (WH.on1 6 rfl ?_))
      obtain ⟨u94, hu94, hF⟩ := bindE hF
      refine wl_appendn (e := ty_63) Try.underlying51 rfl rfl rfl hB90 (hS91.sel [2, 0, 1, 3, 4] rfl) hu94 ?_
      intro v95 F96 w97 hk98 hB99 hS100
      have hSW101 := hSW93.wr' hk98.1 hk98.2.1 (fun _ _ h => List.mem_append_left _ (h))
      refine WL.nil (WH.ret hSW101 (WH.tk 7 rfl hP hSW101 (pr_field (o := 0) (off' := 0) ff_53_0 rfl rfl rfl (WH.on1 8 rfl (wl_store_blk (i := 3) (vs := [v95]) (cs' := [v95, v21, (.int .i64 y23), (.int .i64 y24)]) tf_51 rfl rfl (cells_one (hS100.own_ro (i := 0) rfl).one) rfl hB99 hS100 rfl rfl ⟨(hS100.own_ro (i := 0) rfl).one, trivial⟩ rfl ?_)))))
      intro w103 hk106 hB104 hS105
      have hSW107 := hSW101.wr' hk106.1 hk106.2.1 (fun _ _ h => List.mem_append_right _ h)
      refine WL.nil (WH.ret hSW107 (WH.done (by kernel_rfl) ?_))
      exact fun a ha => hJ50 (u94) (v95) (F96) _ hF hB104 (hS105.sel [1, 0, 2, 3] rfl) a (ha.sub ⟨rfl, rfl, rfl, rfl, rfl, trivial⟩)
     ·
      refine wl_lit (vs := []) (l := []) fl_68 Try.underlying63 rfl rfl rfl rfl rfl rfl (Below.self w57) (Sep.nil _ _) ?_
      intro v109 F110 w111 hb112 hB115 hM116
      have hB113 := hB59.trans (hb112.mono hB59.size)
      have hS114 := hS60.join hb112 hM116 hB59.size
      have hn117 : ∀ b ∈ F110, w57.heap.size ≤ b := fun b hb => Nat.le_trans hSW61.size ((hM116.1 _ (List.mem_cons_self ..)).2.1 b hb).1
      have hSW118 := hSW61.ext hb112
      refine WL.nil (WH.ret hSW118 (WH.many (is := [1, 4]) (by kernel_rfl) rfl (List.forall_mem_cons.2 ⟨⟨_, rfl, ?_⟩, List.forall_mem_cons.2 ⟨⟨_, rfl, ?_⟩, fun _ h => by cases h⟩⟩)))
      ·
       refine wl_load_blk (i := 4) (vs := [v33]) (v := v33) tf_51 rfl rfl hS114 rfl rfl rfl (WL.nil (WH.ret hSW118 (WH.on1 4 rfl ?_)))
       obtain ⟨u120, hu120, hF⟩ := bindE hF
       refine wl_append (i := 0) (S := (· < w111.heap.size)) fl_68 Try.underlying63 rfl rfl rfl hB113 hS114 rfl (hv56.ro hB113) hu120 ?_
       intro v121 F122 w123 hk124 hB125 hS126
       have hSW127 := hSW118.wr' hk124.1 hk124.2.1 (fun b hlt hb => absurd hlt (Nat.not_lt.2 (hn117 b hb)))
       refine WL.nil (WH.ret hSW127 (WH.on1 5 rfl ?_))
       have hq129 := hS126.sel [0, 1, 2, 3, 4] rfl
       have hq130 := hq129.head (r' := R.cel ty_63 F122 [v121] u120) (rfl) fun _ h0 => ⟨_, rfl, h0⟩
       refine wl_lit1 (e := ty_63) (vs := [v121]) Try.underlying51 rfl rfl (cells_one (hS126.own_ro (i := 0) rfl).one) rfl hB125 hq130 ?_
       intro v131 F132 w133 hb134 hf135 hB136 hS137
       have hSW139 := hSW127.ext hb134
       refine WL.nil (WH.ret hSW139 (WH.on1 6 rfl ?_))
       obtain ⟨u140, hu140, hF⟩ := bindE hF
       refine wl_appendn (e := ty_63) Try.underlying51 rfl rfl rfl hB136 (hS137.sel [2, 0, 1, 3, 4] rfl) hu140 ?_
       intro v141 F142 w143 hk144 hB145 hS146
       have hSW147 := hSW139.wr' hk144.1 hk144.2.1 (fun _ _ h => List.mem_append_left _ (h))
       refine WL.nil (WH.ret hSW147 (WH.tk 7 rfl hP hSW147 (pr_field (o := 0) (off' := 0) ff_53_0 rfl rfl rfl (WH.on1 8 rfl (wl_store_blk (i := 3) (vs := [v141]) (cs' := [v141, v21, (.int .i64 y23), (.int .i64 y24)]) tf_51 rfl rfl (cells_one (hS146.own_ro (i := 0) rfl).one) rfl hB145 hS146 rfl rfl ⟨(hS146.own_ro (i := 0) rfl).one, trivial⟩ rfl ?_)))))
       intro w149 hk152 hB150 hS151
       have hSW153 := hSW147.wr' hk152.1 hk152.2.1 (fun _ _ h => List.mem_append_right _ h)
       refine WL.nil (WH.ret hSW153 (WH.done (by kernel_rfl) ?_))
       exact fun a ha => hJ50 (u140) (v141) (F142) _ hF hB150 (hS151.sel [1, 0, 2, 3] rfl) a (ha.sub ⟨rfl, rfl, rfl, rfl, rfl, trivial⟩)
      ·
       obtain ⟨u155, hu155, hF⟩ := bindE hF
       refine wl_append (i := 0) (S := (· < w111.heap.size)) fl_68 Try.underlying63 rfl rfl rfl hB113 hS114 rfl (hv56.ro hB113) hu155 ?_
       intro v156 F157 w158 hk159 hB160 hS161
       have hSW162 := hSW118.wr' hk159.1 hk159.2.1 (fun b hlt hb => absurd hlt (Nat.not_lt.2 (hn117 b hb)))
       refine WL.nil (WH.ret hSW162 (WH.many (is := [1, 5]) (by kernel_rfl) rfl (List.forall_mem_cons.2 ⟨⟨_, rfl, ?_⟩, List.forall_mem_cons.2 ⟨⟨_, rfl, ?_⟩, fun _ h => by cases h⟩⟩)))
       ·
        refine wl_load_blk (i := 4) (vs := [v33]) (v := v33) tf_51 rfl rfl hS161 rfl rfl rfl (WL.nil (WH.ret hSW162 (WH.on1 5 rfl ?_)))
        have hq164 := hS161.sel [0, 1, 2, 3, 4] rfl
        have hq165 := hq164.head (r' := R.cel ty_63 F157 [v156] u155) (rfl) fun _ h0 => ⟨_, rfl, h0⟩
        refine wl_lit1 (e := ty_63) (vs := [v156]) Try.underlying51 rfl rfl (cells_one (hS161.own_ro (i := 0) rfl).one) rfl hB160 hq165 ?_
        intro v166 F167 w168 hb169 hf170 hB171 hS172
        have hSW174 := hSW162.ext hb169
        refine WL.nil (WH.ret hSW174 (WH.on1 6 rfl ?_))
        obtain ⟨u175, hu175, hF⟩ := bindE hF
        refine wl_appendn (e := ty_63) Try.underlying51 rfl rfl rfl hB171 (hS172.sel [2, 0, 1, 3, 4] rfl) hu175 ?_
        intro v176 F177 w178 hk179 hB180 hS181
        have hSW182 := hSW174.wr' hk179.1 hk179.2.1 (fun _ _ h => List.mem_append_left _ (h))
        refine WL.nil (WH.ret hSW182 (WH.tk 7 rfl hP hSW182 (pr_field (o := 0) (off' := 0) ff_53_0 rfl rfl rfl (WH.on1 8 rfl (wl_store_blk (i := 3) (vs := [v176]) (cs' := [v176, v21, (.int .i64 y23), (.int .i64 y24)]) tf_51 rfl rfl (cells_one (hS181.own_ro (i := 0) rfl).one) rfl hB180 hS181 rfl rfl ⟨(hS181.own_ro (i := 0) rfl).one, trivial⟩ rfl ?_)))))
        intro w184 hk187 hB185 hS186
        have hSW188 := hSW182.wr' hk187.1 hk187.2.1 (fun _ _ h => List.mem_append_right _ h)
        refine WL.nil (WH.ret hSW188 (WH.done (by kernel_rfl) ?_))
        exact fun a ha => hJ50 (u175) (v176) (F177) _ hF hB185 (hS186.sel [1, 0, 2, 3] rfl) a (ha.sub ⟨rfl, rfl, rfl, rfl, rfl, trivial⟩)
       ·
        have hq190 := hS161.sel [0, 1, 2, 3, 4] rfl
        have hq191 := hq190.head (r' := R.cel ty_63 F157 [v156] u155) (rfl) fun _ h0 => ⟨_, rfl, h0⟩
        refine wl_lit1 (e := ty_63) (vs := [v156]) Try.underlying51 rfl rfl (cells_one (hS161.own_ro (i := 0) rfl).one) rfl hB160 hq191 ?_
        intro v192 F193 w194 hb195 hf196 hB197 hS198
        have hSW200 := hSW162.ext hb195
        refine WL.nil (WH.ret hSW200 (WH.on1 1 rfl (wl_load_blk (i := 4) (vs := [v33]) (v := v33) tf_51 rfl rfl hS198 rfl rfl rfl (WL.nil (WH.ret hSW200 (WH.on1 6 rfl ?_))))))
        obtain ⟨u201, hu201, hF⟩ := bindE hF
        refine wl_appendn (e := ty_63) Try.underlying51 rfl rfl rfl hB197 (hS198.sel [2, 0, 1, 3, 4] rfl) hu201 ?_
        intro v202 F203 w204 hk205 hB206 hS207
        have hSW208 := hSW200.wr' hk205.1 hk205.2.1 (fun _ _ h => List.mem_append_left _ (h))
        refine WL.nil (WH.ret hSW208 (WH.tk 7 rfl hP hSW208 (pr_field (o := 0) (off' := 0) ff_53_0 rfl rfl rfl (WH.on1 8 rfl (wl_store_blk (i := 3) (vs := [v202]) (cs' := [v202, v21, (.int .i64 y23), (.int .i64 y24)]) tf_51 rfl rfl (cells_one (hS207.own_ro (i := 0) rfl).one) rfl hB206 hS207 rfl rfl ⟨(hS207.own_ro (i := 0) rfl).one, trivial⟩ rfl ?_)))))
        intro w210 hk213 hB211 hS212
        have hSW214 := hSW208.wr' hk213.1 hk213.2.1 (fun _ _ h => List.mem_append_right _ h)
        refine WL.nil (WH.ret hSW214 (WH.done (by kernel_rfl) ?_))
        exact fun a ha => hJ50 (u201) (v202) (F203) _ hF hB211 (hS212.sel [1, 0, 2, 3] rfl) a (ha.sub ⟨rfl, rfl, rfl, rfl, rfl, trivial⟩)
    ·replace hF := ifN h41 hF
     refine W.exit fun a ha => hK27 _ _ (W.seq fun K216 hK216 => (W.region (wl_load_blk (i := 3) (vs := [v33, v21, (.int .i64 y23), (.int .i64 y24)]) (v := (.agg #[v33, v21, (.int .i64 y23), (.int .i64 y24)])) tf_53 rfl rfl hS31 rfl rfl rfl (wl_store_blk (i := 0) (vs := [v33, v21, (.int .i64 y23), (.int .i64 y24)]) (cs' := [v33, v21, (.int .i64 y23), (.int .i64 y24)]) tf_53 rfl rfl rfl rfl hB30 hS31 rfl rfl ⟨(hS31.own_ro (i := 1) rfl).one, (hS31.own_ro (i := 2) rfl).one, rfl, rfl, trivial⟩ rfl ?_)))) a ha
     intro w217 hk220 hB218 hS219
     refine WL.nil fun a ha => hK216 _ _ (W.ret ?_) a ha
     have hr := Option.some.inj hF
     subst hr
     exact rets (vs := [(.agg #[v33, v21, (.int .i64 y23), (.int .i64 y24)])]) hQ rfl ⟨rv_cell (i := 0) tf_53 rfl hS219 rfl rfl rfl, trivial⟩ ⟨v33, F34, v21, F22, rfl, hB218, hS219.sel [1, 2] rfl⟩
 refine W.regionH mixed_ [] hB10 hS11 ?_
 intro w221 hb222 hB223 hS224
 have hSW225 := KeepX.refl w221 []
 refine WH.tk 1 rfl hP hSW225 (pr_field (o := 1) (off' := 1) ff_53_1 rfl rfl rfl (WH.tk 2 rfl hP hSW225 (pr_load_blk (i := 1) (vs := [v0_1]) (v := v0_1) tf_29 rfl rfl hS224 rfl rfl rfl (by simp) (WH.tk 4 rfl hP hSW225 (pr_field (o := 2) (off' := 2) ff_53_2 rfl rfl rfl (WH.tk 5 rfl hP hSW225 (pr_load_blk (i := 1) (vs := [(.int .i64 x0.2.2.1)]) (v := (.int .i64 x0.2.2.1)) tf_3 rfl rfl hS224 rfl rfl rfl (by simp) (WH.tk 6 rfl hP hSW225 (pr_field (o := 3) (off' := 3) ff_53_3 rfl rfl rfl (WH.tk 7 rfl hP hSW225 (pr_load_blk (i := 1) (vs := [(.int .i64 x0.2.2.2)]) (v := (.int .i64 x0.2.2.2)) tf_3 rfl rfl hS224 rfl rfl rfl (by simp) (WH.many (is := [0, 3, 9]) (by kernel_rfl) rfl (List.forall_mem_cons.2 ⟨⟨_, rfl, ?_⟩, List.forall_mem_cons.2 ⟨⟨_, rfl, ?_⟩, List.forall_mem_cons.2 ⟨⟨_, rfl, ?_⟩, fun _ h => by cases h⟩⟩⟩)))))))))))))
 ·
  refine wl_lit0 (e := ty_63) Try.underlying51 rfl (Below.self w221) (Sep.nil _ _) ?_
  intro v226 F227 w228 hb229 hB232 hM233
  have hB230 := hB223.trans (hb229.mono hB223.size)
  have hS231 := hS224.join hb229 hM233 hB223.size
  have hSW235 := hSW225.ext hb229
  refine WL.nil (WH.ret hSW235 (WH.many (is := [3, 9]) (by kernel_rfl) rfl (List.forall_mem_cons.2 ⟨⟨_, rfl, ?_⟩, List.forall_mem_cons.2 ⟨⟨_, rfl, ?_⟩, fun _ h => by cases h⟩⟩)))
  ·
   obtain ⟨u236, hu236, hF⟩ := bindE hF
   refine wl_call rfl Try.call241 (C_impl_copyInts w228 x0.2.1 v0_1 (h0_1.ro hB230) _ hu236) rfl ?_
   rintro _ w239 ⟨v237, F238, rfl, hb240, hM243⟩
   refine ⟨_, rfl, ?_⟩
   have hB241 := hB230.trans (hb240.mono hB230.size)
   have hS242 := hS231.join hb240 hM243 hB230.size
   have hSW245 := hSW235.ext hb240
   refine WL.nil (WH.ret hSW245 (WH.tk 8 rfl hP hSW245 (pr_build (zs := [(.slice none 0 0), (.slice none 0 0), (.int .i64 0), (.int .i64 0)]) (out := [v226, v237, (.int .i64 x0.2.2.1), (.int .i64 x0.2.2.2)]) (vs := [v226, v237, (.int .i64 x0.2.2.1), (.int .i64 x0.2.2.2)]) (css := [[v226], [v237], [(.int .i64 x0.2.2.1)], [(.int .i64 x0.2.2.2)]]) tf_53 pl_53 rfl rfl (by simp only [List.map_cons, List.map_nil, cells_one ((hS242.own_ro (i := 1) rfl).one), cells_one ((hS242.own_ro (i := 0) rfl).one)] <;> rfl) rfl rfl (WH.on1 9 rfl (wl_alloc (cs := [(.slice none 0 0), (.slice none 0 0), (.int .i64 0), (.int .i64 0)]) tf_53 rfl rfl (Below.self w239) (Sep.nil _ _) ?_)))))
   intro b246 w247 hb248 hB251 hM252
   have hB249 := hB241.trans (hb248.mono hB241.size)
   have hS250 := hS242.join hb248 hM252 hB241.size
   have hn253 : ∀ b ∈ [b246], w221.heap.size ≤ b := fun b hb => Nat.le_trans hSW245.size ((hM252.1 _ (List.mem_cons_self ..)).2.1 b hb).1
   have hSW254 := hSW245.ext hb248
   refine WL.nil (WH.ret hSW254 (WH.on1 10 rfl (wl_store_blk (i := 0) (vs := [v226, v237, (.int .i64 x0.2.2.1), (.int .i64 x0.2.2.2)]) (cs' := [v226, v237, (.int .i64 x0.2.2.1), (.int .i64 x0.2.2.2)]) tf_53 rfl rfl rfl rfl hB249 hS250 rfl rfl ⟨(hS250.own_ro (i := 2) rfl).one, (hS250.own_ro (i := 1) rfl).one, rfl, rfl, trivial⟩ rfl ?_)))
   intro w255 hk258 hB256 hS257
   have hSW259 := hSW254.wr' hk258.1 hk258.2.1 (fun b hlt hb => absurd hlt (Nat.not_lt.2 (hn253 b hb)))
   refine WL.nil (WH.ret hSW259 (WH.done (by kernel_rfl) ?_))
   exact fun a ha => hJ26 ([]) (u236) (x0.2.2.1) (x0.2.2.2) (v226) (F227) (v237) (F238) (b246) _ hF hB256 (hS257.sel [4, 3, 2, 1, 0] rfl) a (ha.sub ⟨rfl, rfl, rfl, trivial⟩)
  ·
   refine wl_alloc (cs := [(.slice none 0 0), (.slice none 0 0), (.int .i64 0), (.int .i64 0)]) tf_53 rfl rfl (Below.self w228) (Sep.nil _ _) ?_
   intro b261 w262 hb263 hB266 hM267
   have hB264 := hB230.trans (hb263.mono hB230.size)
   have hS265 := hS231.join hb263 hM267 hB230.size
   have hn268 : ∀ b ∈ [b261], w221.heap.size ≤ b := fun b hb => Nat.le_trans hSW235.size ((hM267.1 _ (List.mem_cons_self ..)).2.1 b hb).1
   have hSW269 := hSW235.ext hb263
   refine WL.nil (WH.ret hSW269 (WH.on1 3 rfl ?_))
   obtain ⟨u270, hu270, hF⟩ := bindE hF
   refine wl_call rfl Try.call241 (C_impl_copyInts w262 x0.2.1 v0_1 (h0_1.ro hB264) _ hu270) rfl ?_
   rintro _ w273 ⟨v271, F272, rfl, hb274, hM277⟩
   refine ⟨_, rfl, ?_⟩
   have hB275 := hB264.trans (hb274.mono hB264.size)
   have hS276 := hS265.join hb274 hM277 hB264.size
   have hSW279 := hSW269.ext hb274
   refine WL.nil (WH.ret hSW279 (WH.tk 8 rfl hP hSW279 (pr_build (zs := [(.slice none 0 0), (.slice none 0 0), (.int .i64 0), (.int .i64 0)]) (out := [v226, v271, (.int .i64 x0.2.2.1), (.int .i64 x0.2.2.2)]) (vs := [v226, v271, (.int .i64 x0.2.2.1), (.int .i64 x0.2.2.2)]) (css := [[v226], [v271], [(.int .i64 x0.2.2.1)], [(.int .i64 x0.2.2.2)]]) tf_53 pl_53 rfl rfl (by simp only [List.map_cons, List.map_nil, cells_one ((hS276.own_ro (i := 2) rfl).one), cells_one ((hS276.own_ro (i := 0) rfl).one)] <;> rfl) rfl rfl (WH.on1 10 rfl (wl_store_blk (i := 1) (vs := [v226, v271, (.int .i64 x0.2.2.1), (.int .i64 x0.2.2.2)]) (cs' := [v226, v271, (.int .i64 x0.2.2.1), (.int .i64 x0.2.2.2)]) tf_53 rfl rfl rfl rfl hB275 hS276 rfl rfl ⟨(hS276.own_ro (i := 2) rfl).one, (hS276.own_ro (i := 0) rfl).one, rfl, rfl, trivial⟩ rfl ?_)))))
   intro w280 hk283 hB281 hS282
   have hSW284 := hSW279.wr' hk283.1 hk283.2.1 (fun b hlt hb => absurd hlt (Nat.not_lt.2 (hn268 b hb)))
   refine WL.nil (WH.ret hSW284 (WH.done (by kernel_rfl) ?_))
   exact fun a ha => hJ26 ([]) (u270) (x0.2.2.1) (x0.2.2.2) (v226) (F227) (v271) (F272) (b261) _ hF hB281 (hS282.sel [4, 3, 2, 0, 1] rfl) a (ha.sub ⟨rfl, rfl, rfl, trivial⟩)
 ·
  obtain ⟨u286, hu286, hF⟩ := bindE hF
  refine wl_call rfl Try.call241 (C_impl_copyInts w221 x0.2.1 v0_1 (h0_1.ro hB223) _ hu286) rfl ?_
  rintro _ w289 ⟨v287, F288, rfl, hb290, hM293⟩
  refine ⟨_, rfl, ?_⟩
  have hB291 := hB223.trans (hb290.mono hB223.size)
  have hS292 := hS224.join hb290 hM293 hB223.size
  have hSW295 := hSW225.ext hb290
  refine WL.nil (WH.ret hSW295 (WH.many (is := [0, 9]) (by kernel_rfl) rfl (List.forall_mem_cons.2 ⟨⟨_, rfl, ?_⟩, List.forall_mem_cons.2 ⟨⟨_, rfl, ?_⟩, fun _ h => by cases h⟩⟩)))
  ·
   refine wl_lit0 (e := ty_63) Try.underlying51 rfl (Below.self w289) (Sep.nil _ _) ?_
   intro v296 F297 w298 hb299 hB302 hM303
   have hB300 := hB291.trans (hb299.mono hB291.size)
   have hS301 := hS292.join hb299 hM303 hB291.size
   have hSW305 := hSW295.ext hb299
   refine WL.nil (WH.ret hSW305 (WH.tk 8 rfl hP hSW305 (pr_build (zs := [(.slice none 0 0), (.slice none 0 0), (.int .i64 0), (.int .i64 0)]) (out := [v296, v287, (.int .i64 x0.2.2.1), (.int .i64 x0.2.2.2)]) (vs := [v296, v287, (.int .i64 x0.2.2.1), (.int .i64 x0.2.2.2)]) (css := [[v296], [v287], [(.int .i64 x0.2.2.1)], [(.int .i64 x0.2.2.2)]]) tf_53 pl_53 rfl rfl (by simp only [List.map_cons, List.map_nil, cells_one ((hS301.own_ro (i := 0) rfl).one), cells_one ((hS301.own_ro (i := 1) rfl).one)] <;> rfl) rfl rfl (WH.on1 9 rfl (wl_alloc (cs := [(.slice none 0 0), (.slice none 0 0), (.int .i64 0), (.int .i64 0)]) tf_53 rfl rfl (Below.self w298) (Sep.nil _ _) ?_)))))
   intro b306 w307 hb308 hB311 hM312
   have hB309 := hB300.trans (hb308.mono hB300.size)
   have hS310 := hS301.join hb308 hM312 hB300.size
   have hn313 : ∀ b ∈ [b306], w221.heap.size ≤ b := fun b hb => Nat.le_trans hSW305.size ((hM312.1 _ (List.mem_cons_self ..)).2.1 b hb).1
   have hSW314 := hSW305.ext hb308
   refine WL.nil (WH.ret hSW314 (WH.on1 10 rfl (wl_store_blk (i := 0) (vs := [v296, v287, (.int .i64 x0.2.2.1), (.int .i64 x0.2.2.2)]) (cs' := [v296, v287, (.int .i64 x0.2.2.1), (.int .i64 x0.2.2.2)]) tf_53 rfl rfl rfl rfl hB309 hS310 rfl rfl ⟨(hS310.own_ro (i := 1) rfl).one, (hS310.own_ro (i := 2) rfl).one, rfl, rfl, trivial⟩ rfl ?_)))
   intro w315 hk318 hB316 hS317
   have hSW319 := hSW314.wr' hk318.1 hk318.2.1 (fun b hlt hb => absurd hlt (Nat.not_lt.2 (hn313 b hb)))
   refine WL.nil (WH.ret hSW319 (WH.done (by kernel_rfl) ?_))
   exact fun a ha => hJ26 ([]) (u286) (x0.2.2.1) (x0.2.2.2) (v296) (F297) (v287) (F288) (b306) _ hF hB316 (hS317.sel [4, 3, 1, 2, 0] rfl) a (ha.sub ⟨rfl, rfl, rfl, trivial⟩)
  ·
   refine wl_alloc (cs := [(.slice none 0 0), (.slice none 0 0), (.int .i64 0), (.int .i64 0)]) tf_53 rfl rfl (Below.self w289) (Sep.nil _ _) ?_
   intro b321 w322 hb323 hB326 hM327
   have hB324 := hB291.trans (hb323.mono hB291.size)
   have hS325 := hS292.join hb323 hM327 hB291.size
   have hn328 : ∀ b ∈ [b321], w221.heap.size ≤ b := fun b hb => Nat.le_trans hSW295.size ((hM327.1 _ (List.mem_cons_self ..)).2.1 b hb).1
   have hSW329 := hSW295.ext hb323
   refine WL.nil (WH.ret hSW329 (WH.on1 0 rfl (wl_lit0 (e := ty_63) Try.underlying51 rfl (Below.self w322) (Sep.nil _ _) ?_)))
   intro v330 F331 w332 hb333 hB336 hM337
   have hB334 := hB324.trans (hb333.mono hB324.size)
   have hS335 := hS325.join hb333 hM337 hB324.size
   have hSW339 := hSW329.ext hb333
   refine WL.nil (WH.ret hSW339 (WH.tk 8 rfl hP hSW339 (pr_build (zs := [(.slice none 0 0), (.slice none 0 0), (.int .i64 0), (.int .i64 0)]) (out := [v330, v287, (.int .i64 x0.2.2.1), (.int .i64 x0.2.2.2)]) (vs := [v330, v287, (.int .i64 x0.2.2.1), (.int .i64 x0.2.2.2)]) (css := [[v330], [v287], [(.int .i64 x0.2.2.1)], [(.int .i64 x0.2.2.2)]]) tf_53 pl_53 rfl rfl (by simp only [List.map_cons, List.map_nil, cells_one ((hS335.own_ro (i := 0) rfl).one), cells_one ((hS335.own_ro (i := 2) rfl).one)] <;> rfl) rfl rfl (WH.on1 10 rfl (wl_store_blk (i := 1) (vs := [v330, v287, (.int .i64 x0.2.2.1), (.int .i64 x0.2.2.2)]) (cs' := [v330, v287, (.int .i64 x0.2.2.1), (.int .i64 x0.2.2.2)]) tf_53 rfl rfl rfl rfl hB334 hS335 rfl rfl ⟨(hS335.own_ro (i := 0) rfl).one, (hS335.own_ro (i := 2) rfl).one, rfl, rfl, trivial⟩ rfl ?_)))))
   intro w340 hk343 hB341 hS342
   have hSW344 := hSW339.wr' hk343.1 hk343.2.1 (fun b hlt hb => absurd hlt (Nat.not_lt.2 (hn328 b hb)))
   refine WL.nil (WH.ret hSW344 (WH.done (by kernel_rfl) ?_))
   exact fun a ha => hJ26 ([]) (u286) (x0.2.2.1) (x0.2.2.2) (v330) (F331) (v287) (F288) (b321) _ hF hB341 (hS342.sel [4, 3, 0, 2, 1] rfl) a (ha.sub ⟨rfl, rfl, rfl, trivial⟩)
 ·
  refine wl_alloc (cs := [(.slice none 0 0), (.slice none 0 0), (.int .i64 0), (.int .i64 0)]) tf_53 rfl rfl (Below.self w221) (Sep.nil _ _) ?_
  intro b346 w347 hb348 hB351 hM352
  have hB349 := hB223.trans (hb348.mono hB223.size)
  have hS350 := hS224.join hb348 hM352 hB223.size
  have hn353 : ∀ b ∈ [b346], w221.heap.size ≤ b := fun b hb => Nat.le_trans hSW225.size ((hM352.1 _ (List.mem_cons_self ..)).2.1 b hb).1
  have hSW354 := hSW225.ext hb348
  refine WL.nil (WH.ret hSW354 (WH.many (is := [0, 3]) (by kernel_rfl) rfl (List.forall_mem_cons.2 ⟨⟨_, rfl, ?_⟩, List.forall_mem_cons.2 ⟨⟨_, rfl, ?_⟩, fun _ h => by cases h⟩⟩)))
  ·
   refine wl_lit0 (e := ty_63) Try.underlying51 rfl (Below.self w347) (Sep.nil _ _) ?_
   intro v355 F356 w357 hb358 hB361 hM362
   have hB359 := hB349.trans (hb358.mono hB349.size)
   have hS360 := hS350.join hb358 hM362 hB349.size
   have hSW364 := hSW354.ext hb358
   refine WL.nil (WH.ret hSW364 (WH.on1 3 rfl ?_))
   obtain ⟨u365, hu365, hF⟩ := bindE hF
   refine wl_call rfl Try.call241 (C_impl_copyInts w357 x0.2.1 v0_1 (h0_1.ro hB359) _ hu365) rfl ?_
   rintro _ w368 ⟨v366, F367, rfl, hb369, hM372⟩
   refine ⟨_, rfl, ?_⟩
   have hB370 := hB359.trans (hb369.mono hB359.size)
   have hS371 := hS360.join hb369 hM372 hB359.size
   have hSW374 := hSW364.ext hb369
   refine WL.nil (WH.ret hSW374 (WH.tk 8 rfl hP hSW374 (pr_build (zs := [(.slice none 0 0), (.slice none 0 0), (.int .i64 0), (.int .i64 0)]) (out := [v355, v366, (.int .i64 x0.2.2.1), (.int .i64 x0.2.2.2)]) (vs := [v355, v366, (.int .i64 x0.2.2.1), (.int .i64 x0.2.2.2)]) (css := [[v355], [v366], [(.int .i64 x0.2.2.1)], [(.int .i64 x0.2.2.2)]]) tf_53 pl_53 rfl rfl (by simp only [List.map_cons, List.map_nil, cells_one ((hS371.own_ro (i := 1) rfl).one), cells_one ((hS371.own_ro (i := 0) rfl).one)] <;> rfl) rfl rfl (WH.on1 10 rfl (wl_store_blk (i := 2) (vs := [v355, v366, (.int .i64 x0.2.2.1), (.int .i64 x0.2.2.2)]) (cs' := [v355, v366, (.int .i64 x0.2.2.1), (.int .i64 x0.2.2.2)]) tf_53 rfl rfl rfl rfl hB370 hS371 rfl rfl ⟨(hS371.own_ro (i := 1) rfl).one, (hS371.own_ro (i := 0) rfl).one, rfl, rfl, trivial⟩ rfl ?_)))))
   intro w375 hk378 hB376 hS377
   have hSW379 := hSW374.wr' hk378.1 hk378.2.1 (fun b hlt hb => absurd hlt (Nat.not_lt.2 (hn353 b hb)))
   refine WL.nil (WH.ret hSW379 (WH.done (by kernel_rfl) ?_))
   exact fun a ha => hJ26 ([]) (u365) (x0.2.2.1) (x0.2.2.2) (v355) (F356) (v366) (F367) (b346) _ hF hB376 (hS377.sel [4, 3, 1, 0, 2] rfl) a (ha.sub ⟨rfl, rfl, rfl, trivial⟩)
  ·
   obtain ⟨u381, hu381, hF⟩ := bindE hF
   refine wl_call rfl Try.call241 (C_impl_copyInts w347 x0.2.1 v0_1 (h0_1.ro hB349) _ hu381) rfl ?_
   rintro _ w384 ⟨v382, F383, rfl, hb385, hM388⟩
   refine ⟨_, rfl, ?_⟩
   have hB386 := hB349.trans (hb385.mono hB349.size)
   have hS387 := hS350.join hb385 hM388 hB349.size
   have hSW390 := hSW354.ext hb385
   refine WL.nil (WH.ret hSW390 (WH.on1 0 rfl (wl_lit0 (e := ty_63) Try.underlying51 rfl (Below.self w384) (Sep.nil _ _) ?_)))
   intro v391 F392 w393 hb394 hB397 hM398
   have hB395 := hB386.trans (hb394.mono hB386.size)
   have hS396 := hS387.join hb394 hM398 hB386.size
   have hSW400 := hSW390.ext hb394
   refine WL.nil (WH.ret hSW400 (WH.tk 8 rfl hP hSW400 (pr_build (zs := [(.slice none 0 0), (.slice none 0 0), (.int .i64 0), (.int .i64 0)]) (out := [v391, v382, (.int .i64 x0.2.2.1), (.int .i64 x0.2.2.2)]) (vs := [v391, v382, (.int .i64 x0.2.2.1), (.int .i64 x0.2.2.2)]) (css := [[v391], [v382], [(.int .i64 x0.2.2.1)], [(.int .i64 x0.2.2.2)]]) tf_53 pl_53 rfl rfl (by simp only [List.map_cons, List.map_nil, cells_one ((hS396.own_ro (i := 0) rfl).one), cells_one ((hS396.own_ro (i := 1) rfl).one)] <;> rfl) rfl rfl (WH.on1 10 rfl (wl_store_blk (i := 2) (vs := [v391, v382, (.int .i64 x0.2.2.1), (.int .i64 x0.2.2.2)]) (cs' := [v391, v382, (.int .i64 x0.2.2.1), (.int .i64 x0.2.2.2)]) tf_53 rfl rfl rfl rfl hB395 hS396 rfl rfl ⟨(hS396.own_ro (i := 0) rfl).one, (hS396.own_ro (i := 1) rfl).one, rfl, rfl, trivial⟩ rfl ?_)))))
   intro w401 hk404 hB402 hS403
   have hSW405 := hSW400.wr' hk404.1 hk404.2.1 (fun b hlt hb => absurd hlt (Nat.not_lt.2 (hn353 b hb)))
   refine WL.nil (WH.ret hSW405 (WH.done (by kernel_rfl) ?_))
   exact fun a ha => hJ26 ([]) (u381) (x0.2.2.1) (x0.2.2.2) (v391) (F392) (v382) (F383) (b346) _ hF hB402 (hS403.sel [4, 3, 0, 1, 2] rfl) a (ha.sub ⟨rfl, rfl, rfl, trivial⟩)
theorem C_laws_pSameSpots (w0 : World) (x0 : (List (Int × Int))) (v0_0 : Value) (h0_0 : rdS ty_68 (· < w0.heap.size) w0 v0_0 x0) (x1 : (List (Int × Int))) (v1_0 : Value) (h1_0 : rdS ty_68 (· < w0.heap.size) w0 v1_0 x1) (r : Bool) (hF : F_laws_pSameSpots x0 x1 = some r) :
  Calls Try.prog 99 [v0_0, v1_0].toArray w0 fun e w' => e = .returned (.bool r) ∧ Below w0.heap.size w0 w' := by
 refine calls_mk' Try.func99 rfl Try.ntmps99 rfl rfl fun Q hQ hP => ?_
 have hB : Below w0.heap.size w0 w0 := Below.refl _ _
 have hS : Sep w0.heap.size w0 [] := Sep.nil _ _
 unfold F_laws_pSameSpots at hF
 refine W.seq fun K1 hK1 => W.region (wl_assign rfl rfl (WL.nil (fun a ha => hK1 _ _ (W.seq fun K2 hK2 => (W.seq fun K3 hK3 => (W.region (wl_move rfl rfl (wl_lenr (e := ty_68) (l := x0) Try.underlying63 rfl rfl h0_0 (wl_move rfl rfl (wl_lenr (e := ty_68) (l := x1) Try.underlying63 rfl rfl h1_0 (wl_neq rfl rfl rfl (WL.nil ?_))))))))) a ha)))
 refine fun a ha => hK3 _ _ (W.cond rfl (fun h4 => ?_) (fun h4 => ?_)) a ha
 ·replace hF := ifP h4 hF
  refine W.seq fun K5 hK5 => W.region (wl_assign rfl rfl (WL.nil (fun a ha => hK5 _ _ (W.ret ?_) a ha)))
  have hr := Option.some.inj hF
  subst hr
  exact rets (vs := [(.bool false)]) hQ rfl ⟨rv_tmp rfl, trivial⟩ ⟨rfl, hB⟩
 ·replace hF := ifN h4 hF
  refine W.skip fun a ha => hK2 _ _ (W.seq fun K6 hK6 => (W.seq fun K7 hK7 => (W.region (wl_move rfl rfl (wl_lenr (e := ty_68) (l := x0) Try.underlying63 rfl rfl h0_0 (wl_move rfl rfl (WL.nil (fun a ha => hK7 _ _ (W.block (W.loopk (fun m a w8 => ∃ (y11 : Int), St 26 [(0, v0_0), (1, v1_0), (12, (.int .i64 (List.length x0 : Int))), (13, (.int .i64 y11))] a ∧ Below w0.heap.size w0 w8 ∧ Sep w0.heap.size w8 [] ∧ F_laws_pSameSpots_L1 x0 x1 m y11 = some r) FU ?_ ?_)) a ha)))))))) a ha
  ·
   exact fun a ha => ⟨0, ha.sub ⟨rfl, rfl, rfl, rfl, trivial⟩, hB, (hS.sel [] rfl), hF⟩
  ·
   rintro m14 a w8 ⟨y11, ha, hB9, hS10, hF⟩ KL13 hKL13
   refine W.at ?_ ha
   cases m14 with
   | zero => exact noneE hF
   | succ m14 =>
    obtain ⟨nx12, hnx12⟩ : ∃ k, k = F_laws_pSameSpots_L1 x0 x1 m14 := ⟨_, rfl⟩
    rw [F_laws_pSameSpots_L1, ← hnx12] at hF
    refine W.seq fun K15 hK15 => W.region (wl_lss rfl rfl rfl (WL.nil (fun a ha => hK15 _ _ (W.seq fun K16 hK16 => (W.cond rfl (fun h17 => ?_) (fun h17 => ?_))) a ha)))
    ·replace hF := ifP h17 hF
     refine W.skip fun a ha => hK16 _ _ (W.seq fun K18 hK18 => (W.block (W.seq fun K19 hK19 => (W.region (wl_move rfl rfl (wl_assign rfl rfl (WL.nil (fun a ha => hK19 _ _ (W.seq fun K20 hK20 => (W.regionH mixed_ [] hB9 hS10 ?_)) a ha)))))))) a ha
     intro w21 hb22 hB23 hS24
     have hSW25 := KeepX.refl w21 []
     refine WH.tk 0 rfl hP hSW25 (pr_move rfl rfl (WH.tk 1 rfl hP hSW25 (pr_move rfl rfl ?_)))
     obtain ⟨u26, hu26, hF⟩ := bindE hF
     refine WH.tk 2 rfl hP hSW25 (pr_index (e := ty_68) Try.underlying63 rfl rfl rfl h0_0 hu26 ?_)
     rintro p27 _ rfl hp28
     refine WH.tk 3 rfl hP hSW25 (pr_load_p (vs := [(.int .i64 u26.1), (.int .i64 u26.2)]) (v := (.agg #[(.int .i64 u26.1), (.int .i64 u26.2)])) tf_68 rfl rfl (hp28.kx hB23 (by simp)) rfl rfl (WH.tk 4 rfl hP hSW25 (pr_move rfl rfl (WH.tk 5 rfl hP hSW25 (pr_move rfl rfl ?_)))))
     obtain ⟨u29, hu29, hF⟩ := bindE hF
     refine WH.tk 6 rfl hP hSW25 (pr_index (e := ty_68) Try.underlying63 rfl rfl rfl h1_0 hu29 ?_)
     rintro p30 _ rfl hp31
     refine WH.tk 7 rfl hP hSW25 (pr_load_p (vs := [(.int .i64 u29.1), (.int .i64 u29.2)]) (v := (.agg #[(.int .i64 u29.1), (.int .i64 u29.2)])) tf_68 rfl rfl (hp31.kx hB23 (by simp)) rfl rfl (WH.tk 8 rfl hP hSW25 (pr_nes Try.eqGuardType68 (eq_68 u26 u29) rfl rfl rfl (WH.done (by kernel_rfl) (fun a ha => hK20 _ _ (W.cond rfl (fun h32 => ?_) (fun h32 => ?_)) a ha)))))
     ·replace hF := ifP h32 hF
      refine W.seq fun K33 hK33 => W.region (wl_assign rfl rfl (WL.nil (fun a ha => hK33 _ _ (W.ret ?_) a ha)))
      have hr := Option.some.inj hF
      subst hr
      exact rets (vs := [(.bool false)]) hQ rfl ⟨rv_tmp rfl, trivial⟩ ⟨rfl, hB23⟩
     ·replace hF := ifN h32 hF
      refine W.skip fun a ha => hK18 _ _ (W.region (wl_add rfl rfl rfl (wl_move rfl rfl (WL.nil ?_)))) a ha
      rw [hnx12] at hF
      exact fun a ha => hKL13 a _ m14 (Nat.lt_succ_self m14) ⟨(w64 (y11 + 1)), ha.sub ⟨rfl, rfl, rfl, rfl, trivial⟩, hB23, (hS24.sel [] rfl), hF⟩
    ·replace hF := ifN h17 hF
     refine W.exit fun a ha => hK6 _ _ (W.seq fun K34 hK34 => (W.region (wl_assign rfl rfl (WL.nil (fun a ha => hK34 _ _ (W.ret ?_) a ha))))) a ha
     have hr := Option.some.inj hF
     subst hr
     exact rets (vs := [(.bool true)]) hQ rfl ⟨rv_tmp rfl, trivial⟩ ⟨rfl, hB9⟩
theorem C_laws_pSameCharts (w0 : World) (x0 : (List (List (Int × Int)))) (v0_0 : Value) (h0_0 : rdS ty_63 (· < w0.heap.size) w0 v0_0 x0) (x1 : (List (List (Int × Int)))) (v1_0 : Value) (h1_0 : rdS ty_63 (· < w0.heap.size) w0 v1_0 x1) (r : Bool) (hF : F_laws_pSameCharts x0 x1 = some r) :
  Calls Try.prog 85 [v0_0, v1_0].toArray w0 fun e w' => e = .returned (.bool r) ∧ Below w0.heap.size w0 w' := by
 refine calls_mk' Try.func85 rfl Try.ntmps85 rfl rfl fun Q hQ hP => ?_
 have hB : Below w0.heap.size w0 w0 := Below.refl _ _
 have hS : Sep w0.heap.size w0 [] := Sep.nil _ _
 unfold F_laws_pSameCharts at hF
 refine W.seq fun K1 hK1 => W.region (wl_assign rfl rfl (WL.nil (fun a ha => hK1 _ _ (W.seq fun K2 hK2 => (W.seq fun K3 hK3 => (W.region (wl_move rfl rfl (wl_lenr (e := ty_63) (l := x0) Try.underlying51 rfl rfl h0_0 (wl_move rfl rfl (wl_lenr (e := ty_63) (l := x1) Try.underlying51 rfl rfl h1_0 (wl_neq rfl rfl rfl (WL.nil ?_))))))))) a ha)))
 refine fun a ha => hK3 _ _ (W.cond rfl (fun h4 => ?_) (fun h4 => ?_)) a ha
 ·replace hF := ifP h4 hF
  refine W.seq fun K5 hK5 => W.region (wl_assign rfl rfl (WL.nil (fun a ha => hK5 _ _ (W.ret ?_) a ha)))
  have hr := Option.some.inj hF
  subst hr
  exact rets (vs := [(.bool false)]) hQ rfl ⟨rv_tmp rfl, trivial⟩ ⟨rfl, hB⟩
 ·replace hF := ifN h4 hF
  refine W.skip fun a ha => hK2 _ _ (W.seq fun K6 hK6 => (W.seq fun K7 hK7 => (W.region (wl_move rfl rfl (wl_lenr (e := ty_63) (l := x0) Try.underlying51 rfl rfl h0_0 (wl_move rfl rfl (WL.nil (fun a ha => hK7 _ _ (W.block (W.loopk (fun m a w8 => ∃ (y11 : Int), St 27 [(0, v0_0), (1, v1_0), (12, (.int .i64 (List.length x0 : Int))), (13, (.int .i64 y11))] a ∧ Below w0.heap.size w0 w8 ∧ Sep w0.heap.size w8 [] ∧ F_laws_pSameCharts_L1 x0 x1 m y11 = some r) FU ?_ ?_)) a ha)))))))) a ha
  ·
   exact fun a ha => ⟨0, ha.sub ⟨rfl, rfl, rfl, rfl, trivial⟩, hB, (hS.sel [] rfl), hF⟩
  ·
   rintro m14 a w8 ⟨y11, ha, hB9, hS10, hF⟩ KL13 hKL13
   refine W.at ?_ ha
   cases m14 with
   | zero => exact noneE hF
   | succ m14 =>
    obtain ⟨nx12, hnx12⟩ : ∃ k, k = F_laws_pSameCharts_L1 x0 x1 m14 := ⟨_, rfl⟩
    rw [F_laws_pSameCharts_L1, ← hnx12] at hF
    refine W.seq fun K15 hK15 => W.region (wl_lss rfl rfl rfl (WL.nil (fun a ha => hK15 _ _ (W.seq fun K16 hK16 => (W.cond rfl (fun h17 => ?_) (fun h17 => ?_))) a ha)))
    ·replace hF := ifP h17 hF
     refine W.skip fun a ha => hK16 _ _ (W.seq fun K18 hK18 => (W.block (W.seq fun K19 hK19 => (W.region (wl_move rfl rfl (wl_assign rfl rfl (WL.nil (fun a ha => hK19 _ _ (W.seq fun K20 hK20 => (W.regionH mixed_ [] hB9 hS10 ?_)) a ha)))))))) a ha
     intro w21 hb22 hB23 hS24
     have hSW25 := KeepX.refl w21 []
     refine WH.tk 0 rfl hP hSW25 (pr_move rfl rfl (WH.tk 1 rfl hP hSW25 (pr_move rfl rfl ?_)))
     obtain ⟨u26, hu26, hF⟩ := bindE hF
     refine WH.tk 2 rfl hP hSW25 (pr_index (e := ty_63) Try.underlying51 rfl rfl rfl h0_0 hu26 ?_)
     rintro p27 _ ⟨v29, rfl, hv30⟩ hp28
     refine WH.tk 3 rfl hP hSW25 (pr_load_p (vs := [v29]) (v := v29) tf_63 rfl rfl (hp28.kx hB23 (by simp)) rfl rfl (WH.tk 4 rfl hP hSW25 (pr_move rfl rfl (WH.tk 5 rfl hP hSW25 (pr_move rfl rfl ?_)))))
     obtain ⟨u31, hu31, hF⟩ := bindE hF
     refine WH.tk 6 rfl hP hSW25 (pr_index (e := ty_63) Try.underlying51 rfl rfl rfl h1_0 hu31 ?_)
     rintro p32 _ ⟨v34, rfl, hv35⟩ hp33
     refine WH.tk 7 rfl hP hSW25 (pr_load_p (vs := [v34]) (v := v34) tf_63 rfl rfl (hp33.kx hB23 (by simp)) rfl rfl (WH.on1 8 rfl ?_))
     obtain ⟨u36, hu36, hF⟩ := bindE hF
     refine wl_call rfl Try.call99 (C_laws_pSameSpots w21 u26 v29 (hv30.ro hB23) u31 v34 (hv35.ro hB23) _ hu36) rfl ?_
     rintro _ w37 ⟨rfl, hb38⟩
     refine ⟨_, rfl, ?_⟩
     have hB39 := hB23.trans (hb38.mono hB23.size)
     have hS40 := hS24.below hb38
     have hSW42 := hSW25.ext hb38
     refine WL.nil (WH.ret hSW42 (WH.tk 9 rfl hP hSW42 (pr_not rfl rfl (WH.done (by kernel_rfl) (fun a ha => hK20 _ _ (W.cond rfl (fun h43 => ?_) (fun h43 => ?_)) a ha)))))
     ·replace hF := ifP h43 hF
      refine W.seq fun K44 hK44 => W.region (wl_assign rfl rfl (WL.nil (fun a ha => hK44 _ _ (W.ret ?_) a ha)))
      have hr := Option.some.inj hF
      subst hr
      exact rets (vs := [(.bool false)]) hQ rfl ⟨rv_tmp rfl, trivial⟩ ⟨rfl, hB39⟩
     ·replace hF := ifN h43 hF
      refine W.skip fun a ha => hK18 _ _ (W.region (wl_add rfl rfl rfl (wl_move rfl rfl (WL.nil ?_)))) a ha
      rw [hnx12] at hF
      exact fun a ha => hKL13 a _ m14 (Nat.lt_succ_self m14) ⟨(w64 (y11 + 1)), ha.sub ⟨rfl, rfl, rfl, rfl, trivial⟩, hB39, (hS40.sel [] rfl), hF⟩
    ·replace hF := ifN h17 hF
     refine W.exit fun a ha => hK6 _ _ (W.seq fun K45 hK45 => (W.region (wl_assign rfl rfl (WL.nil (fun a ha => hK45 _ _ (W.ret ?_) a ha))))) a ha
     have hr := Option.some.inj hF
     subst hr
     exact rets (vs := [(.bool true)]) hQ rfl ⟨rv_tmp rfl, trivial⟩ ⟨rfl, hB9⟩
theorem C_laws_sameInts (w0 : World) (x0 : (List Int)) (v0_0 : Value) (h0_0 : rdS ty_3 (· < w0.heap.size) w0 v0_0 x0) (x1 : (List Int)) (v1_0 : Value) (h1_0 : rdS ty_3 (· < w0.heap.size) w0 v1_0 x1) (r : Bool) (hF : F_laws_sameInts x0 x1 = some r) :
  Calls Try.prog 71 [v0_0, v1_0].toArray w0 fun e w' => e = .returned (.bool r) ∧ Below w0.heap.size w0 w' := by
 refine calls_mk' Try.func71 rfl Try.ntmps71 rfl rfl fun Q hQ hP => ?_
 have hB : Below w0.heap.size w0 w0 := Below.refl _ _
 have hS : Sep w0.heap.size w0 [] := Sep.nil _ _
 unfold F_laws_sameInts at hF
 refine W.seq fun K1 hK1 => W.region (wl_assign rfl rfl (WL.nil (fun a ha => hK1 _ _ (W.seq fun K2 hK2 => (W.seq fun K3 hK3 => (W.region (wl_move rfl rfl (wl_lenr (e := ty_3) (l := x0) Try.underlying29 rfl rfl h0_0 (wl_move rfl rfl (wl_lenr (e := ty_3) (l := x1) Try.underlying29 rfl rfl h1_0 (wl_neq rfl rfl rfl (WL.nil ?_))))))))) a ha)))
 refine fun a ha => hK3 _ _ (W.cond rfl (fun h4 => ?_) (fun h4 => ?_)) a ha
 ·replace hF := ifP h4 hF
  refine W.seq fun K5 hK5 => W.region (wl_assign rfl rfl (WL.nil (fun a ha => hK5 _ _ (W.ret ?_) a ha)))
  have hr := Option.some.inj hF
  subst hr
  exact rets (vs := [(.bool false)]) hQ rfl ⟨rv_tmp rfl, trivial⟩ ⟨rfl, hB⟩
 ·replace hF := ifN h4 hF
  refine W.skip fun a ha => hK2 _ _ (W.seq fun K6 hK6 => (W.seq fun K7 hK7 => (W.region (wl_move rfl rfl (wl_lenr (e := ty_3) (l := x0) Try.underlying29 rfl rfl h0_0 (wl_move rfl rfl (WL.nil (fun a ha => hK7 _ _ (W.block (W.loopk (fun m a w8 => ∃ (y11 : Int), St 26 [(0, v0_0), (1, v1_0), (12, (.int .i64 (List.length x0 : Int))), (13, (.int .i64 y11))] a ∧ Below w0.heap.size w0 w8 ∧ Sep w0.heap.size w8 [] ∧ F_laws_sameInts_L1 x0 x1 m y11 = some r) FU ?_ ?_)) a ha)))))))) a ha
  ·
   exact fun a ha => ⟨0, ha.sub ⟨rfl, rfl, rfl, rfl, trivial⟩, hB, (hS.sel [] rfl), hF⟩
  ·
   rintro m14 a w8 ⟨y11, ha, hB9, hS10, hF⟩ KL13 hKL13
   refine W.at ?_ ha
   cases m14 with
   | zero => exact noneE hF
   | succ m14 =>
    obtain ⟨nx12, hnx12⟩ : ∃ k, k = F_laws_sameInts_L1 x0 x1 m14 := ⟨_, rfl⟩
    rw [F_laws_sameInts_L1, ← hnx12] at hF
    refine W.seq fun K15 hK15 => W.region (wl_lss rfl rfl rfl (WL.nil (fun a ha => hK15 _ _ (W.seq fun K16 hK16 => (W.cond rfl (fun h17 => ?_) (fun h17 => ?_))) a ha)))
    ·replace hF := ifP h17 hF
     refine W.skip fun a ha => hK16 _ _ (W.seq fun K18 hK18 => (W.block (W.seq fun K19 hK19 => (W.region (wl_move rfl rfl (wl_assign rfl rfl (WL.nil (fun a ha => hK19 _ _ (W.seq fun K20 hK20 => (W.regionH mixed_ [] hB9 hS10 ?_)) a ha)))))))) a ha
     intro w21 hb22 hB23 hS24
     have hSW25 := KeepX.refl w21 []
     refine WH.tk 0 rfl hP hSW25 (pr_move rfl rfl (WH.tk 1 rfl hP hSW25 (pr_move rfl rfl ?_)))
     obtain ⟨u26, hu26, hF⟩ := bindE hF
     refine WH.tk 2 rfl hP hSW25 (pr_index (e := ty_3) Try.underlying29 rfl rfl rfl h0_0 hu26 ?_)
     rintro p27 _ rfl hp28
     refine WH.tk 3 rfl hP hSW25 (pr_load_p (vs := [(.int .i64 u26)]) (v := (.int .i64 u26)) tf_3 rfl rfl (hp28.kx hB23 (by simp)) rfl rfl (WH.tk 4 rfl hP hSW25 (pr_move rfl rfl (WH.tk 5 rfl hP hSW25 (pr_move rfl rfl ?_)))))
     obtain ⟨u29, hu29, hF⟩ := bindE hF
     refine WH.tk 6 rfl hP hSW25 (pr_index (e := ty_3) Try.underlying29 rfl rfl rfl h1_0 hu29 ?_)
     rintro p30 _ rfl hp31
     refine WH.tk 7 rfl hP hSW25 (pr_load_p (vs := [(.int .i64 u29)]) (v := (.int .i64 u29)) tf_3 rfl rfl (hp31.kx hB23 (by simp)) rfl rfl (WH.tk 8 rfl hP hSW25 (pr_neq rfl rfl rfl (WH.done (by kernel_rfl) (fun a ha => hK20 _ _ (W.cond rfl (fun h32 => ?_) (fun h32 => ?_)) a ha)))))
     ·replace hF := ifP h32 hF
      refine W.seq fun K33 hK33 => W.region (wl_assign rfl rfl (WL.nil (fun a ha => hK33 _ _ (W.ret ?_) a ha)))
      have hr := Option.some.inj hF
      subst hr
      exact rets (vs := [(.bool false)]) hQ rfl ⟨rv_tmp rfl, trivial⟩ ⟨rfl, hB23⟩
     ·replace hF := ifN h32 hF
      refine W.skip fun a ha => hK18 _ _ (W.region (wl_add rfl rfl rfl (wl_move rfl rfl (WL.nil ?_)))) a ha
      rw [hnx12] at hF
      exact fun a ha => hKL13 a _ m14 (Nat.lt_succ_self m14) ⟨(w64 (y11 + 1)), ha.sub ⟨rfl, rfl, rfl, rfl, trivial⟩, hB23, (hS24.sel [] rfl), hF⟩
    ·replace hF := ifN h17 hF
     refine W.exit fun a ha => hK6 _ _ (W.seq fun K34 hK34 => (W.region (wl_assign rfl rfl (WL.nil (fun a ha => hK34 _ _ (W.ret ?_) a ha))))) a ha
     have hr := Option.some.inj hF
     subst hr
     exact rets (vs := [(.bool true)]) hQ rfl ⟨rv_tmp rfl, trivial⟩ ⟨rfl, hB9⟩
theorem C_laws_pSameShow (w0 : World) (x0 : ((List (List (Int × Int))) × (List Int) × Int × Int)) (v0_0 : Value) (h0_0 : rdS ty_63 (· < w0.heap.size) w0 v0_0 x0.1) (v0_1 : Value) (h0_1 : rdS ty_3 (· < w0.heap.size) w0 v0_1 x0.2.1) (x1 : ((List (List (Int × Int))) × (List Int) × Int × Int)) (v1_0 : Value) (h1_0 : rdS ty_63 (· < w0.heap.size) w0 v1_0 x1.1) (v1_1 : Value) (h1_1 : rdS ty_3 (· < w0.heap.size) w0 v1_1 x1.2.1) (r : Bool) (hF : F_laws_pSameShow x0 x1 = some r) :
  Calls Try.prog 58 [(.agg #[v0_0, v0_1, (.int .i64 x0.2.2.1), (.int .i64 x0.2.2.2)]), (.agg #[v1_0, v1_1, (.int .i64 x1.2.2.1), (.int .i64 x1.2.2.2)])].toArray w0 fun e w' => e = .returned (.bool r) ∧ Below w0.heap.size w0 w' := by
 refine calls_mk' Try.func58 rfl Try.ntmps58 rfl rfl fun Q hQ hP => ?_
 have hB : Below w0.heap.size w0 w0 := Below.refl _ _
 have hS : Sep w0.heap.size w0 [] := Sep.nil _ _
 unfold F_laws_pSameShow at hF
 refine W.seq fun K1 hK1 => W.region (wl_box (cs := [v0_0, v0_1, (.int .i64 x0.2.2.1), (.int .i64 x0.2.2.2)]) rfl rfl rfl hB hS ?_)
 intro b2 w3 hb4 hB5 hS6
 refine wl_box (cs := [v1_0, v1_1, (.int .i64 x1.2.2.1), (.int .i64 x1.2.2.2)]) rfl rfl rfl hB5 hS6 ?_
 intro b7 w8 hb9 hB10 hS11
 refine wl_assign rfl rfl (WL.nil (fun a ha => hK1 _ _ (W.seq fun K12 hK12 => ?_) a ha))
 obtain ⟨k17, hk17, hF⟩ := jE1 hF
 have hJ18 : ∀ (y16 : Bool) (w13 : World) (_ : k17 y16 = some r) (_ : Below w0.heap.size w0 w13) (_ : Sep w0.heap.size w13 []), ∀ a, St 31 [(4, (.bool y16))] a → K12 a w13 := by
  intro y16 w13 hF hB14 hS15
  subst hk17
  refine fun a ha => hK12 _ _ (W.ret ?_) a ha
  have hr := Option.some.inj hF
  subst hr
  exact rets (vs := [(.bool y16)]) hQ rfl ⟨rv_tmp rfl, trivial⟩ ⟨rfl, hB14⟩
 refine W.region (wl_field (o := 0) (off' := 0) ff_53_0 rfl rfl rfl (wl_load_blk (i := 1) (vs := [v0_0]) (v := v0_0) tf_51 rfl rfl hS11 rfl rfl rfl (wl_field (o := 0) (off' := 0) ff_53_0 rfl rfl rfl (wl_load_blk (i := 0) (vs := [v1_0]) (v := v1_0) tf_51 rfl rfl hS11 rfl rfl rfl ?_))))
 obtain ⟨u19, hu19, hF⟩ := bindE hF
 refine wl_call rfl Try.call85 (C_laws_pSameCharts w8 x0.1 v0_0 (h0_0.ro hB10) x1.1 v1_0 (h1_0.ro hB10) _ hu19) rfl ?_
 rintro _ w20 ⟨rfl, hb21⟩
 refine ⟨_, rfl, ?_⟩
 have hB22 := hB10.trans (hb21.mono hB10.size)
 have hS23 := hS11.below hb21
 refine wl_move rfl rfl ?_
 rcases bE u19 with h25 | h25
 ·replace hF := ifP h25 hF
  refine wl_on rfl rfl h25 (wl_field (o := 1) (off' := 1) ff_53_1 rfl rfl rfl (wl_on rfl rfl h25 (wl_load_blk (i := 1) (vs := [v0_1]) (v := v0_1) tf_29 rfl rfl hS23 rfl rfl rfl (wl_on rfl rfl h25 (wl_field (o := 1) (off' := 1) ff_53_1 rfl rfl rfl (wl_on rfl rfl h25 (wl_load_blk (i := 0) (vs := [v1_1]) (v := v1_1) tf_29 rfl rfl hS23 rfl rfl rfl (wl_on rfl rfl h25 ?_))))))))
  obtain ⟨u26, hu26, hF⟩ := bindE hF
  refine wl_call rfl Try.call71 (C_laws_sameInts w20 x0.2.1 v0_1 (h0_1.ro hB22) x1.2.1 v1_1 (h1_1.ro hB22) _ hu26) rfl ?_
  rintro _ w27 ⟨rfl, hb28⟩
  refine ⟨_, rfl, ?_⟩
  have hB29 := hB22.trans (hb28.mono hB22.size)
  have hS30 := hS23.below hb28
  refine wl_pick_t rfl rfl h25 rfl (wl_move rfl rfl ?_)
  rcases bE u26 with h32 | h32
  ·replace hF := ifP h32 hF
   refine wl_on rfl rfl h32 (wl_field (o := 2) (off' := 2) ff_53_2 rfl rfl rfl (wl_on rfl rfl h32 (wl_load_blk (i := 1) (vs := [(.int .i64 x0.2.2.1)]) (v := (.int .i64 x0.2.2.1)) tf_3 rfl rfl hS30 rfl rfl rfl (wl_on rfl rfl h32 (wl_field (o := 2) (off' := 2) ff_53_2 rfl rfl rfl (wl_on rfl rfl h32 (wl_load_blk (i := 0) (vs := [(.int .i64 x1.2.2.1)]) (v := (.int .i64 x1.2.2.1)) tf_3 rfl rfl hS30 rfl rfl rfl (wl_on rfl rfl h32 (wl_eql rfl rfl rfl (wl_pick_t rfl rfl h32 rfl (wl_move rfl rfl ?_)))))))))))
   rcases bE (x0.2.2.1 == x1.2.2.1) with h33 | h33
   ·replace hF := ifP h33 hF
    refine wl_on rfl rfl h33 (wl_field (o := 3) (off' := 3) ff_53_3 rfl rfl rfl (wl_on rfl rfl h33 (wl_load_blk (i := 1) (vs := [(.int .i64 x0.2.2.2)]) (v := (.int .i64 x0.2.2.2)) tf_3 rfl rfl hS30 rfl rfl rfl (wl_on rfl rfl h33 (wl_field (o := 3) (off' := 3) ff_53_3 rfl rfl rfl (wl_on rfl rfl h33 (wl_load_blk (i := 0) (vs := [(.int .i64 x1.2.2.2)]) (v := (.int .i64 x1.2.2.2)) tf_3 rfl rfl hS30 rfl rfl rfl (wl_on rfl rfl h33 (wl_eql rfl rfl rfl (wl_pick_t rfl rfl h33 rfl (wl_assign rfl rfl (WL.nil ?_))))))))))))
    exact fun a ha => hJ18 ((x0.2.2.2 == x1.2.2.2)) _ hF hB29 (hS30.sel [] rfl) a (ha.sub ⟨rfl, trivial⟩)
   ·replace hF := ifN h33 hF
    refine wl_off rfl rfl rfl h33 (wl_off rfl rfl rfl h33 (wl_off rfl rfl rfl h33 (wl_off rfl rfl rfl h33 (wl_off rfl rfl rfl h33 (wl_pick_f rfl rfl h33 rfl (wl_assign rfl rfl (WL.nil ?_)))))))
    exact fun a ha => hJ18 (false) _ hF hB29 (hS30.sel [] rfl) a (ha.sub ⟨rfl, trivial⟩)
  ·replace hF := ifN h32 hF
   refine wl_off rfl rfl rfl h32 (wl_off rfl rfl rfl h32 (wl_off rfl rfl rfl h32 (wl_off rfl rfl rfl h32 (wl_off rfl rfl rfl h32 (wl_pick_f rfl rfl h32 rfl (wl_move rfl rfl (wl_off rfl rfl rfl rfl (wl_off rfl rfl rfl rfl (wl_off rfl rfl rfl rfl (wl_off rfl rfl rfl rfl (wl_off rfl rfl rfl rfl (wl_pick_f rfl rfl rfl rfl (wl_assign rfl rfl ?_)))))))))))))
   refine WL.nil ?_
   exact fun a ha => hJ18 (false) _ hF hB29 (hS30.sel [] rfl) a (ha.sub ⟨rfl, trivial⟩)
 ·replace hF := ifN h25 hF
  refine wl_off rfl rfl rfl h25 (wl_off rfl rfl rfl h25 (wl_off rfl rfl rfl h25 (wl_off rfl rfl rfl h25 (wl_off rfl rfl rfl h25 (wl_pick_f rfl rfl h25 rfl (wl_move rfl rfl (wl_off rfl rfl rfl rfl (wl_off rfl rfl rfl rfl (wl_off rfl rfl rfl rfl (wl_off rfl rfl rfl rfl (wl_off rfl rfl rfl rfl (wl_pick_f rfl rfl rfl rfl (wl_move rfl rfl ?_)))))))))))))
  refine wl_off rfl rfl rfl rfl (wl_off rfl rfl rfl rfl (wl_off rfl rfl rfl rfl (wl_off rfl rfl rfl rfl (wl_off rfl rfl rfl rfl (wl_pick_f rfl rfl rfl rfl (wl_assign rfl rfl (WL.nil ?_)))))))
  exact fun a ha => hJ18 (false) _ hF hB22 (hS23.sel [] rfl) a (ha.sub ⟨rfl, trivial⟩)
theorem C_impl_ShowMoves (w0 : World) (x0 : ((List (List (Int × Int))) × (List Int) × Int × Int)) (v0_0 : Value) (h0_0 : rdS ty_63 (· < w0.heap.size) w0 v0_0 x0.1) (v0_1 : Value) (h0_1 : rdS ty_3 (· < w0.heap.size) w0 v0_1 x0.2.1) (x1 : Int) (r : ((List ((Int × Int) × (Int × Int) × Int)) × Bool)) (hF : F_impl_ShowMoves x0 x1 = some r) :
  Calls Try.prog 49 [(.agg #[v0_0, v0_1, (.int .i64 x0.2.2.1), (.int .i64 x0.2.2.2)]), (.int .i64 x1)].toArray w0 fun e w' => ∃ (q0 : Value) (G0 : List Nat), e = .returned (.tuple #[q0, (.bool r.2)]) ∧ Below w0.heap.size w0 w' ∧ Sep w0.heap.size w' [R.own ty_70 G0 q0 r.1] := by
 refine calls_mk' Try.func49 rfl Try.ntmps49 rfl rfl fun Q hQ hP => ?_
 have hB : Below w0.heap.size w0 w0 := Below.refl _ _
 have hS : Sep w0.heap.size w0 [] := Sep.nil _ _
 unfold F_impl_ShowMoves at hF
 refine W.seq fun K1 hK1 => W.region (wl_box (cs := [v0_0, v0_1, (.int .i64 x0.2.2.1), (.int .i64 x0.2.2.2)]) rfl rfl rfl hB hS ?_)
 intro b2 w3 hb4 hB5 hS6
 refine wl_assign rfl rfl (wl_assign rfl rfl (WL.nil (fun a ha => hK1 _ _ (W.seq fun K7 hK7 => (W.seq fun K8 hK8 => (W.region (wl_load_blk (i := 0) (vs := [v0_0, v0_1, (.int .i64 x0.2.2.1), (.int .i64 x0.2.2.2)]) (v := (.agg #[v0_0, v0_1, (.int .i64 x0.2.2.1), (.int .i64 x0.2.2.2)])) tf_53 rfl rfl hS6 rfl rfl rfl (wl_move rfl rfl ?_))))) a ha)))
 obtain ⟨u9, hu9, hF⟩ := bindE hF
 refine wl_call rfl Try.call163 (C_impl_isPart w3 x0 v0_0 (h0_0.ro hB5) v0_1 (h0_1.ro hB5) x1 _ hu9) rfl ?_
 rintro _ w10 ⟨rfl, hb11⟩
 refine ⟨_, rfl, ?_⟩
 have hB12 := hB5.trans (hb11.mono hB5.size)
 have hS13 := hS6.below hb11
 refine wl_not rfl rfl (WL.nil (fun a ha => hK8 _ _ (W.cond rfl (fun h15 => ?_) (fun h15 => ?_)) a ha))
 ·replace hF := ifP h15 hF
  refine W.seq fun K16 hK16 => W.region (wl_assign rfl rfl (wl_assign rfl rfl (WL.nil (fun a ha => hK16 _ _ (W.ret ?_) a ha))))
  have hS17 := hS13.push0 (r := R.own ty_70 [] (.slice none 0 0) []) rfl fun _ => .inl ⟨rfl, rfl, rfl⟩
  have hr := Option.some.inj hF
  subst hr
  exact rets (vs := [(.slice none 0 0), (.bool false)]) hQ rfl ⟨rv_tmp rfl, rv_tmp rfl, trivial⟩ ⟨(.slice none 0 0), [], rfl, hB12, hS17.sel [0] rfl⟩
 ·replace hF := ifN h15 hF
  refine W.skip fun a ha => hK7 _ _ (W.seq fun K18 hK18 => (W.region (wl_load_blk (i := 0) (vs := [v0_0, v0_1, (.int .i64 x0.2.2.1), (.int .i64 x0.2.2.2)]) (v := (.agg #[v0_0, v0_1, (.int .i64 x0.2.2.1), (.int .i64 x0.2.2.2)])) tf_53 rfl rfl hS13 rfl rfl rfl (wl_move rfl rfl ?_)))) a ha
  obtain ⟨u19, hu19, hF⟩ := bindE hF
  refine wl_call rfl Try.call152 (C_impl_showMoves w10 x0 v0_0 (h0_0.ro hB12) v0_1 (h0_1.ro hB12) x1 _ hu19) rfl ?_
  rintro _ w22 ⟨v20, F21, rfl, hb23, hM26⟩
  refine ⟨_, rfl, ?_⟩
  have hB24 := hB12.trans (hb23.mono hB12.size)
  have hS25 := hS13.join hb23 hM26 hB12.size
  refine wl_assign rfl rfl (wl_assign rfl rfl (WL.nil (fun a ha => hK18 _ _ (W.ret ?_) a ha)))
  have hr := Option.some.inj hF
  subst hr
  exact rets (vs := [v20, (.bool true)]) hQ rfl ⟨rv_tmp rfl, rv_tmp rfl, trivial⟩ ⟨v20, F21, rfl, hB24, hS25.sel [0] rfl⟩
theorem C_impl_sheetOf (w0 : World) (x0 : (List (List (Int × Int)))) (v0_0 : Value) (h0_0 : rdS ty_63 (· < w0.heap.size) w0 v0_0 x0) (x1 : (List Int)) (v1_0 : Value) (h1_0 : rdS ty_3 (· < w0.heap.size) w0 v1_0 x1) (x2 : Int) (r : (Int × (Int × Int) × (List (Int × (Int × Int))))) (hF : F_impl_sheetOf x0 x1 x2 = some r) :
  Calls Try.prog 185 [v0_0, v1_0, (.int .i64 x2)].toArray w0 fun e w' => ∃ (q0 : Value) (G0 : List Nat), e = .returned (.agg #[(.int .i64 r.1), (.int .i64 r.2.1.1), (.int .i64 r.2.1.2), q0]) ∧ Below w0.heap.size w0 w' ∧ Sep w0.heap.size w' [R.own ty_169 G0 q0 r.2.2] := by
 refine calls_mk' Try.func185 rfl Try.ntmps185 rfl rfl fun Q hQ hP => ?_
 have hB : Below w0.heap.size w0 w0 := Below.refl _ _
 have hS : Sep w0.heap.size w0 [] := Sep.nil _ _
 unfold F_impl_sheetOf at hF
 refine W.seq fun K1 hK1 => W.region (wl_alloc (cs := [(.int .i64 0), (.int .i64 0), (.int .i64 0), (.slice none 0 0)]) tf_114 rfl rfl hB hS ?_)
 intro b2 w3 hb4 hB5 hS6
 refine WL.nil fun a ha => hK1 _ _ (W.seq fun K7 hK7 => (W.region (wl_move rfl rfl (wl_move rfl rfl ?_)))) a ha
 obtain ⟨u8, hu8, hF⟩ := bindE hF
 refine wl_index (e := ty_63) Try.underlying51 rfl rfl rfl h0_0 hu8 ?_
 rintro p9 _ ⟨v11, rfl, hv12⟩ hp10
 refine wl_load_p (vs := [v11]) (v := v11) tf_63 rfl rfl (hp10.ro hB5) rfl rfl (wl_move rfl rfl ?_)
 obtain ⟨u13, hu13, hF⟩ := bindE hF
 refine wl_index (e := ty_68) Try.underlying63 rfl rfl rfl hv12 hu13 ?_
 rintro p14 _ rfl hp15
 refine wl_load_p (vs := [(.int .i64 u13.1), (.int .i64 u13.2)]) (v := (.agg #[(.int .i64 u13.1), (.int .i64 u13.2)])) tf_68 rfl rfl (hp15.ro hB5) rfl rfl (wl_lit (vs := []) (l := []) fl_169 Try.underlying112 rfl rfl rfl rfl rfl rfl hB5 hS6 ?_)
 intro v16 F17 w18 hb19 hB20 hS21
 refine wl_build (zs := [(.int .i64 0), (.int .i64 0), (.int .i64 0), (.slice none 0 0)]) (out := [(.int .i64 x2), (.int .i64 u13.1), (.int .i64 u13.2), v16]) (vs := [(.int .i64 x2), (.agg #[(.int .i64 u13.1), (.int .i64 u13.2)]), v16]) (css := [[(.int .i64 x2)], [(.int .i64 u13.1), (.int .i64 u13.2)], [v16]]) tf_114 pl_114 rfl rfl (by simp only [List.map_cons, List.map_nil, cells_one ((hS21.own_ro (i := 0) rfl).one)] <;> rfl) rfl rfl (wl_alloc (cs := [(.int .i64 0), (.int .i64 0), (.int .i64 0), (.slice none 0 0)]) tf_114 rfl rfl hB20 hS21 ?_)
 intro b22 w23 hb24 hB25 hS26
 refine wl_store_blk (i := 0) (vs := [(.int .i64 x2), (.int .i64 u13.1), (.int .i64 u13.2), v16]) (cs' := [(.int .i64 x2), (.int .i64 u13.1), (.int .i64 u13.2), v16]) tf_114 rfl rfl rfl rfl hB25 hS26 rfl rfl ⟨rfl, rfl, rfl, (hS26.own_ro (i := 1) rfl).one, trivial⟩ rfl ?_
 intro w27 hk30 hB28 hS29
 refine WL.nil fun a ha => hK7 _ _ (W.seq fun K31 hK31 => (W.seq fun K32 hK32 => (W.region (wl_move rfl rfl (wl_lenr (e := ty_3) (l := x1) Try.underlying29 rfl rfl h1_0 (wl_move rfl rfl (WL.nil (fun a ha => hK32 _ _ (W.block (W.loopk (fun m a w33 => ∃ (l36 : (List (Int × (Int × Int)))) (y39 : Int) (v37 : Value) (F38 : List Nat), St 43 [(0, v0_0), (2, (.int .i64 x2)), (6, (.pointer (some ⟨b2, 0, none⟩))), (7, (.pointer (some ⟨b22, 0, none⟩))), (19, v1_0), (20, (.int .i64 (List.length x1 : Int))), (21, (.int .i64 y39))] a ∧ Below w0.heap.size w0 w33 ∧ Sep w0.heap.size w33 [R.blk b2 114 [(.int .i64 0), (.int .i64 0), (.int .i64 0), (.slice none 0 0)], R.own ty_169 F38 v37 l36, R.blk b22 114 [(.int .i64 x2), (.int .i64 u13.1), (.int .i64 u13.2), v37]] ∧ F_impl_sheetOf_L1 x1 x0 x2 u13 m l36 y39 = some r) FU ?_ ?_)) a ha)))))))) a ha
 ·
  exact fun a ha => ⟨[], 0, v16, F17, ha.sub ⟨rfl, rfl, rfl, rfl, rfl, rfl, rfl, trivial⟩, hB28, (hS29.sel [2, 1, 0] rfl), hF⟩
 ·
  rintro m42 a w33 ⟨l36, y39, v37, F38, ha, hB34, hS35, hF⟩ KL41 hKL41
  refine W.at ?_ ha
  cases m42 with
  | zero => exact noneE hF
  | succ m42 =>
   obtain ⟨nx40, hnx40⟩ : ∃ k, k = F_impl_sheetOf_L1 x1 x0 x2 u13 m42 := ⟨_, rfl⟩
   rw [F_impl_sheetOf_L1, ← hnx40] at hF
   refine W.seq fun K43 hK43 => W.region (wl_lss rfl rfl rfl (WL.nil (fun a ha => hK43 _ _ (W.seq fun K44 hK44 => (W.cond rfl (fun h45 => ?_) (fun h45 => ?_))) a ha)))
   ·replace hF := ifP h45 hF
    refine W.skip fun a ha => hK44 _ _ (W.seq fun K46 hK46 => ?_) a ha
    obtain ⟨k53, hk53, hF⟩ := jE1 hF
    have hJ54 : ∀ (l50 : (List (Int × (Int × Int)))) (v51 : Value) (F52 : List Nat) (w47 : World) (_ : k53 l50 = some r) (_ : Below w0.heap.size w0 w47) (_ : Sep w0.heap.size w47 [R.blk b2 114 [(.int .i64 0), (.int .i64 0), (.int .i64 0), (.slice none 0 0)], R.own ty_169 F52 v51 l50, R.blk b22 114 [(.int .i64 x2), (.int .i64 u13.1), (.int .i64 u13.2), v51]]), ∀ a, St 43 [(0, v0_0), (2, (.int .i64 x2)), (6, (.pointer (some ⟨b2, 0, none⟩))), (7, (.pointer (some ⟨b22, 0, none⟩))), (19, v1_0), (20, (.int .i64 (List.length x1 : Int))), (21, (.int .i64 y39))] a → K46 a w47 := by
     intro l50 v51 F52 w47 hF hB48 hS49
     subst hk53
     refine fun a ha => hK46 _ _ (W.region (wl_add rfl rfl rfl (wl_move rfl rfl (WL.nil ?_)))) a ha
     rw [hnx40] at hF
     exact fun a ha => hKL41 a _ m42 (Nat.lt_succ_self m42) ⟨l50, (w64 (y39 + 1)), v51, F52, ha.sub ⟨rfl, rfl, rfl, rfl, rfl, rfl, rfl, trivial⟩, hB48, (hS49.sel [0, 1, 2] rfl), hF⟩
    refine W.block (W.seq fun K55 hK55 => (W.region (wl_move rfl rfl ?_)))
    obtain ⟨u56, hu56, hF⟩ := bindE hF
    refine wl_index (e := ty_3) Try.underlying29 rfl rfl rfl h1_0 hu56 ?_
    rintro p57 _ rfl hp58
    refine wl_load_p (vs := [(.int .i64 u56)]) (v := (.int .i64 u56)) tf_3 rfl rfl (hp58.ro hB34) rfl rfl (wl_assign rfl rfl (wl_assign rfl rfl (WL.nil (fun a ha => hK55 _ _ (W.regionH mixed_ (F38 ++ [b22]) hB34 hS35 ?_) a ha))))
    intro w59 hb60 hB61 hS62
    have hSW63 := KeepX.refl w59 (F38 ++ [b22])
    refine WH.tk 0 rfl hP hSW63 (pr_field (o := 3) (off' := 3) ff_114_2 rfl rfl rfl (WH.tk 2 rfl hP hSW63 (pr_move rfl rfl (WH.tk 3 rfl hP hSW63 (pr_move rfl rfl (WH.tk 4 rfl hP hSW63 (pr_move rfl rfl (WH.tk 5 rfl hP hSW63 (pr_add rfl rfl rfl ?_)))))))))
    obtain ⟨u64, hu64, hF⟩ := bindE hF
    refine WH.tk 6 rfl hP hSW63 (pr_index (e := ty_63) Try.underlying51 rfl rfl rfl h0_0 hu64 ?_)
    rintro p65 _ ⟨v67, rfl, hv68⟩ hp66
    refine WH.tk 7 rfl hP hSW63 (pr_load_p (vs := [v67]) (v := v67) tf_63 rfl rfl (hp66.kx hB61 (fun b hb => ((List.mem_append.1 hb).elim (fun hb => (((hS62.get (i := 1) rfl).2.1 b hb).1)) (fun hb => (((hS62.get (i := 2) rfl).2.1 b hb).1))))) rfl rfl (WH.tk 8 rfl hP hSW63 (pr_move rfl rfl ?_)))
    obtain ⟨u69, hu69, hF⟩ := bindE hF
    refine WH.tk 9 rfl hP hSW63 (pr_index (e := ty_68) Try.underlying63 rfl rfl rfl hv68 hu69 ?_)
    rintro p70 _ rfl hp71
    refine WH.tk 10 rfl hP hSW63 (pr_load_p (vs := [(.int .i64 u69.1), (.int .i64 u69.2)]) (v := (.agg #[(.int .i64 u69.1), (.int .i64 u69.2)])) tf_68 rfl rfl (hp71.kx hB61 (fun b hb => ((List.mem_append.1 hb).elim (fun hb => (((hS62.get (i := 1) rfl).2.1 b hb).1)) (fun hb => (((hS62.get (i := 2) rfl).2.1 b hb).1))))) rfl rfl (WH.tk 11 rfl hP hSW63 (pr_build (zs := [(.int .i64 0), (.int .i64 0), (.int .i64 0)]) (out := [(.int .i64 u56), (.int .i64 u69.1), (.int .i64 u69.2)]) (vs := [(.int .i64 u56), (.agg #[(.int .i64 u69.1), (.int .i64 u69.2)])]) (css := [[(.int .i64 u56)], [(.int .i64 u69.1), (.int .i64 u69.2)]]) tf_169 pl_169 rfl rfl rfl rfl rfl (WH.many (is := [1, 12]) (by kernel_rfl) rfl (List.forall_mem_cons.2 ⟨⟨_, rfl, ?_⟩, List.forall_mem_cons.2 ⟨⟨_, rfl, ?_⟩, fun _ h => by cases h⟩⟩)))))
    ·
     refine wl_load_blk (i := 2) (vs := [v37]) (v := v37) tf_112 rfl rfl hS62 rfl rfl rfl (WL.nil (WH.ret hSW63 (WH.on1 12 rfl (wl_lit (vs := [(.agg #[(.int .i64 u56), (.int .i64 u69.1), (.int .i64 u69.2)])]) (l := [(u56, u69)]) fl_169 Try.underlying112 rfl rfl rfl rfl rfl rfl (Below.self w59) (Sep.nil _ _) ?_))))
     intro v72 F73 w74 hb75 hB78 hM79
     have hB76 := hB61.trans (hb75.mono hB61.size)
     have hS77 := hS62.join hb75 hM79 hB61.size
     have hSW81 := hSW63.ext hb75
     refine WL.nil (WH.ret hSW81 (WH.on1 13 rfl ?_))
     obtain ⟨u83, hu83, hF⟩ := bindE hF
     refine wl_append (i := 2) (S := (· < w74.heap.size)) fl_169 Try.underlying112 rfl rfl rfl hB76 hS77 rfl (hS77.own_ro (i := 0) rfl) hu83 ?_
     intro v84 F85 w86 hk87 hB88 hS89
     have hSW90 := hSW81.wr' hk87.1 hk87.2.1 (fun _ _ h => List.mem_append_left _ (h))
     refine WL.nil (WH.ret hSW90 (WH.tk 14 rfl hP hSW90 (pr_field (o := 3) (off' := 3) ff_114_2 rfl rfl rfl (WH.on1 15 rfl (wl_store_blk (i := 3) (vs := [v84]) (cs' := [(.int .i64 x2), (.int .i64 u13.1), (.int .i64 u13.2), v84]) tf_112 rfl rfl (cells_one (hS89.own_ro (i := 2) rfl).one) rfl hB88 hS89 rfl rfl ⟨(hS89.own_ro (i := 2) rfl).one, trivial⟩ rfl ?_)))))
     intro w92 hk95 hB93 hS94
     have hSW96 := hSW90.wr' hk95.1 hk95.2.1 (fun _ _ h => List.mem_append_right _ h)
     refine WL.nil (WH.ret hSW96 (WH.done (by kernel_rfl) ?_))
     exact fun a ha => hJ54 (u83) (v84) (F85) _ hF hB93 (hS94.sel [1, 2, 3] rfl) a (ha.sub ⟨rfl, rfl, rfl, rfl, rfl, rfl, rfl, trivial⟩)
    ·
     refine wl_lit (vs := [(.agg #[(.int .i64 u56), (.int .i64 u69.1), (.int .i64 u69.2)])]) (l := [(u56, u69)]) fl_169 Try.underlying112 rfl rfl rfl rfl rfl rfl (Below.self w59) (Sep.nil _ _) ?_
     intro v98 F99 w100 hb101 hB104 hM105
     have hB102 := hB61.trans (hb101.mono hB61.size)
     have hS103 := hS62.join hb101 hM105 hB61.size
     have hSW107 := hSW63.ext hb101
     refine WL.nil (WH.ret hSW107 (WH.on1 1 rfl (wl_load_blk (i := 3) (vs := [v37]) (v := v37) tf_112 rfl rfl hS103 rfl rfl rfl (WL.nil (WH.ret hSW107 (WH.on1 13 rfl ?_))))))
     obtain ⟨u109, hu109, hF⟩ := bindE hF
     refine wl_append (i := 2) (S := (· < w100.heap.size)) fl_169 Try.underlying112 rfl rfl rfl hB102 hS103 rfl (hS103.own_ro (i := 0) rfl) hu109 ?_
     intro v110 F111 w112 hk113 hB114 hS115
     have hSW116 := hSW107.wr' hk113.1 hk113.2.1 (fun _ _ h => List.mem_append_left _ (h))
     refine WL.nil (WH.ret hSW116 (WH.tk 14 rfl hP hSW116 (pr_field (o := 3) (off' := 3) ff_114_2 rfl rfl rfl (WH.on1 15 rfl (wl_store_blk (i := 3) (vs := [v110]) (cs' := [(.int .i64 x2), (.int .i64 u13.1), (.int .i64 u13.2), v110]) tf_112 rfl rfl (cells_one (hS115.own_ro (i := 2) rfl).one) rfl hB114 hS115 rfl rfl ⟨(hS115.own_ro (i := 2) rfl).one, trivial⟩ rfl ?_)))))
     intro w118 hk121 hB119 hS120
     have hSW122 := hSW116.wr' hk121.1 hk121.2.1 (fun _ _ h => List.mem_append_right _ h)
     refine WL.nil (WH.ret hSW122 (WH.done (by kernel_rfl) ?_))
     exact fun a ha => hJ54 (u109) (v110) (F111) _ hF hB119 (hS120.sel [1, 2, 3] rfl) a (ha.sub ⟨rfl, rfl, rfl, rfl, rfl, rfl, rfl, trivial⟩)
   ·replace hF := ifN h45 hF
    refine W.exit fun a ha => hK31 _ _ (W.seq fun K124 hK124 => (W.region (wl_load_blk (i := 2) (vs := [(.int .i64 x2), (.int .i64 u13.1), (.int .i64 u13.2), v37]) (v := (.agg #[(.int .i64 x2), (.int .i64 u13.1), (.int .i64 u13.2), v37])) tf_114 rfl rfl hS35 rfl rfl rfl (wl_store_blk (i := 0) (vs := [(.int .i64 x2), (.int .i64 u13.1), (.int .i64 u13.2), v37]) (cs' := [(.int .i64 x2), (.int .i64 u13.1), (.int .i64 u13.2), v37]) tf_114 rfl rfl rfl rfl hB34 hS35 rfl rfl ⟨rfl, rfl, rfl, (hS35.own_ro (i := 1) rfl).one, trivial⟩ rfl ?_)))) a ha
    intro w125 hk128 hB126 hS127
    refine WL.nil fun a ha => hK124 _ _ (W.ret ?_) a ha
    have hr := Option.some.inj hF
    subst hr
    exact rets (vs := [(.agg #[(.int .i64 x2), (.int .i64 u13.1), (.int .i64 u13.2), v37])]) hQ rfl ⟨rv_cell (i := 0) tf_114 rfl hS127 rfl rfl rfl, trivial⟩ ⟨v37, F38, rfl, hB126, hS127.sel [1] rfl⟩
theorem C_spec_shOf (w0 : World) (x0 : (List (List (Int × Int)))) (v0_0 : Value) (h0_0 : rdS ty_63 (· < w0.heap.size) w0 v0_0 x0) (x1 : (List Int)) (v1_0 : Value) (h1_0 : rdS ty_3 (· < w0.heap.size) w0 v1_0 x1) (x2 : Int) (r : (Int × (Int × Int) × (List (Int × (Int × Int))))) (hF : F_spec_shOf x0 x1 x2 = some r) :
  Calls Try.prog 187 [v0_0, v1_0, (.int .i64 x2)].toArray w0 fun e w' => ∃ (q0 : Value) (G0 : List Nat), e = .returned (.agg #[(.int .i64 r.1), (.int .i64 r.2.1.1), (.int .i64 r.2.1.2), q0]) ∧ Below w0.heap.size w0 w' ∧ Sep w0.heap.size w' [R.own ty_169 G0 q0 r.2.2] := by
 refine calls_mk' Try.func187 rfl Try.ntmps187 rfl rfl fun Q hQ hP => ?_
 have hB : Below w0.heap.size w0 w0 := Below.refl _ _
 have hS : Sep w0.heap.size w0 [] := Sep.nil _ _
 unfold F_spec_shOf at hF
 refine W.seq fun K1 hK1 => W.region (wl_alloc (cs := [(.int .i64 0), (.int .i64 0), (.int .i64 0), (.slice none 0 0)]) tf_114 rfl rfl hB hS ?_)
 intro b2 w3 hb4 hB5 hS6
 refine WL.nil fun a ha => hK1 _ _ (W.seq fun K7 hK7 => (W.region (wl_move rfl rfl (wl_move rfl rfl ?_)))) a ha
 obtain ⟨u8, hu8, hF⟩ := bindE hF
 refine wl_index (e := ty_63) Try.underlying51 rfl rfl rfl h0_0 hu8 ?_
 rintro p9 _ ⟨v11, rfl, hv12⟩ hp10
 refine wl_load_p (vs := [v11]) (v := v11) tf_63 rfl rfl (hp10.ro hB5) rfl rfl (wl_move rfl rfl ?_)
 obtain ⟨u13, hu13, hF⟩ := bindE hF
 refine wl_index (e := ty_68) Try.underlying63 rfl rfl rfl hv12 hu13 ?_
 rintro p14 _ rfl hp15
 refine wl_load_p (vs := [(.int .i64 u13.1), (.int .i64 u13.2)]) (v := (.agg #[(.int .i64 u13.1), (.int .i64 u13.2)])) tf_68 rfl rfl (hp15.ro hB5) rfl rfl (wl_build (zs := [(.int .i64 0), (.int .i64 0), (.int .i64 0), (.slice none 0 0)]) (out := [(.int .i64 x2), (.int .i64 u13.1), (.int .i64 u13.2), (.slice none 0 0)]) (vs := [(.int .i64 x2), (.agg #[(.int .i64 u13.1), (.int .i64 u13.2)])]) (css := [[(.int .i64 x2)], [(.int .i64 u13.1), (.int .i64 u13.2)]]) tf_114 pl_114 rfl rfl rfl rfl rfl (wl_alloc (cs := [(.int .i64 0), (.int .i64 0), (.int .i64 0), (.slice none 0 0)]) tf_114 rfl rfl hB5 hS6 ?_))
 intro b16 w17 hb18 hB19 hS20
 refine wl_store_blk (i := 0) (vs := [(.int .i64 x2), (.int .i64 u13.1), (.int .i64 u13.2), (.slice none 0 0)]) (cs' := [(.int .i64 x2), (.int .i64 u13.1), (.int .i64 u13.2), (.slice none 0 0)]) tf_114 rfl rfl rfl rfl hB19 hS20 rfl rfl ⟨rfl, rfl, rfl, rfl, trivial⟩ rfl ?_
 intro w21 hk24 hB22 hS23
 refine WL.nil fun a ha => hK7 _ _ (W.seq fun K25 hK25 => (W.seq fun K26 hK26 => (W.region (wl_move rfl rfl (wl_lenr (e := ty_3) (l := x1) Try.underlying29 rfl rfl h1_0 (wl_move rfl rfl (WL.nil (fun a ha => hK26 _ _ (W.block (W.loopk (fun m a w27 => ∃ (l30 : (List (Int × (Int × Int)))) (y33 : Int) (v31 : Value) (F32 : List Nat), St 42 [(0, v0_0), (2, (.int .i64 x2)), (6, (.pointer (some ⟨b2, 0, none⟩))), (7, (.pointer (some ⟨b16, 0, none⟩))), (18, v1_0), (19, (.int .i64 (List.length x1 : Int))), (20, (.int .i64 y33))] a ∧ Below w0.heap.size w0 w27 ∧ Sep w0.heap.size w27 [R.blk b2 114 [(.int .i64 0), (.int .i64 0), (.int .i64 0), (.slice none 0 0)], R.own ty_169 F32 v31 l30, R.blk b16 114 [(.int .i64 x2), (.int .i64 u13.1), (.int .i64 u13.2), v31]] ∧ F_spec_shOf_L1 x1 x0 x2 u13 m l30 y33 = some r) FU ?_ ?_)) a ha)))))))) a ha
 ·
  have hS35 := hS23.push0 (r := R.own ty_169 [] (.slice none 0 0) []) rfl fun _ => .inl ⟨rfl, rfl, rfl⟩
  exact fun a ha => ⟨[], 0, (.slice none 0 0), [], ha.sub ⟨rfl, rfl, rfl, rfl, rfl, rfl, rfl, trivial⟩, hB22, (hS35.sel [2, 0, 1] rfl), hF⟩
 ·
  rintro m37 a w27 ⟨l30, y33, v31, F32, ha, hB28, hS29, hF⟩ KL36 hKL36
  refine W.at ?_ ha
  cases m37 with
  | zero => exact noneE hF
  | succ m37 =>
   obtain ⟨nx34, hnx34⟩ : ∃ k, k = F_spec_shOf_L1 x1 x0 x2 u13 m37 := ⟨_, rfl⟩
   rw [F_spec_shOf_L1, ← hnx34] at hF
   refine W.seq fun K38 hK38 => W.region (wl_lss rfl rfl rfl (WL.nil (fun a ha => hK38 _ _ (W.seq fun K39 hK39 => (W.cond rfl (fun h40 => ?_) (fun h40 => ?_))) a ha)))
   ·replace hF := ifP h40 hF
    refine W.skip fun a ha => hK39 _ _ (W.seq fun K41 hK41 => ?_) a ha
    obtain ⟨k48, hk48, hF⟩ := jE1 hF
    have hJ49 : ∀ (l45 : (List (Int × (Int × Int)))) (v46 : Value) (F47 : List Nat) (w42 : World) (_ : k48 l45 = some r) (_ : Below w0.heap.size w0 w42) (_ : Sep w0.heap.size w42 [R.blk b2 114 [(.int .i64 0), (.int .i64 0), (.int .i64 0), (.slice none 0 0)], R.own ty_169 F47 v46 l45, R.blk b16 114 [(.int .i64 x2), (.int .i64 u13.1), (.int .i64 u13.2), v46]]), ∀ a, St 42 [(0, v0_0), (2, (.int .i64 x2)), (6, (.pointer (some ⟨b2, 0, none⟩))), (7, (.pointer (some ⟨b16, 0, none⟩))), (18, v1_0), (19, (.int .i64 (List.length x1 : Int))), (20, (.int .i64 y33))] a → K41 a w42 := by
     intro l45 v46 F47 w42 hF hB43 hS44
     subst hk48
     refine fun a ha => hK41 _ _ (W.region (wl_add rfl rfl rfl (wl_move rfl rfl (WL.nil ?_)))) a ha
     rw [hnx34] at hF
     exact fun a ha => hKL36 a _ m37 (Nat.lt_succ_self m37) ⟨l45, (w64 (y33 + 1)), v46, F47, ha.sub ⟨rfl, rfl, rfl, rfl, rfl, rfl, rfl, trivial⟩, hB43, (hS44.sel [0, 1, 2] rfl), hF⟩
    refine W.block (W.seq fun K50 hK50 => (W.region (wl_move rfl rfl ?_)))
    obtain ⟨u51, hu51, hF⟩ := bindE hF
    refine wl_index (e := ty_3) Try.underlying29 rfl rfl rfl h1_0 hu51 ?_
    rintro p52 _ rfl hp53
    refine wl_load_p (vs := [(.int .i64 u51)]) (v := (.int .i64 u51)) tf_3 rfl rfl (hp53.ro hB28) rfl rfl (wl_assign rfl rfl (wl_assign rfl rfl (WL.nil (fun a ha => hK50 _ _ (W.regionH mixed_ (F32 ++ [b16]) hB28 hS29 ?_) a ha))))
    intro w54 hb55 hB56 hS57
    have hSW58 := KeepX.refl w54 (F32 ++ [b16])
    refine WH.tk 0 rfl hP hSW58 (pr_field (o := 3) (off' := 3) ff_114_2 rfl rfl rfl (WH.tk 2 rfl hP hSW58 (pr_move rfl rfl (WH.tk 3 rfl hP hSW58 (pr_move rfl rfl (WH.tk 4 rfl hP hSW58 (pr_move rfl rfl (WH.tk 5 rfl hP hSW58 (pr_add rfl rfl rfl ?_)))))))))
    obtain ⟨u59, hu59, hF⟩ := bindE hF
    refine WH.tk 6 rfl hP hSW58 (pr_index (e := ty_63) Try.underlying51 rfl rfl rfl h0_0 hu59 ?_)
    rintro p60 _ ⟨v62, rfl, hv63⟩ hp61
    refine WH.tk 7 rfl hP hSW58 (pr_load_p (vs := [v62]) (v := v62) tf_63 rfl rfl (hp61.kx hB56 (fun b hb => ((List.mem_append.1 hb).elim (fun hb => (((hS57.get (i := 1) rfl).2.1 b hb).1)) (fun hb => (((hS57.get (i := 2) rfl).2.1 b hb).1))))) rfl rfl (WH.tk 8 rfl hP hSW58 (pr_move rfl rfl ?_)))
    obtain ⟨u64, hu64, hF⟩ := bindE hF
    refine WH.tk 9 rfl hP hSW58 (pr_index (e := ty_68) Try.underlying63 rfl rfl rfl hv63 hu64 ?_)
    rintro p65 _ rfl hp66
    refine WH.tk 10 rfl hP hSW58 (pr_load_p (vs := [(.int .i64 u64.1), (.int .i64 u64.2)]) (v := (.agg #[(.int .i64 u64.1), (.int .i64 u64.2)])) tf_68 rfl rfl (hp66.kx hB56 (fun b hb => ((List.mem_append.1 hb).elim (fun hb => (((hS57.get (i := 1) rfl).2.1 b hb).1)) (fun hb => (((hS57.get (i := 2) rfl).2.1 b hb).1))))) rfl rfl (WH.tk 11 rfl hP hSW58 (pr_build (zs := [(.int .i64 0), (.int .i64 0), (.int .i64 0)]) (out := [(.int .i64 u51), (.int .i64 u64.1), (.int .i64 u64.2)]) (vs := [(.int .i64 u51), (.agg #[(.int .i64 u64.1), (.int .i64 u64.2)])]) (css := [[(.int .i64 u51)], [(.int .i64 u64.1), (.int .i64 u64.2)]]) tf_169 pl_169 rfl rfl rfl rfl rfl (WH.many (is := [1, 12]) (by kernel_rfl) rfl (List.forall_mem_cons.2 ⟨⟨_, rfl, ?_⟩, List.forall_mem_cons.2 ⟨⟨_, rfl, ?_⟩, fun _ h => by cases h⟩⟩)))))
    ·
     refine wl_load_blk (i := 2) (vs := [v31]) (v := v31) tf_112 rfl rfl hS57 rfl rfl rfl (WL.nil (WH.ret hSW58 (WH.on1 12 rfl (wl_lit (vs := [(.agg #[(.int .i64 u51), (.int .i64 u64.1), (.int .i64 u64.2)])]) (l := [(u51, u64)]) fl_169 Try.underlying112 rfl rfl rfl rfl rfl rfl (Below.self w54) (Sep.nil _ _) ?_))))
     intro v67 F68 w69 hb70 hB73 hM74
     have hB71 := hB56.trans (hb70.mono hB56.size)
     have hS72 := hS57.join hb70 hM74 hB56.size
     have hSW76 := hSW58.ext hb70
     refine WL.nil (WH.ret hSW76 (WH.on1 13 rfl ?_))
     obtain ⟨u78, hu78, hF⟩ := bindE hF
     refine wl_append (i := 2) (S := (· < w69.heap.size)) fl_169 Try.underlying112 rfl rfl rfl hB71 hS72 rfl (hS72.own_ro (i := 0) rfl) hu78 ?_
     intro v79 F80 w81 hk82 hB83 hS84
     have hSW85 := hSW76.wr' hk82.1 hk82.2.1 (fun _ _ h => List.mem_append_left _ (h))
     refine WL.nil (WH.ret hSW85 (WH.tk 14 rfl hP hSW85 (pr_field (o := 3) (off' := 3) ff_114_2 rfl rfl rfl (WH.on1 15 rfl (wl_store_blk (i := 3) (vs := [v79]) (cs' := [(.int .i64 x2), (.int .i64 u13.1), (.int .i64 u13.2), v79]) tf_112 rfl rfl (cells_one (hS84.own_ro (i := 2) rfl).one) rfl hB83 hS84 rfl rfl ⟨(hS84.own_ro (i := 2) rfl).one, trivial⟩ rfl ?_)))))
     intro w87 hk90 hB88 hS89
     have hSW91 := hSW85.wr' hk90.1 hk90.2.1 (fun _ _ h => List.mem_append_right _ h)
     refine WL.nil (WH.ret hSW91 (WH.done (by kernel_rfl) ?_))
     exact fun a ha => hJ49 (u78) (v79) (F80) _ hF hB88 (hS89.sel [1, 2, 3] rfl) a (ha.sub ⟨rfl, rfl, rfl, rfl, rfl, rfl, rfl, trivial⟩)
    ·
     refine wl_lit (vs := [(.agg #[(.int .i64 u51), (.int .i64 u64.1), (.int .i64 u64.2)])]) (l := [(u51, u64)]) fl_169 Try.underlying112 rfl rfl rfl rfl rfl rfl (Below.self w54) (Sep.nil _ _) ?_
     intro v93 F94 w95 hb96 hB99 hM100
     have hB97 := hB56.trans (hb96.mono hB56.size)
     have hS98 := hS57.join hb96 hM100 hB56.size
     have hSW102 := hSW58.ext hb96
     refine WL.nil (WH.ret hSW102 (WH.on1 1 rfl (wl_load_blk (i := 3) (vs := [v31]) (v := v31) tf_112 rfl rfl hS98 rfl rfl rfl (WL.nil (WH.ret hSW102 (WH.on1 13 rfl ?_))))))
     obtain ⟨u104, hu104, hF⟩ := bindE hF
     refine wl_append (i := 2) (S := (· < w95.heap.size)) fl_169 Try.underlying112 rfl rfl rfl hB97 hS98 rfl (hS98.own_ro (i := 0) rfl) hu104 ?_
     intro v105 F106 w107 hk108 hB109 hS110
     have hSW111 := hSW102.wr' hk108.1 hk108.2.1 (fun _ _ h => List.mem_append_left _ (h))
     refine WL.nil (WH.ret hSW111 (WH.tk 14 rfl hP hSW111 (pr_field (o := 3) (off' := 3) ff_114_2 rfl rfl rfl (WH.on1 15 rfl (wl_store_blk (i := 3) (vs := [v105]) (cs' := [(.int .i64 x2), (.int .i64 u13.1), (.int .i64 u13.2), v105]) tf_112 rfl rfl (cells_one (hS110.own_ro (i := 2) rfl).one) rfl hB109 hS110 rfl rfl ⟨(hS110.own_ro (i := 2) rfl).one, trivial⟩ rfl ?_)))))
     intro w113 hk116 hB114 hS115
     have hSW117 := hSW111.wr' hk116.1 hk116.2.1 (fun _ _ h => List.mem_append_right _ h)
     refine WL.nil (WH.ret hSW117 (WH.done (by kernel_rfl) ?_))
     exact fun a ha => hJ49 (u104) (v105) (F106) _ hF hB114 (hS115.sel [1, 2, 3] rfl) a (ha.sub ⟨rfl, rfl, rfl, rfl, rfl, rfl, rfl, trivial⟩)
   ·replace hF := ifN h40 hF
    refine W.exit fun a ha => hK25 _ _ (W.seq fun K119 hK119 => (W.region (wl_load_blk (i := 2) (vs := [(.int .i64 x2), (.int .i64 u13.1), (.int .i64 u13.2), v31]) (v := (.agg #[(.int .i64 x2), (.int .i64 u13.1), (.int .i64 u13.2), v31])) tf_114 rfl rfl hS29 rfl rfl rfl (wl_store_blk (i := 0) (vs := [(.int .i64 x2), (.int .i64 u13.1), (.int .i64 u13.2), v31]) (cs' := [(.int .i64 x2), (.int .i64 u13.1), (.int .i64 u13.2), v31]) tf_114 rfl rfl rfl rfl hB28 hS29 rfl rfl ⟨rfl, rfl, rfl, (hS29.own_ro (i := 1) rfl).one, trivial⟩ rfl ?_)))) a ha
    intro w120 hk123 hB121 hS122
    refine WL.nil fun a ha => hK119 _ _ (W.ret ?_) a ha
    have hr := Option.some.inj hF
    subst hr
    exact rets (vs := [(.agg #[(.int .i64 x2), (.int .i64 u13.1), (.int .i64 u13.2), v31])]) hQ rfl ⟨rv_cell (i := 0) tf_114 rfl hS122 rfl rfl rfl, trivial⟩ ⟨v31, F32, rfl, hB121, hS122.sel [1] rfl⟩
theorem C_spec_swTotal (w0 : World) (x0 : ((List (List (Int × Int))) × (List Int) × Int × Int)) (v0_0 : Value) (h0_0 : rdS ty_63 (· < w0.heap.size) w0 v0_0 x0.1) (v0_1 : Value) (h0_1 : rdS ty_3 (· < w0.heap.size) w0 v0_1 x0.2.1) (r : Int) (hF : F_spec_swTotal x0 = some r) :
  Calls Try.prog 188 [(.agg #[v0_0, v0_1, (.int .i64 x0.2.2.1), (.int .i64 x0.2.2.2)])].toArray w0 fun e w' => e = .returned (.int .i64 r) ∧ Below w0.heap.size w0 w' := by
 refine calls_mk' Try.func188 rfl Try.ntmps188 rfl rfl fun Q hQ hP => ?_
 have hB : Below w0.heap.size w0 w0 := Below.refl _ _
 have hS : Sep w0.heap.size w0 [] := Sep.nil _ _
 unfold F_spec_swTotal at hF
 refine W.seq fun K1 hK1 => W.region (wl_box (cs := [v0_0, v0_1, (.int .i64 x0.2.2.1), (.int .i64 x0.2.2.2)]) rfl rfl rfl hB hS ?_)
 intro b2 w3 hb4 hB5 hS6
 refine wl_assign rfl rfl (WL.nil (fun a ha => hK1 _ _ (W.seq fun K7 hK7 => (W.region (wl_assign rfl rfl (WL.nil (fun a ha => hK7 _ _ (W.seq fun K8 hK8 => (W.seq fun K9 hK9 => (W.region (wl_field (o := 1) (off' := 1) ff_53_1 rfl rfl rfl (wl_load_blk (i := 0) (vs := [v0_1]) (v := v0_1) tf_29 rfl rfl hS6 rfl rfl rfl (wl_lenr (e := ty_3) (l := x0.2.1) Try.underlying29 rfl rfl h0_1 ?_)))))) a ha))))) a ha))
 refine wl_move rfl rfl (WL.nil (fun a ha => hK9 _ _ (W.block (W.loopk (fun m a w10 => ∃ (y13 : Int) (y14 : Int), St 18 [(3, (.int .i64 y13)), (7, v0_1), (8, (.int .i64 (List.length x0.2.1 : Int))), (9, (.int .i64 y14))] a ∧ Below w0.heap.size w0 w10 ∧ Sep w0.heap.size w10 [] ∧ F_spec_swTotal_L1 x0 m y13 y14 = some r) FU ?_ ?_)) a ha))
 ·
  exact fun a ha => ⟨0, 0, ha.sub ⟨rfl, rfl, rfl, rfl, trivial⟩, hB5, (hS6.sel [] rfl), hF⟩
 ·
  rintro m17 a w10 ⟨y13, y14, ha, hB11, hS12, hF⟩ KL16 hKL16
  refine W.at ?_ ha
  cases m17 with
  | zero => exact noneE hF
  | succ m17 =>
   obtain ⟨nx15, hnx15⟩ : ∃ k, k = F_spec_swTotal_L1 x0 m17 := ⟨_, rfl⟩
   rw [F_spec_swTotal_L1, ← hnx15] at hF
   refine W.seq fun K18 hK18 => W.region (wl_lss rfl rfl rfl (WL.nil (fun a ha => hK18 _ _ (W.seq fun K19 hK19 => (W.cond rfl (fun h20 => ?_) (fun h20 => ?_))) a ha)))
   ·replace hF := ifP h20 hF
    refine W.skip fun a ha => hK19 _ _ (W.seq fun K21 hK21 => (W.block (W.seq fun K22 hK22 => (W.region ?_)))) a ha
    obtain ⟨u23, hu23, hF⟩ := bindE hF
    refine wl_index (e := ty_3) Try.underlying29 rfl rfl rfl h0_1 hu23 ?_
    rintro p24 _ rfl hp25
    refine wl_load_p (vs := [(.int .i64 u23)]) (v := (.int .i64 u23)) tf_3 rfl rfl (hp25.ro hB11) rfl rfl (wl_assign rfl rfl (WL.nil (fun a ha => hK22 _ _ (W.region (wl_move rfl rfl (wl_move rfl rfl (wl_add rfl rfl rfl (wl_assign rfl rfl (WL.nil (fun a ha => hK21 _ _ (W.region (wl_add rfl rfl rfl (wl_move rfl rfl ?_))) a ha))))))) a ha)))
    refine WL.nil ?_
    rw [hnx15] at hF
    exact fun a ha => hKL16 a _ m17 (Nat.lt_succ_self m17) ⟨(w64 (y13 + u23)), (w64 (y14 + 1)), ha.sub ⟨rfl, rfl, rfl, rfl, trivial⟩, hB11, (hS12.sel [] rfl), hF⟩
   ·replace hF := ifN h20 hF
    refine W.exit fun a ha => hK8 _ _ (W.seq fun K26 hK26 => (W.region (wl_move rfl rfl (wl_assign rfl rfl (WL.nil (fun a ha => hK26 _ _ (W.ret ?_) a ha)))))) a ha
    have hr := Option.some.inj hF
    subst hr
    exact rets (vs := [(.int .i64 y13)]) hQ rfl ⟨rv_tmp rfl, trivial⟩ ⟨rfl, hB11⟩
theorem C_spec_TotalCounts (w0 : World) (x0 : ((List (List (Int × Int))) × (List Int) × Int × Int)) (v0_0 : Value) (h0_0 : rdS ty_63 (· < w0.heap.size) w0 v0_0 x0.1) (v0_1 : Value) (h0_1 : rdS ty_3 (· < w0.heap.size) w0 v0_1 x0.2.1) (r : (Int × Bool)) (hF : F_spec_TotalCounts x0 = some r) :
  Calls Try.prog 80 [(.agg #[v0_0, v0_1, (.int .i64 x0.2.2.1), (.int .i64 x0.2.2.2)])].toArray w0 fun e w' => e = .returned (.tuple #[(.int .i64 r.1), (.bool r.2)]) ∧ Below w0.heap.size w0 w' := by
 refine calls_mk' Try.func80 rfl Try.ntmps80 rfl rfl fun Q hQ hP => ?_
 have hB : Below w0.heap.size w0 w0 := Below.refl _ _
 have hS : Sep w0.heap.size w0 [] := Sep.nil _ _
 unfold F_spec_TotalCounts at hF
 refine W.seq fun K1 hK1 => W.region (wl_box (cs := [v0_0, v0_1, (.int .i64 x0.2.2.1), (.int .i64 x0.2.2.2)]) rfl rfl rfl hB hS ?_)
 intro b2 w3 hb4 hB5 hS6
 refine wl_assign rfl rfl (wl_assign rfl rfl (WL.nil (fun a ha => hK1 _ _ (W.seq fun K7 hK7 => (W.seq fun K8 hK8 => (W.region (wl_load_blk (i := 0) (vs := [v0_0, v0_1, (.int .i64 x0.2.2.1), (.int .i64 x0.2.2.2)]) (v := (.agg #[v0_0, v0_1, (.int .i64 x0.2.2.1), (.int .i64 x0.2.2.2)])) tf_53 rfl rfl hS6 rfl rfl rfl ?_)))) a ha)))
 obtain ⟨u9, hu9, hF⟩ := bindE hF
 refine wl_call rfl Try.call145 (C_spec_swGood w3 x0 v0_0 (h0_0.ro hB5) v0_1 (h0_1.ro hB5) _ hu9) rfl ?_
 rintro _ w10 ⟨rfl, hb11⟩
 refine ⟨_, rfl, ?_⟩
 have hB12 := hB5.trans (hb11.mono hB5.size)
 have hS13 := hS6.below hb11
 refine wl_not rfl rfl (WL.nil (fun a ha => hK8 _ _ (W.cond rfl (fun h15 => ?_) (fun h15 => ?_)) a ha))
 ·replace hF := ifP h15 hF
  refine W.seq fun K16 hK16 => W.region (wl_assign rfl rfl (wl_assign rfl rfl (WL.nil (fun a ha => hK16 _ _ (W.ret ?_) a ha))))
  have hr := Option.some.inj hF
  subst hr
  exact rets (vs := [(.int .i64 0), (.bool false)]) hQ rfl ⟨rv_tmp rfl, rv_tmp rfl, trivial⟩ ⟨rfl, hB12⟩
 ·replace hF := ifN h15 hF
  refine W.skip fun a ha => hK7 _ _ (W.seq fun K17 hK17 => (W.region (wl_load_blk (i := 0) (vs := [v0_0, v0_1, (.int .i64 x0.2.2.1), (.int .i64 x0.2.2.2)]) (v := (.agg #[v0_0, v0_1, (.int .i64 x0.2.2.1), (.int .i64 x0.2.2.2)])) tf_53 rfl rfl hS13 rfl rfl rfl ?_))) a ha
  obtain ⟨u18, hu18, hF⟩ := bindE hF
  refine wl_call rfl Try.call188 (C_spec_swTotal w10 x0 v0_0 (h0_0.ro hB12) v0_1 (h0_1.ro hB12) _ hu18) rfl ?_
  rintro _ w19 ⟨rfl, hb20⟩
  refine ⟨_, rfl, ?_⟩
  have hB21 := hB12.trans (hb20.mono hB12.size)
  refine wl_assign rfl rfl (wl_assign rfl rfl (WL.nil (fun a ha => hK17 _ _ (W.ret ?_) a ha)))
  have hr := Option.some.inj hF
  subst hr
  exact rets (vs := [(.int .i64 u18), (.bool true)]) hQ rfl ⟨rv_tmp rfl, rv_tmp rfl, trivial⟩ ⟨rfl, hB21⟩
theorem C_impl_IsSheet (w0 : World) (x0 : (Int × (Int × Int) × (List (Int × (Int × Int))))) (v0_0 : Value) (h0_0 : rdS ty_169 (· < w0.heap.size) w0 v0_0 x0.2.2) (r : Bool) (hF : F_impl_IsSheet x0 = some r) :
  Calls Try.prog 192 [(.agg #[(.int .i64 x0.1), (.int .i64 x0.2.1.1), (.int .i64 x0.2.1.2), v0_0])].toArray w0 fun e w' => e = .returned (.bool r) ∧ Below w0.heap.size w0 w' := by
 refine calls_mk' Try.func192 rfl Try.ntmps192 rfl rfl fun Q hQ hP => ?_
 have hB : Below w0.heap.size w0 w0 := Below.refl _ _
 have hS : Sep w0.heap.size w0 [] := Sep.nil _ _
 unfold F_impl_IsSheet at hF
 refine W.seq fun K1 hK1 => W.region (wl_box (cs := [(.int .i64 x0.1), (.int .i64 x0.2.1.1), (.int .i64 x0.2.1.2), v0_0]) rfl rfl rfl hB hS ?_)
 intro b2 w3 hb4 hB5 hS6
 refine wl_assign rfl rfl (WL.nil (fun a ha => hK1 _ _ (W.seq fun K7 hK7 => (W.seq fun K8 hK8 => ?_)) a ha))
 obtain ⟨k13, hk13, hF⟩ := jE1 hF
 have hJ14 : ∀ (y12 : Bool) (w9 : World) (_ : k13 y12 = some r) (_ : Below w0.heap.size w0 w9) (_ : Sep w0.heap.size w9 [R.blk b2 114 [(.int .i64 x0.1), (.int .i64 x0.2.1.1), (.int .i64 x0.2.1.2), v0_0]]), ∀ a, St 39 [(1, (.pointer (some ⟨b2, 0, none⟩))), (20, (.bool y12))] a → K8 a w9 := by
  intro y12 w9 hF hB10 hS11
  subst hk13
  refine fun a ha => hK8 _ _ (W.cond rfl (fun h15 => ?_) (fun h15 => ?_)) a ha
  ·replace hF := ifP h15 hF
   refine W.seq fun K16 hK16 => W.region (wl_assign rfl rfl (WL.nil (fun a ha => hK16 _ _ (W.ret ?_) a ha)))
   have hr := Option.some.inj hF
   subst hr
   exact rets (vs := [(.bool false)]) hQ rfl ⟨rv_tmp rfl, trivial⟩ ⟨rfl, hB10⟩
  ·replace hF := ifN h15 hF
   refine W.skip fun a ha => hK7 _ _ (W.seq fun K17 hK17 => (W.seq fun K18 hK18 => (W.region (wl_field (o := 3) (off' := 3) ff_114_2 rfl rfl rfl (wl_load_blk (i := 0) (vs := [v0_0]) (v := v0_0) tf_112 rfl rfl hS11 rfl rfl rfl (wl_lenr (e := ty_169) (l := x0.2.2) Try.underlying112 rfl rfl h0_0 (wl_move rfl rfl (WL.nil (fun a ha => hK18 _ _ (W.block (W.loopk (fun m a w19 => ∃ (y22 : Int), St 39 [(22, v0_0), (23, (.int .i64 (List.length x0.2.2 : Int))), (24, (.int .i64 y22))] a ∧ Below w0.heap.size w0 w19 ∧ Sep w0.heap.size w19 [] ∧ F_impl_IsSheet_L1 x0 m y22 = some r) FU ?_ ?_)) a ha))))))))) a ha
   ·
    exact fun a ha => ⟨0, ha.sub ⟨rfl, rfl, rfl, trivial⟩, hB10, (hS11.sel [] rfl), hF⟩
   ·
    rintro m25 a w19 ⟨y22, ha, hB20, hS21, hF⟩ KL24 hKL24
    refine W.at ?_ ha
    cases m25 with
    | zero => exact noneE hF
    | succ m25 =>
     obtain ⟨nx23, hnx23⟩ : ∃ k, k = F_impl_IsSheet_L1 x0 m25 := ⟨_, rfl⟩
     rw [F_impl_IsSheet_L1, ← hnx23] at hF
     refine W.seq fun K26 hK26 => W.region (wl_lss rfl rfl rfl (WL.nil (fun a ha => hK26 _ _ (W.seq fun K27 hK27 => (W.cond rfl (fun h28 => ?_) (fun h28 => ?_))) a ha)))
     ·replace hF := ifP h28 hF
      refine W.skip fun a ha => hK27 _ _ (W.seq fun K29 hK29 => (W.block (W.seq fun K30 hK30 => (W.region ?_)))) a ha
      obtain ⟨u31, hu31, hF⟩ := bindE hF
      refine wl_index (e := ty_169) Try.underlying112 rfl rfl rfl h0_0 hu31 ?_
      rintro p32 _ rfl hp33
      refine wl_load_p (vs := [(.int .i64 u31.1), (.int .i64 u31.2.1), (.int .i64 u31.2.2)]) (v := (.agg #[(.int .i64 u31.1), (.int .i64 u31.2.1), (.int .i64 u31.2.2)])) tf_169 rfl rfl (hp33.ro hB20) rfl rfl (wl_alloc (cs := [(.int .i64 0), (.int .i64 0), (.int .i64 0)]) tf_169 rfl rfl hB20 hS21 ?_)
      intro b34 w35 hb36 hB37 hS38
      refine wl_store_blk (i := 0) (vs := [(.int .i64 u31.1), (.int .i64 u31.2.1), (.int .i64 u31.2.2)]) (cs' := [(.int .i64 u31.1), (.int .i64 u31.2.1), (.int .i64 u31.2.2)]) tf_169 rfl rfl rfl rfl hB37 hS38 rfl rfl ⟨rfl, rfl, rfl, trivial⟩ rfl ?_
      intro w39 hk42 hB40 hS41
      refine WL.nil fun a ha => hK30 _ _ (W.seq fun K43 hK43 => ?_) a ha
      obtain ⟨k48, hk48, hF⟩ := jE1 hF
      have hJ49 : ∀ (y47 : Bool) (w44 : World) (_ : k48 y47 = some r) (_ : Below w0.heap.size w0 w44) (_ : Sep w0.heap.size w44 []), ∀ a, St 39 [(22, v0_0), (23, (.int .i64 (List.length x0.2.2 : Int))), (24, (.int .i64 y22)), (37, (.bool y47))] a → K43 a w44 := by
       intro y47 w44 hF hB45 hS46
       subst hk48
       refine fun a ha => hK43 _ _ (W.cond rfl (fun h50 => ?_) (fun h50 => ?_)) a ha
       ·replace hF := ifP h50 hF
        refine W.seq fun K51 hK51 => W.region (wl_assign rfl rfl (WL.nil (fun a ha => hK51 _ _ (W.ret ?_) a ha)))
        have hr := Option.some.inj hF
        subst hr
        exact rets (vs := [(.bool false)]) hQ rfl ⟨rv_tmp rfl, trivial⟩ ⟨rfl, hB45⟩
       ·replace hF := ifN h50 hF
        refine W.skip fun a ha => hK29 _ _ (W.region (wl_add rfl rfl rfl (wl_move rfl rfl (WL.nil ?_)))) a ha
        rw [hnx23] at hF
        exact fun a ha => hKL24 a _ m25 (Nat.lt_succ_self m25) ⟨(w64 (y22 + 1)), ha.sub ⟨rfl, rfl, rfl, trivial⟩, hB45, (hS46.sel [] rfl), hF⟩
      refine W.region (wl_field (o := 0) (off' := 0) ff_169_0 rfl rfl rfl (wl_load_blk (i := 0) (vs := [(.int .i64 u31.1)]) (v := (.int .i64 u31.1)) tf_3 rfl rfl hS41 rfl rfl rfl ?_))
      obtain ⟨u52, hu52, hF⟩ := bindE hF
      refine wl_call rfl Try.call128 (C_impl_within w39 u31.1 1 64 _ hu52) rfl ?_
      rintro _ w53 ⟨rfl, hb54⟩
      refine ⟨_, rfl, ?_⟩
      have hB55 := hB40.trans (hb54.mono hB40.size)
      have hS56 := hS41.below hb54
      refine wl_not rfl rfl (wl_move rfl rfl ?_)
      rcases bE (!u52) with h58 | h58
      ·replace hF := ifP h58 hF
       refine wl_off rfl rfl rfl h58 (wl_off rfl rfl rfl h58 (wl_off rfl rfl rfl h58 (wl_off rfl rfl rfl h58 (wl_pick_t rfl rfl h58 rfl (WL.nil ?_)))))
       exact fun a ha => hJ49 (true) _ hF hB55 (hS56.sel [] rfl) a (ha.sub ⟨rfl, rfl, rfl, rfl, trivial⟩)
      ·replace hF := ifN h58 hF
       refine wl_on rfl rfl h58 (wl_field (o := 1) (off' := 1) ff_169_1 rfl rfl rfl (wl_on rfl rfl h58 (wl_load_blk (i := 0) (vs := [(.int .i64 u31.2.1), (.int .i64 u31.2.2)]) (v := (.agg #[(.int .i64 u31.2.1), (.int .i64 u31.2.2)])) tf_68 rfl rfl hS56 rfl rfl rfl (wl_on rfl rfl h58 ?_))))
       obtain ⟨u59, hu59, hF⟩ := bindE hF
       refine wl_call rfl Try.call164 (C_impl_IsSpot w53 u31.2 _ hu59) rfl ?_
       rintro _ w60 ⟨rfl, hb61⟩
       refine ⟨_, rfl, ?_⟩
       have hB62 := hB55.trans (hb61.mono hB55.size)
       have hS63 := hS56.below hb61
       refine wl_on rfl rfl h58 (wl_not rfl rfl (wl_pick_f rfl rfl h58 rfl (WL.nil ?_)))
       exact fun a ha => hJ49 ((!u59)) _ hF hB62 (hS63.sel [] rfl) a (ha.sub ⟨rfl, rfl, rfl, rfl, trivial⟩)
     ·replace hF := ifN h28 hF
      refine W.exit fun a ha => hK17 _ _ (W.seq fun K65 hK65 => (W.region (wl_assign rfl rfl (WL.nil (fun a ha => hK65 _ _ (W.ret ?_) a ha))))) a ha
      have hr := Option.some.inj hF
      subst hr
      exact rets (vs := [(.bool true)]) hQ rfl ⟨rv_tmp rfl, trivial⟩ ⟨rfl, hB20⟩
 refine W.region (wl_field (o := 0) (off' := 0) ff_114_0 rfl rfl rfl (wl_load_blk (i := 0) (vs := [(.int .i64 x0.1)]) (v := (.int .i64 x0.1)) tf_3 rfl rfl hS6 rfl rfl rfl ?_))
 obtain ⟨u66, hu66, hF⟩ := bindE hF
 refine wl_call rfl Try.call128 (C_impl_within w3 x0.1 0 11 _ hu66) rfl ?_
 rintro _ w67 ⟨rfl, hb68⟩
 refine ⟨_, rfl, ?_⟩
 have hB69 := hB5.trans (hb68.mono hB5.size)
 have hS70 := hS6.below hb68
 refine wl_not rfl rfl (wl_move rfl rfl ?_)
 rcases bE (!u66) with h72 | h72
 ·replace hF := ifP h72 hF
  refine wl_off rfl rfl rfl h72 (wl_off rfl rfl rfl h72 (wl_off rfl rfl rfl h72 (wl_off rfl rfl rfl h72 (wl_pick_t rfl rfl h72 rfl (wl_move rfl rfl (wl_off rfl rfl rfl rfl (wl_off rfl rfl rfl rfl (wl_off rfl rfl rfl rfl (wl_off rfl rfl rfl rfl (wl_pick_t rfl rfl rfl rfl (WL.nil ?_)))))))))))
  exact fun a ha => hJ14 (true) _ hF hB69 (hS70.sel [0] rfl) a (ha.sub ⟨rfl, rfl, trivial⟩)
 ·replace hF := ifN h72 hF
  refine wl_on rfl rfl h72 (wl_field (o := 1) (off' := 1) ff_114_1 rfl rfl rfl (wl_on rfl rfl h72 (wl_load_blk (i := 0) (vs := [(.int .i64 x0.2.1.1), (.int .i64 x0.2.1.2)]) (v := (.agg #[(.int .i64 x0.2.1.1), (.int .i64 x0.2.1.2)])) tf_68 rfl rfl hS70 rfl rfl rfl (wl_on rfl rfl h72 ?_))))
  obtain ⟨u73, hu73, hF⟩ := bindE hF
  refine wl_call rfl Try.call164 (C_impl_IsSpot w67 x0.2.1 _ hu73) rfl ?_
  rintro _ w74 ⟨rfl, hb75⟩
  refine ⟨_, rfl, ?_⟩
  have hB76 := hB69.trans (hb75.mono hB69.size)
  have hS77 := hS70.below hb75
  refine wl_on rfl rfl h72 (wl_not rfl rfl (wl_pick_f rfl rfl h72 rfl (wl_move rfl rfl ?_)))
  rcases bE (!u73) with h79 | h79
  ·replace hF := ifP h79 hF
   refine wl_off rfl rfl rfl h79 (wl_off rfl rfl rfl h79 (wl_off rfl rfl rfl h79 (wl_off rfl rfl rfl h79 (wl_pick_t rfl rfl h79 rfl (WL.nil ?_)))))
   exact fun a ha => hJ14 (true) _ hF hB76 (hS77.sel [0] rfl) a (ha.sub ⟨rfl, rfl, trivial⟩)
  ·replace hF := ifN h79 hF
   refine wl_on rfl rfl h79 (wl_field (o := 3) (off' := 3) ff_114_2 rfl rfl rfl (wl_on rfl rfl h79 (wl_load_blk (i := 0) (vs := [v0_0]) (v := v0_0) tf_112 rfl rfl hS77 rfl rfl rfl (wl_on rfl rfl h79 (wl_lenr (e := ty_169) (l := x0.2.2) Try.underlying112 rfl rfl h0_0 (wl_on rfl rfl h79 (wl_gtr rfl rfl rfl (wl_pick_f rfl rfl h79 rfl (WL.nil ?_)))))))))
   exact fun a ha => hJ14 ((decide (8 < (List.length x0.2.2 : Int)))) _ hF hB76 (hS77.sel [0] rfl) a (ha.sub ⟨rfl, rfl, trivial⟩)
theorem C_impl_totalCounts (w0 : World) (x0 : ((List (List (Int × Int))) × (List Int) × Int × Int)) (v0_0 : Value) (h0_0 : rdS ty_63 (· < w0.heap.size) w0 v0_0 x0.1) (v0_1 : Value) (h0_1 : rdS ty_3 (· < w0.heap.size) w0 v0_1 x0.2.1) (r : Int) (hF : F_impl_totalCounts x0 = some r) :
  Calls Try.prog 177 [(.agg #[v0_0, v0_1, (.int .i64 x0.2.2.1), (.int .i64 x0.2.2.2)])].toArray w0 fun e w' => e = .returned (.int .i64 r) ∧ Below w0.heap.size w0 w' := by
 refine calls_mk' Try.func177 rfl Try.ntmps177 rfl rfl fun Q hQ hP => ?_
 have hB : Below w0.heap.size w0 w0 := Below.refl _ _
 have hS : Sep w0.heap.size w0 [] := Sep.nil _ _
 unfold F_impl_totalCounts at hF
 refine W.seq fun K1 hK1 => W.region (wl_box (cs := [v0_0, v0_1, (.int .i64 x0.2.2.1), (.int .i64 x0.2.2.2)]) rfl rfl rfl hB hS ?_)
 intro b2 w3 hb4 hB5 hS6
 refine wl_assign rfl rfl (WL.nil (fun a ha => hK1 _ _ (W.seq fun K7 hK7 => (W.region (wl_assign rfl rfl (WL.nil (fun a ha => hK7 _ _ (W.seq fun K8 hK8 => (W.seq fun K9 hK9 => (W.region (wl_field (o := 1) (off' := 1) ff_53_1 rfl rfl rfl (wl_load_blk (i := 0) (vs := [v0_1]) (v := v0_1) tf_29 rfl rfl hS6 rfl rfl rfl (wl_lenr (e := ty_3) (l := x0.2.1) Try.underlying29 rfl rfl h0_1 ?_)))))) a ha))))) a ha))
 refine wl_move rfl rfl (WL.nil (fun a ha => hK9 _ _ (W.block (W.loopk (fun m a w10 => ∃ (y13 : Int) (y14 : Int), St 18 [(3, (.int .i64 y13)), (7, v0_1), (8, (.int .i64 (List.length x0.2.1 : Int))), (9, (.int .i64 y14))] a ∧ Below w0.heap.size w0 w10 ∧ Sep w0.heap.size w10 [] ∧ F_impl_totalCounts_L1 x0 m y13 y14 = some r) FU ?_ ?_)) a ha))
 ·
  exact fun a ha => ⟨0, 0, ha.sub ⟨rfl, rfl, rfl, rfl, trivial⟩, hB5, (hS6.sel [] rfl), hF⟩
 ·
  rintro m17 a w10 ⟨y13, y14, ha, hB11, hS12, hF⟩ KL16 hKL16
  refine W.at ?_ ha
  cases m17 with
  | zero => exact noneE hF
  | succ m17 =>
   obtain ⟨nx15, hnx15⟩ : ∃ k, k = F_impl_totalCounts_L1 x0 m17 := ⟨_, rfl⟩
   rw [F_impl_totalCounts_L1, ← hnx15] at hF
   refine W.seq fun K18 hK18 => W.region (wl_lss rfl rfl rfl (WL.nil (fun a ha => hK18 _ _ (W.seq fun K19 hK19 => (W.cond rfl (fun h20 => ?_) (fun h20 => ?_))) a ha)))
   ·replace hF := ifP h20 hF
    refine W.skip fun a ha => hK19 _ _ (W.seq fun K21 hK21 => (W.block (W.seq fun K22 hK22 => (W.region ?_)))) a ha
    obtain ⟨u23, hu23, hF⟩ := bindE hF
    refine wl_index (e := ty_3) Try.underlying29 rfl rfl rfl h0_1 hu23 ?_
    rintro p24 _ rfl hp25
    refine wl_load_p (vs := [(.int .i64 u23)]) (v := (.int .i64 u23)) tf_3 rfl rfl (hp25.ro hB11) rfl rfl (wl_assign rfl rfl (WL.nil (fun a ha => hK22 _ _ (W.region (wl_move rfl rfl (wl_move rfl rfl (wl_add rfl rfl rfl (wl_assign rfl rfl (WL.nil (fun a ha => hK21 _ _ (W.region (wl_add rfl rfl rfl (wl_move rfl rfl ?_))) a ha))))))) a ha)))
    refine WL.nil ?_
    rw [hnx15] at hF
    exact fun a ha => hKL16 a _ m17 (Nat.lt_succ_self m17) ⟨(w64 (y13 + u23)), (w64 (y14 + 1)), ha.sub ⟨rfl, rfl, rfl, rfl, trivial⟩, hB11, (hS12.sel [] rfl), hF⟩
   ·replace hF := ifN h20 hF
    refine W.exit fun a ha => hK8 _ _ (W.seq fun K26 hK26 => (W.region (wl_move rfl rfl (wl_assign rfl rfl (WL.nil (fun a ha => hK26 _ _ (W.ret ?_) a ha)))))) a ha
    have hr := Option.some.inj hF
    subst hr
    exact rets (vs := [(.int .i64 y13)]) hQ rfl ⟨rv_tmp rfl, trivial⟩ ⟨rfl, hB11⟩
theorem C_impl_TotalCounts (w0 : World) (x0 : ((List (List (Int × Int))) × (List Int) × Int × Int)) (v0_0 : Value) (h0_0 : rdS ty_63 (· < w0.heap.size) w0 v0_0 x0.1) (v0_1 : Value) (h0_1 : rdS ty_3 (· < w0.heap.size) w0 v0_1 x0.2.1) (r : (Int × Bool)) (hF : F_impl_TotalCounts x0 = some r) :
  Calls Try.prog 63 [(.agg #[v0_0, v0_1, (.int .i64 x0.2.2.1), (.int .i64 x0.2.2.2)])].toArray w0 fun e w' => e = .returned (.tuple #[(.int .i64 r.1), (.bool r.2)]) ∧ Below w0.heap.size w0 w' := by
 refine calls_mk' Try.func63 rfl Try.ntmps63 rfl rfl fun Q hQ hP => ?_
 have hB : Below w0.heap.size w0 w0 := Below.refl _ _
 have hS : Sep w0.heap.size w0 [] := Sep.nil _ _
 unfold F_impl_TotalCounts at hF
 refine W.seq fun K1 hK1 => W.region (wl_box (cs := [v0_0, v0_1, (.int .i64 x0.2.2.1), (.int .i64 x0.2.2.2)]) rfl rfl rfl hB hS ?_)
 intro b2 w3 hb4 hB5 hS6
 refine wl_assign rfl rfl (wl_assign rfl rfl (WL.nil (fun a ha => hK1 _ _ (W.seq fun K7 hK7 => (W.seq fun K8 hK8 => (W.region (wl_load_blk (i := 0) (vs := [v0_0, v0_1, (.int .i64 x0.2.2.1), (.int .i64 x0.2.2.2)]) (v := (.agg #[v0_0, v0_1, (.int .i64 x0.2.2.1), (.int .i64 x0.2.2.2)])) tf_53 rfl rfl hS6 rfl rfl rfl ?_)))) a ha)))
 obtain ⟨u9, hu9, hF⟩ := bindE hF
 refine wl_call rfl Try.call60 (C_impl_IsShow w3 x0 v0_0 (h0_0.ro hB5) v0_1 (h0_1.ro hB5) _ hu9) rfl ?_
 rintro _ w10 ⟨rfl, hb11⟩
 refine ⟨_, rfl, ?_⟩
 have hB12 := hB5.trans (hb11.mono hB5.size)
 have hS13 := hS6.below hb11
 refine wl_not rfl rfl (WL.nil (fun a ha => hK8 _ _ (W.cond rfl (fun h15 => ?_) (fun h15 => ?_)) a ha))
 ·replace hF := ifP h15 hF
  refine W.seq fun K16 hK16 => W.region (wl_assign rfl rfl (wl_assign rfl rfl (WL.nil (fun a ha => hK16 _ _ (W.ret ?_) a ha))))
  have hr := Option.some.inj hF
  subst hr
  exact rets (vs := [(.int .i64 0), (.bool false)]) hQ rfl ⟨rv_tmp rfl, rv_tmp rfl, trivial⟩ ⟨rfl, hB12⟩
 ·replace hF := ifN h15 hF
  refine W.skip fun a ha => hK7 _ _ (W.seq fun K17 hK17 => (W.region (wl_load_blk (i := 0) (vs := [v0_0, v0_1, (.int .i64 x0.2.2.1), (.int .i64 x0.2.2.2)]) (v := (.agg #[v0_0, v0_1, (.int .i64 x0.2.2.1), (.int .i64 x0.2.2.2)])) tf_53 rfl rfl hS13 rfl rfl rfl ?_))) a ha
  obtain ⟨u18, hu18, hF⟩ := bindE hF
  refine wl_call rfl Try.call177 (C_impl_totalCounts w10 x0 v0_0 (h0_0.ro hB12) v0_1 (h0_1.ro hB12) _ hu18) rfl ?_
  rintro _ w19 ⟨rfl, hb20⟩
  refine ⟨_, rfl, ?_⟩
  have hB21 := hB12.trans (hb20.mono hB12.size)
  refine wl_assign rfl rfl (wl_assign rfl rfl (WL.nil (fun a ha => hK17 _ _ (W.ret ?_) a ha)))
  have hr := Option.some.inj hF
  subst hr
  exact rets (vs := [(.int .i64 u18), (.bool true)]) hQ rfl ⟨rv_tmp rfl, rv_tmp rfl, trivial⟩ ⟨rfl, hB21⟩
theorem C_spec_l1Cur__partOf__mut__box (w0 : World) (x0 : ((List Int) × Int × Int)) (b0 : Nat) (v0_0 : Value) (h0_0 : rdS ty_5 (Out (fps [R.blk b0 131 [v0_0, (.int .i64 x0.2.1), (.int .u64 x0.2.2)]]) w0) w0 v0_0 x0.1) (x1 : ((List (List (Int × Int))) × (List Int) × Int × Int)) (v1_0 : Value) (v1_1 : Value) (h1_0 : rdS ty_63 (Out (fps [R.blk b0 131 [v0_0, (.int .i64 x0.2.1), (.int .u64 x0.2.2)]]) w0) w0 v1_0 x1.1) (h1_1 : rdS ty_3 (Out (fps [R.blk b0 131 [v0_0, (.int .i64 x0.2.1), (.int .u64 x0.2.2)]]) w0) w0 v1_1 x1.2.1) (hS0 : Sep 0 w0 [R.blk b0 131 [v0_0, (.int .i64 x0.2.1), (.int .u64 x0.2.2)]]) (r : (Int × ((List Int) × Int × Int))) (hF : F_spec_l1Cur__partOf__mut__box x0 x1 = some r) :
  Calls Try.prog 178 [(.pointer (some ⟨b0, 0, none⟩)), (.agg #[v1_0, v1_1, (.int .i64 x1.2.2.1), (.int .i64 x1.2.2.2)])].toArray w0 fun e w' => e = .returned (.int .i64 r.1) ∧ Below 0 (wE w0) w' ∧ Sep 0 w' [R.rest w0 (fps [R.blk b0 131 [v0_0, (.int .i64 x0.2.1), (.int .u64 x0.2.2)]]), R.blk b0 131 [v0_0, (.int .i64 r.2.2.1), (.int .u64 r.2.2.2)]] := by
 refine calls_mk' Try.func178 rfl Try.ntmps178 rfl rfl fun Q hQ hP => ?_
 have hB : Below (wE w0).heap.size (wE w0) w0 := wE_below w0
 have hS : Sep (wE w0).heap.size w0 [R.rest w0 (fps [R.blk b0 131 [v0_0, (.int .i64 x0.2.1), (.int .u64 x0.2.2)]]), R.blk b0 131 [v0_0, (.int .i64 x0.2.1), (.int .u64 x0.2.2)]] := hS0.rest
 unfold F_spec_l1Cur__partOf__mut__box at hF
 refine W.seq fun K1 hK1 => W.region (wl_box (cs := [v1_0, v1_1, (.int .i64 x1.2.2.1), (.int .i64 x1.2.2.2)]) rfl rfl rfl hB hS ?_)
 intro b2 w3 hb4 hB5 hS6
 refine wl_assign rfl rfl (WL.nil (fun a ha => hK1 _ _ (W.seq fun K7 hK7 => (W.regionH mixed_ [b0] hB5 hS6 ?_)) a ha))
 intro w8 hb9 hB10 hS11
 have hSW12 := KeepX.refl w8 [b0]
 refine WH.tk 0 rfl hP hSW12 (pr_move rfl rfl (WH.tk 1 rfl hP hSW12 (pr_field (o := 1) (off' := 1) ff_53_1 rfl rfl rfl (WH.tk 2 rfl hP hSW12 (pr_load_blk (i := 0) (vs := [v1_1]) (v := v1_1) tf_29 rfl rfl hS11 rfl rfl rfl (hS11.disj (i := 0) (j := 2) rfl rfl rfl b2 (by simp [R.blk])) (WH.tk 3 rfl hP hSW12 (pr_lenr (e := ty_3) (l := x1.2.1) Try.underlying29 rfl rfl h1_1 (WH.tk 4 rfl hP hSW12 (pr_move rfl rfl (WH.tk 9 rfl hP hSW12 (pr_move rfl rfl (WH.on1 5 rfl ?_))))))))))))
 obtain ⟨u13, hu13, hF⟩ := bindE hF
 refine wl_call rfl Try.call132 (C_spec_l1Cur__pick__mut__box w8 x0 b0 v0_0 (h0_0.rsto (hS11.sel [1, 2] rfl)) 16 (hS11.sel [2] rfl).base0 _ hu13) rfl ?_
 rintro _ w14 ⟨rfl, hE15, hM16⟩
 refine ⟨_, rfl, ?_⟩
 have hB17 := hS11.takeB [2] rfl (M := [R.blk b0 131 [v0_0, (.int .i64 x0.2.1), (.int .u64 x0.2.2)]]) rfl hB10 hE15 hM16
 have hS18 : Sep (wE w0).heap.size w14 [R.blk b0 131 [v0_0, (.int .i64 u13.2.2.1), (.int .u64 u13.2.2.2)], R.blk b2 53 [v1_0, v1_1, (.int .i64 x1.2.2.1), (.int .i64 x1.2.2.2)], R.rest w0 (fps [R.blk b0 131 [v0_0, (.int .i64 x0.2.1), (.int .u64 x0.2.2)]])] := hS11.take [2] [0, 1] rfl (M := [R.blk b0 131 [v0_0, (.int .i64 x0.2.1), (.int .u64 x0.2.2)]]) rfl hM16 hB10.size
 have hk19 := box_kept hM16
 have hSW20 := hSW12.wr' hk19.1 hk19.2.1 (fun _ _ h => h)
 have hbs21 : ∀ b, b < w8.heap.size → b ∈ [b0] → b ∈ [b0] := fun b hlt hb => (hk19.2.2 b hb).elim ((fun _ _ h => h) b hlt) (fun h => absurd hlt (Nat.not_lt.2 (Nat.le_trans hSW12.size h)))
 refine WL.nil (WH.ret hSW20 (WH.tk 6 rfl hP hSW20 (pr_quo rfl rfl rfl (by decide) (WH.tk 7 rfl hP hSW20 (pr_add rfl rfl rfl (WH.on1 8 rfl ?_))))))
 obtain ⟨u22, hu22, hF⟩ := bindE hF
 refine wl_call rfl Try.call132 (C_spec_l1Cur__pick__mut__box w14 (x0.1, u13.2.2.1, u13.2.2.2) b0 v0_0 (h0_0.rsto (hS18.sel [2, 0] rfl)) (w64 ((List.length x1.2.1 : Int) + (w64 (Int.tdiv u13.1 15)))) (hS18.sel [0] rfl).base0 _ hu22) rfl ?_
 rintro _ w23 ⟨rfl, hE24, hM25⟩
 refine ⟨_, rfl, ?_⟩
 have hB26 := hS18.takeB [0] rfl (M := [R.blk b0 131 [v0_0, (.int .i64 u13.2.2.1), (.int .u64 u13.2.2.2)]]) rfl hB17 hE24 hM25
 have hS27 : Sep (wE w0).heap.size w23 [R.blk b0 131 [v0_0, (.int .i64 u22.2.2.1), (.int .u64 u22.2.2.2)], R.blk b2 53 [v1_0, v1_1, (.int .i64 x1.2.2.1), (.int .i64 x1.2.2.2)], R.rest w0 (fps [R.blk b0 131 [v0_0, (.int .i64 x0.2.1), (.int .u64 x0.2.2)]])] := hS18.take [0] [1, 2] rfl (M := [R.blk b0 131 [v0_0, (.int .i64 u13.2.2.1), (.int .u64 u13.2.2.2)]]) rfl hM25 hB17.size
 have hk28 := box_kept hM25
 have hSW29 := hSW20.wr' hk28.1 hk28.2.1 (hbs21)
 have hbs30 : ∀ b, b < w8.heap.size → b ∈ [b0] → b ∈ [b0] := fun b hlt hb => (hk28.2.2 b hb).elim ((hbs21) b hlt) (fun h => absurd hlt (Nat.not_lt.2 (Nat.le_trans hSW20.size h)))
 refine WL.nil (WH.ret hSW29 (WH.on1 10 rfl ?_))
 obtain ⟨u31, hu31, hF⟩ := bindE hF
 refine wl_call rfl Try.call132 (C_spec_l1Cur__pick__mut__box w23 (x0.1, u22.2.2.1, u22.2.2.2) b0 v0_0 (h0_0.rsto (hS27.sel [2, 0] rfl)) 24 (hS27.sel [0] rfl).base0 _ hu31) rfl ?_
 rintro _ w32 ⟨rfl, hE33, hM34⟩
 refine ⟨_, rfl, ?_⟩
 have hB35 := hS27.takeB [0] rfl (M := [R.blk b0 131 [v0_0, (.int .i64 u22.2.2.1), (.int .u64 u22.2.2.2)]]) rfl hB26 hE33 hM34
 have hS36 : Sep (wE w0).heap.size w32 [R.blk b0 131 [v0_0, (.int .i64 u31.2.2.1), (.int .u64 u31.2.2.2)], R.blk b2 53 [v1_0, v1_1, (.int .i64 x1.2.2.1), (.int .i64 x1.2.2.2)], R.rest w0 (fps [R.blk b0 131 [v0_0, (.int .i64 x0.2.1), (.int .u64 x0.2.2)]])] := hS27.take [0] [1, 2] rfl (M := [R.blk b0 131 [v0_0, (.int .i64 u22.2.2.1), (.int .u64 u22.2.2.2)]]) rfl hM34 hB26.size
 have hk37 := box_kept hM34
 have hSW38 := hSW29.wr' hk37.1 hk37.2.1 (hbs30)
 refine WL.nil (WH.ret hSW38 (WH.tk 11 rfl hP hSW38 (pr_quo rfl rfl rfl (by decide) (WH.tk 12 rfl hP hSW38 (pr_sub rfl rfl rfl (WH.tk 13 rfl hP hSW38 (pr_assign rfl rfl (WH.done (by kernel_rfl) (fun a ha => hK7 _ _ (W.ret ?_) a ha)))))))))
 have hr := Option.some.inj hF
 subst hr
 exact rets (vs := [(.int .i64 (w64 (u22.1 - (w64 (Int.tdiv u31.1 23)))))]) hQ rfl ⟨rv_tmp rfl, trivial⟩ ⟨rfl, hB35, hS36.sel [2, 0] rfl⟩
theorem C_spec_swHas (w0 : World) (x0 : ((List (List (Int × Int))) × (List Int) × Int × Int)) (v0_0 : Value) (h0_0 : rdS ty_63 (· < w0.heap.size) w0 v0_0 x0.1) (v0_1 : Value) (h0_1 : rdS ty_3 (· < w0.heap.size) w0 v0_1 x0.2.1) (x1 : Int) (r : Bool) (hF : F_spec_swHas x0 x1 = some r) :
  Calls Try.prog 179 [(.agg #[v0_0, v0_1, (.int .i64 x0.2.2.1), (.int .i64 x0.2.2.2)]), (.int .i64 x1)].toArray w0 fun e w' => e = .returned (.bool r) ∧ Below w0.heap.size w0 w' := by
 refine calls_mk' Try.func179 rfl Try.ntmps179 rfl rfl fun Q hQ hP => ?_
 have hB : Below w0.heap.size w0 w0 := Below.refl _ _
 have hS : Sep w0.heap.size w0 [] := Sep.nil _ _
 unfold F_spec_swHas at hF
 refine W.seq fun K1 hK1 => W.region (wl_box (cs := [v0_0, v0_1, (.int .i64 x0.2.2.1), (.int .i64 x0.2.2.2)]) rfl rfl rfl hB hS ?_)
 intro b2 w3 hb4 hB5 hS6
 refine wl_assign rfl rfl (WL.nil (fun a ha => hK1 _ _ (W.seq fun K7 hK7 => ?_) a ha))
 obtain ⟨k12, hk12, hF⟩ := jE1 hF
 have hJ13 : ∀ (y11 : Bool) (w8 : World) (_ : k12 y11 = some r) (_ : Below w0.heap.size w0 w8) (_ : Sep w0.heap.size w8 []), ∀ a, St 15 [(4, (.bool y11))] a → K7 a w8 := by
  intro y11 w8 hF hB9 hS10
  subst hk12
  refine fun a ha => hK7 _ _ (W.ret ?_) a ha
  have hr := Option.some.inj hF
  subst hr
  exact rets (vs := [(.bool y11)]) hQ rfl ⟨rv_tmp rfl, trivial⟩ ⟨rfl, hB9⟩
 refine W.region (wl_load_blk (i := 0) (vs := [v0_0, v0_1, (.int .i64 x0.2.2.1), (.int .i64 x0.2.2.2)]) (v := (.agg #[v0_0, v0_1, (.int .i64 x0.2.2.1), (.int .i64 x0.2.2.2)])) tf_53 rfl rfl hS6 rfl rfl rfl ?_)
 obtain ⟨u14, hu14, hF⟩ := bindE hF
 refine wl_call rfl Try.call145 (C_spec_swGood w3 x0 v0_0 (h0_0.ro hB5) v0_1 (h0_1.ro hB5) _ hu14) rfl ?_
 rintro _ w15 ⟨rfl, hb16⟩
 refine ⟨_, rfl, ?_⟩
 have hB17 := hB5.trans (hb16.mono hB5.size)
 have hS18 := hS6.below hb16
 refine wl_move rfl rfl ?_
 rcases bE u14 with h20 | h20
 ·replace hF := ifP h20 hF
  refine wl_on rfl rfl h20 (wl_move rfl rfl (wl_on rfl rfl h20 (wl_field (o := 1) (off' := 1) ff_53_1 rfl rfl rfl (wl_on rfl rfl h20 (wl_load_blk (i := 0) (vs := [v0_1]) (v := v0_1) tf_29 rfl rfl hS18 rfl rfl rfl (wl_on rfl rfl h20 (wl_lenr (e := ty_3) (l := x0.2.1) Try.underlying29 rfl rfl h0_1 (wl_on rfl rfl h20 (wl_sub rfl rfl rfl (wl_on rfl rfl h20 ?_))))))))))
  obtain ⟨u21, hu21, hF⟩ := bindE hF
  refine wl_call rfl Try.call138 (C_spec_l1In w15 x1 0 (w64 ((List.length x0.2.1 : Int) - 1)) _ hu21) rfl ?_
  rintro _ w22 ⟨rfl, hb23⟩
  refine ⟨_, rfl, ?_⟩
  have hB24 := hB17.trans (hb23.mono hB17.size)
  have hS25 := hS18.below hb23
  refine wl_pick_t rfl rfl h20 rfl (wl_assign rfl rfl (WL.nil ?_))
  exact fun a ha => hJ13 (u21) _ hF hB24 (hS25.sel [] rfl) a (ha.sub ⟨rfl, trivial⟩)
 ·replace hF := ifN h20 hF
  refine wl_off rfl rfl rfl h20 (wl_off rfl rfl rfl h20 (wl_off rfl rfl rfl h20 (wl_off rfl rfl rfl h20 (wl_off rfl rfl rfl h20 (wl_off rfl rfl rfl h20 (wl_pick_f rfl rfl h20 rfl (wl_assign rfl rfl (WL.nil ?_))))))))
  exact fun a ha => hJ13 (false) _ hF hB17 (hS18.sel [] rfl) a (ha.sub ⟨rfl, trivial⟩)
theorem C_spec_apStay (w0 : World) (x0 : ((Int × Int) × (Int × Int) × Int)) (x1 : ((Int × Int) × (Int × Int) × Int)) (x2 : Int) (r : Bool) (hF : F_spec_apStay x0 x1 x2 = some r) :
  Calls Try.prog 243 [(.agg #[(.int .i64 x0.1.1), (.int .i64 x0.1.2), (.int .i64 x0.2.1.1), (.int .i64 x0.2.1.2), (.int .i64 x0.2.2)]), (.agg #[(.int .i64 x1.1.1), (.int .i64 x1.1.2), (.int .i64 x1.2.1.1), (.int .i64 x1.2.1.2), (.int .i64 x1.2.2)]), (.int .i64 x2)].toArray w0 fun e w' => e = .returned (.bool r) ∧ Below w0.heap.size w0 w' := by
 refine calls_mk' Try.func243 rfl Try.ntmps243 rfl rfl fun Q hQ hP => ?_
 have hB : Below w0.heap.size w0 w0 := Below.refl _ _
 have hS : Sep w0.heap.size w0 [] := Sep.nil _ _
 unfold F_spec_apStay at hF
 refine W.seq fun K1 hK1 => W.region (wl_box (cs := [(.int .i64 x0.1.1), (.int .i64 x0.1.2), (.int .i64 x0.2.1.1), (.int .i64 x0.2.1.2), (.int .i64 x0.2.2)]) rfl rfl rfl hB hS ?_)
 intro b2 w3 hb4 hB5 hS6
 refine wl_box (cs := [(.int .i64 x1.1.1), (.int .i64 x1.1.2), (.int .i64 x1.2.1.1), (.int .i64 x1.2.1.2), (.int .i64 x1.2.2)]) rfl rfl rfl hB5 hS6 ?_
 intro b7 w8 hb9 hB10 hS11
 refine wl_assign rfl rfl (WL.nil (fun a ha => hK1 _ _ (W.seq fun K12 hK12 => (W.region (wl_load_blk (i := 1) (vs := [(.int .i64 x0.1.1), (.int .i64 x0.1.2), (.int .i64 x0.2.1.1), (.int .i64 x0.2.1.2), (.int .i64 x0.2.2)]) (v := (.agg #[(.int .i64 x0.1.1), (.int .i64 x0.1.2), (.int .i64 x0.2.1.1), (.int .i64 x0.2.1.2), (.int .i64 x0.2.2)])) tf_70 rfl rfl hS11 rfl rfl rfl (wl_load_blk (i := 0) (vs := [(.int .i64 x1.1.1), (.int .i64 x1.1.2), (.int .i64 x1.2.1.1), (.int .i64 x1.2.1.2), (.int .i64 x1.2.2)]) (v := (.agg #[(.int .i64 x1.1.1), (.int .i64 x1.1.2), (.int .i64 x1.2.1.1), (.int .i64 x1.2.1.2), (.int .i64 x1.2.2)])) tf_70 rfl rfl hS11 rfl rfl rfl ?_)))) a ha))
 obtain ⟨u13, hu13, hF⟩ := bindE hF
 refine wl_call rfl Try.call237 (C_spec_apLeast w8 x0 x1 _ hu13) rfl ?_
 rintro _ w14 ⟨rfl, hb15⟩
 refine ⟨_, rfl, ?_⟩
 have hB16 := hB10.trans (hb15.mono hB10.size)
 refine wl_move rfl rfl (wl_extract rfl rfl rfl (wl_extract rfl rfl rfl (wl_assign rfl rfl (wl_assign rfl rfl (WL.nil (fun a ha => hK12 _ _ (W.seq fun K19 hK19 => (W.region (wl_move rfl rfl (wl_move rfl rfl (wl_move rfl rfl (wl_mul rfl rfl rfl (wl_move rfl rfl ?_))))))) a ha))))))
 refine wl_mul rfl rfl rfl (wl_geq rfl rfl rfl (wl_assign rfl rfl (WL.nil (fun a ha => hK19 _ _ (W.ret ?_) a ha))))
 have hr := Option.some.inj hF
 subst hr
 exact rets (vs := [(.bool (decide ((w64 ((w64 (x2 * x2)) * u13.2)) ≤ u13.1)))]) hQ rfl ⟨rv_tmp rfl, trivial⟩ ⟨rfl, hB16⟩
theorem C_spec_swClose (w0 : World) (x0 : ((List (List (Int × Int))) × (List Int) × Int × Int)) (v0_0 : Value) (h0_0 : rdS ty_63 (· < w0.heap.size) w0 v0_0 x0.1) (v0_1 : Value) (h0_1 : rdS ty_3 (· < w0.heap.size) w0 v0_1 x0.2.1) (x1 : Int) (r : (List (List Int))) (hF : F_spec_swClose x0 x1 = some r) :
  Calls Try.prog 180 [(.agg #[v0_0, v0_1, (.int .i64 x0.2.2.1), (.int .i64 x0.2.2.2)]), (.int .i64 x1)].toArray w0 fun e w' => ∃ (q0 : Value) (G0 : List Nat), e = .returned q0 ∧ Below w0.heap.size w0 w' ∧ Sep w0.heap.size w' [R.own ty_29 G0 q0 r] := by
 refine calls_mk' Try.func180 rfl Try.ntmps180 rfl rfl fun Q hQ hP => ?_
 have hB : Below w0.heap.size w0 w0 := Below.refl _ _
 have hS : Sep w0.heap.size w0 [] := Sep.nil _ _
 unfold F_spec_swClose at hF
 refine W.seq fun K1 hK1 => W.region (wl_box (cs := [v0_0, v0_1, (.int .i64 x0.2.2.1), (.int .i64 x0.2.2.2)]) rfl rfl rfl hB hS ?_)
 intro b2 w3 hb4 hB5 hS6
 refine wl_assign rfl rfl (WL.nil (fun a ha => hK1 _ _ (W.seq fun K7 hK7 => (W.region (wl_load_blk (i := 0) (vs := [v0_0, v0_1, (.int .i64 x0.2.2.1), (.int .i64 x0.2.2.2)]) (v := (.agg #[v0_0, v0_1, (.int .i64 x0.2.2.1), (.int .i64 x0.2.2.2)])) tf_53 rfl rfl hS6 rfl rfl rfl (wl_move rfl rfl ?_)))) a ha))
 obtain ⟨u8, hu8, hF⟩ := bindE hF
 refine wl_call rfl Try.call160 (C_spec_swMoves w3 x0 v0_0 (h0_0.ro hB5) v0_1 (h0_1.ro hB5) x1 _ hu8) rfl ?_
 rintro _ w11 ⟨v9, F10, rfl, hb12, hM15⟩
 refine ⟨_, rfl, ?_⟩
 have hB13 := hB5.trans (hb12.mono hB5.size)
 have hS14 := hS6.join hb12 hM15 hB5.size
 refine wl_assign rfl rfl (WL.nil (fun a ha => hK7 _ _ (W.seq fun K16 hK16 => (W.region (wl_assign rfl rfl (WL.nil (fun a ha => hK16 _ _ (W.seq fun K17 hK17 => (W.seq fun K18 hK18 => (W.region (wl_move rfl rfl (wl_lenr (e := ty_70) (l := u8) Try.underlying64 rfl rfl (hS14.own_ro (i := 0) rfl) (wl_move rfl rfl ?_)))))) a ha))))) a ha))
 refine WL.nil fun a ha => hK18 _ _ (W.block (W.loopk (fun m a w19 => ∃ (l22 : (List (List Int))) (y25 : Int) (v23 : Value) (F24 : List Nat), St 45 [(2, (.pointer (some ⟨b2, 0, none⟩))), (5, v9), (6, v23), (13, v9), (14, (.int .i64 (List.length u8 : Int))), (15, (.int .i64 y25))] a ∧ Below w0.heap.size w0 w19 ∧ Sep w0.heap.size w19 [R.blk b2 53 [v0_0, v0_1, (.int .i64 x0.2.2.1), (.int .i64 x0.2.2.2)], R.own ty_70 F10 v9 u8, R.own ty_29 F24 v23 l22] ∧ F_spec_swClose_L1 u8 x0 m l22 y25 = some r) FU ?_ ?_)) a ha
 ·
  have hS27 := hS14.push0 (r := R.own ty_29 [] (.slice none 0 0) []) rfl fun _ => .inl ⟨rfl, rfl, rfl⟩
  exact fun a ha => ⟨[], 0, (.slice none 0 0), [], ha.sub ⟨rfl, rfl, rfl, rfl, rfl, rfl, trivial⟩, hB13, (hS27.sel [2, 1, 0] rfl), hF⟩
 ·
  rintro m29 a w19 ⟨l22, y25, v23, F24, ha, hB20, hS21, hF⟩ KL28 hKL28
  refine W.at ?_ ha
  cases m29 with
  | zero => exact noneE hF
  | succ m29 =>
   obtain ⟨nx26, hnx26⟩ : ∃ k, k = F_spec_swClose_L1 u8 x0 m29 := ⟨_, rfl⟩
   rw [F_spec_swClose_L1, ← hnx26] at hF
   refine W.seq fun K30 hK30 => W.region (wl_lss rfl rfl rfl (WL.nil (fun a ha => hK30 _ _ (W.seq fun K31 hK31 => (W.cond rfl (fun h32 => ?_) (fun h32 => ?_))) a ha)))
   ·replace hF := ifP h32 hF
    refine W.skip fun a ha => hK31 _ _ (W.seq fun K33 hK33 => (W.block (W.seq fun K34 hK34 => (W.region (wl_move rfl rfl ?_))))) a ha
    obtain ⟨u35, hu35, hF⟩ := bindE hF
    refine wl_indexo (e := ty_70) (i := 1) Try.underlying64 rfl rfl rfl hS21 rfl hu35 ?_
    rintro p36 _ rfl hp37 ho38
    refine wl_load_p (vs := [(.int .i64 u35.1.1), (.int .i64 u35.1.2), (.int .i64 u35.2.1.1), (.int .i64 u35.2.1.2), (.int .i64 u35.2.2)]) (v := (.agg #[(.int .i64 u35.1.1), (.int .i64 u35.1.2), (.int .i64 u35.2.1.1), (.int .i64 u35.2.1.2), (.int .i64 u35.2.2)])) tf_70 rfl rfl hp37 rfl rfl (wl_alloc (cs := [(.int .i64 0), (.int .i64 0), (.int .i64 0), (.int .i64 0), (.int .i64 0)]) tf_70 rfl rfl hB20 hS21 ?_)
    intro b39 w40 hb41 hB42 hS43
    refine wl_assign rfl rfl (wl_store_blk (i := 0) (vs := [(.int .i64 u35.1.1), (.int .i64 u35.1.2), (.int .i64 u35.2.1.1), (.int .i64 u35.2.1.2), (.int .i64 u35.2.2)]) (cs' := [(.int .i64 u35.1.1), (.int .i64 u35.1.2), (.int .i64 u35.2.1.1), (.int .i64 u35.2.1.2), (.int .i64 u35.2.2)]) tf_70 rfl rfl rfl rfl hB42 hS43 rfl rfl ⟨rfl, rfl, rfl, rfl, rfl, trivial⟩ rfl ?_)
    intro w44 hk47 hB45 hS46
    refine WL.nil fun a ha => hK34 _ _ (W.seq fun K48 hK48 => (W.region (wl_move rfl rfl (wl_add rfl rfl rfl (wl_assign rfl rfl (WL.nil (fun a ha => hK48 _ _ (W.block (W.loopk (fun m a w49 => ∃ (l52 : (List (List Int))) (y55 : Int) (v53 : Value) (F54 : List Nat), St 45 [(2, (.pointer (some ⟨b2, 0, none⟩))), (5, v9), (6, v53), (7, (.int .i64 y25)), (8, (.pointer (some ⟨b39, 0, none⟩))), (9, (.int .i64 y55)), (13, v9), (14, (.int .i64 (List.length u8 : Int))), (15, (.int .i64 y25))] a ∧ Below w0.heap.size w0 w49 ∧ Sep w0.heap.size w49 [R.blk b2 53 [v0_0, v0_1, (.int .i64 x0.2.2.1), (.int .i64 x0.2.2.2)], R.own ty_70 F10 v9 u8, R.own ty_29 F54 v53 l52, R.blk b39 70 [(.int .i64 u35.1.1), (.int .i64 u35.1.2), (.int .i64 u35.2.1.1), (.int .i64 u35.2.1.2), (.int .i64 u35.2.2)]] ∧ F_spec_swClose_L2 u8 u35 x0 y25 nx26 m l52 y55 = some r) FU ?_ ?_)) a ha))))))) a ha
    ·
     exact fun a ha => ⟨l22, (w64 (y25 + 1)), v23, F24, ha.sub ⟨rfl, rfl, rfl, rfl, rfl, rfl, rfl, rfl, rfl, trivial⟩, hB45, (hS46.sel [1, 2, 3, 0] rfl), hF⟩
    ·
     rintro m58 a w49 ⟨l52, y55, v53, F54, ha, hB50, hS51, hF⟩ KL57 hKL57
     refine W.at ?_ ha
     cases m58 with
     | zero => exact noneE hF
     | succ m58 =>
      obtain ⟨nx56, hnx56⟩ : ∃ k, k = F_spec_swClose_L2 u8 u35 x0 y25 nx26 m58 := ⟨_, rfl⟩
      rw [F_spec_swClose_L2, ← hnx56] at hF
      refine W.seq fun K59 hK59 => W.seq fun K60 hK60 => W.region (wl_move rfl rfl (wl_move rfl rfl (wl_lenr (e := ty_70) (l := u8) Try.underlying64 rfl rfl (hS51.own_ro (i := 1) rfl) (wl_lss rfl rfl rfl (WL.nil (fun a ha => hK60 _ _ (W.cond rfl (fun h61 => ?_) (fun h61 => ?_)) a ha))))))
      ·replace hF := ifP h61 hF
       refine W.skip fun a ha => hK59 _ _ (W.seq fun K62 hK62 => ?_) a ha
       obtain ⟨k69, hk69, hF⟩ := jE1 hF
       have hJ70 : ∀ (l66 : (List (List Int))) (v67 : Value) (F68 : List Nat) (w63 : World) (_ : k69 l66 = some r) (_ : Below w0.heap.size w0 w63) (_ : Sep w0.heap.size w63 [R.blk b2 53 [v0_0, v0_1, (.int .i64 x0.2.2.1), (.int .i64 x0.2.2.2)], R.own ty_70 F10 v9 u8, R.own ty_29 F68 v67 l66, R.blk b39 70 [(.int .i64 u35.1.1), (.int .i64 u35.1.2), (.int .i64 u35.2.1.1), (.int .i64 u35.2.1.2), (.int .i64 u35.2.2)]]), ∀ a, St 45 [(2, (.pointer (some ⟨b2, 0, none⟩))), (5, v9), (6, v67), (7, (.int .i64 y25)), (8, (.pointer (some ⟨b39, 0, none⟩))), (9, (.int .i64 y55)), (13, v9), (14, (.int .i64 (List.length u8 : Int))), (15, (.int .i64 y25))] a → K62 a w63 := by
        intro l66 v67 F68 w63 hF hB64 hS65
        subst hk69
        refine fun a ha => hK62 _ _ (W.region (wl_move rfl rfl (wl_add rfl rfl rfl (wl_assign rfl rfl (WL.nil ?_))))) a ha
        rw [hnx56] at hF
        exact fun a ha => hKL57 a _ m58 (Nat.lt_succ_self m58) ⟨l66, (w64 (y55 + 1)), v67, F68, ha.sub ⟨rfl, rfl, rfl, rfl, rfl, rfl, rfl, rfl, rfl, trivial⟩, hB64, (hS65.sel [0, 1, 2, 3] rfl), hF⟩
       refine W.block (W.seq fun K71 hK71 => (W.regionH mixed_ [] hB50 hS51 ?_))
       intro w72 hb73 hB74 hS75
       have hSW76 := KeepX.refl w72 []
       refine WH.tk 0 rfl hP hSW76 (pr_load_blk (i := 3) (vs := [(.int .i64 u35.1.1), (.int .i64 u35.1.2), (.int .i64 u35.2.1.1), (.int .i64 u35.2.1.2), (.int .i64 u35.2.2)]) (v := (.agg #[(.int .i64 u35.1.1), (.int .i64 u35.1.2), (.int .i64 u35.2.1.1), (.int .i64 u35.2.1.2), (.int .i64 u35.2.2)])) tf_70 rfl rfl hS75 rfl rfl rfl (by simp) (WH.tk 1 rfl hP hSW76 (pr_move rfl rfl (WH.tk 2 rfl hP hSW76 (pr_move rfl rfl ?_)))))
       obtain ⟨u77, hu77, hF⟩ := bindE hF
       refine WH.tk 3 rfl hP hSW76 (pr_indexo (e := ty_70) (i := 1) Try.underlying64 rfl rfl rfl hS75 rfl hu77 ?_)
       rintro p78 _ rfl hp79 ho80
       refine WH.tk 4 rfl hP hSW76 (pr_load_p (vs := [(.int .i64 u77.1.1), (.int .i64 u77.1.2), (.int .i64 u77.2.1.1), (.int .i64 u77.2.1.2), (.int .i64 u77.2.2)]) (v := (.agg #[(.int .i64 u77.1.1), (.int .i64 u77.1.2), (.int .i64 u77.2.1.1), (.int .i64 u77.2.1.2), (.int .i64 u77.2.2)])) tf_70 rfl rfl (hp79.kx0) rfl rfl (WH.tk 5 rfl hP hSW76 (pr_field (o := 2) (off' := 2) ff_53_2 rfl rfl rfl (WH.tk 6 rfl hP hSW76 (pr_load_blk (i := 0) (vs := [(.int .i64 x0.2.2.1)]) (v := (.int .i64 x0.2.2.1)) tf_3 rfl rfl hS75 rfl rfl rfl (by simp) (WH.on1 7 rfl ?_))))))
       obtain ⟨u81, hu81, hF⟩ := bindE hF
       refine wl_call rfl Try.call243 (C_spec_apStay w72 u35 u77 x0.2.2.1 _ hu81) rfl ?_
       rintro _ w82 ⟨rfl, hb83⟩
       refine ⟨_, rfl, ?_⟩
       have hB84 := hB74.trans (hb83.mono hB74.size)
       have hS85 := hS75.below hb83
       have hSW87 := hSW76.ext hb83
       refine WL.nil (WH.ret hSW87 (WH.tk 8 rfl hP hSW87 (pr_not rfl rfl (WH.done (by kernel_rfl) (fun a ha => hK71 _ _ (W.cond rfl (fun h88 => ?_) (fun h88 => ?_)) a ha)))))
       ·replace hF := ifP h88 hF
        refine W.region (wl_move rfl rfl (wl_move rfl rfl (wl_move rfl rfl (wl_lit (vs := [(.int .i64 y25), (.int .i64 y55)]) (l := [y25, y55]) fl_3 Try.underlying29 rfl rfl rfl rfl rfl rfl hB84 hS85 ?_))))
        intro v89 F90 w91 hb92 hB93 hS94
        have hq95 := hS94.sel [0, 1, 2, 3, 4] rfl
        have hq96 := hq95.head (r' := R.cel ty_29 F90 [v89] [y25, y55]) (rfl) fun _ h0 => ⟨_, rfl, h0⟩
        refine wl_lit1 (e := ty_29) (vs := [v89]) Try.underlying72 rfl rfl (cells_one (hS94.own_ro (i := 0) rfl).one) rfl hB93 hq96 ?_
        intro v97 F98 w99 hb100 hf101 hB102 hS103
        obtain ⟨u104, hu104, hF⟩ := bindE hF
        refine wl_appendn (e := ty_29) Try.underlying72 rfl rfl rfl hB102 (hS103.sel [3, 0, 1, 2, 4] rfl) hu104 ?_
        intro v105 F106 w107 hk108 hB109 hS110
        refine wl_assign rfl rfl (WL.nil ?_)
        exact fun a ha => hJ70 (u104) (v105) (F106) _ hF hB109 (hS110.sel [1, 2, 0, 3] rfl) a (ha.sub ⟨rfl, rfl, rfl, rfl, rfl, rfl, rfl, rfl, rfl, trivial⟩)
       ·replace hF := ifN h88 hF
        refine W.skip ?_
        exact fun a ha => hJ70 (l52) (v53) (F54) _ hF hB84 (hS85.sel [0, 1, 2, 3] rfl) a (ha.sub ⟨rfl, rfl, rfl, rfl, rfl, rfl, rfl, rfl, rfl, trivial⟩)
      ·replace hF := ifN h61 hF
       refine W.exit fun a ha => hK33 _ _ (W.region (wl_add rfl rfl rfl (wl_move rfl rfl (WL.nil ?_)))) a ha
       rw [hnx26] at hF
       exact fun a ha => hKL28 a _ m29 (Nat.lt_succ_self m29) ⟨l52, (w64 (y25 + 1)), v53, F54, ha.sub ⟨rfl, rfl, rfl, rfl, rfl, rfl, trivial⟩, hB50, (hS51.sel [0, 1, 2] rfl), hF⟩
   ·replace hF := ifN h32 hF
    refine W.exit fun a ha => hK17 _ _ (W.seq fun K111 hK111 => (W.region (wl_move rfl rfl (wl_assign rfl rfl (WL.nil (fun a ha => hK111 _ _ (W.ret ?_) a ha)))))) a ha
    have hr := Option.some.inj hF
    subst hr
    exact rets (vs := [v23]) hQ rfl ⟨rv_tmp rfl, trivial⟩ ⟨v23, F24, rfl, hB20, hS21.sel [2] rfl⟩
theorem C_spec_ClosePairs (w0 : World) (x0 : ((List (List (Int × Int))) × (List Int) × Int × Int)) (v0_0 : Value) (h0_0 : rdS ty_63 (· < w0.heap.size) w0 v0_0 x0.1) (v0_1 : Value) (h0_1 : rdS ty_3 (· < w0.heap.size) w0 v0_1 x0.2.1) (x1 : Int) (r : ((List (List Int)) × Bool)) (hF : F_spec_ClosePairs x0 x1 = some r) :
  Calls Try.prog 67 [(.agg #[v0_0, v0_1, (.int .i64 x0.2.2.1), (.int .i64 x0.2.2.2)]), (.int .i64 x1)].toArray w0 fun e w' => ∃ (q0 : Value) (G0 : List Nat), e = .returned (.tuple #[q0, (.bool r.2)]) ∧ Below w0.heap.size w0 w' ∧ Sep w0.heap.size w' [R.own ty_29 G0 q0 r.1] := by
 refine calls_mk' Try.func67 rfl Try.ntmps67 rfl rfl fun Q hQ hP => ?_
 have hB : Below w0.heap.size w0 w0 := Below.refl _ _
 have hS : Sep w0.heap.size w0 [] := Sep.nil _ _
 unfold F_spec_ClosePairs at hF
 refine W.seq fun K1 hK1 => W.region (wl_box (cs := [v0_0, v0_1, (.int .i64 x0.2.2.1), (.int .i64 x0.2.2.2)]) rfl rfl rfl hB hS ?_)
 intro b2 w3 hb4 hB5 hS6
 refine wl_assign rfl rfl (wl_assign rfl rfl (WL.nil (fun a ha => hK1 _ _ (W.seq fun K7 hK7 => (W.seq fun K8 hK8 => (W.region (wl_load_blk (i := 0) (vs := [v0_0, v0_1, (.int .i64 x0.2.2.1), (.int .i64 x0.2.2.2)]) (v := (.agg #[v0_0, v0_1, (.int .i64 x0.2.2.1), (.int .i64 x0.2.2.2)])) tf_53 rfl rfl hS6 rfl rfl rfl (wl_move rfl rfl ?_))))) a ha)))
 obtain ⟨u9, hu9, hF⟩ := bindE hF
 refine wl_call rfl Try.call179 (C_spec_swHas w3 x0 v0_0 (h0_0.ro hB5) v0_1 (h0_1.ro hB5) x1 _ hu9) rfl ?_
 rintro _ w10 ⟨rfl, hb11⟩
 refine ⟨_, rfl, ?_⟩
 have hB12 := hB5.trans (hb11.mono hB5.size)
 have hS13 := hS6.below hb11
 refine wl_not rfl rfl (WL.nil (fun a ha => hK8 _ _ (W.cond rfl (fun h15 => ?_) (fun h15 => ?_)) a ha))
 ·replace hF := ifP h15 hF
  refine W.seq fun K16 hK16 => W.region (wl_assign rfl rfl (wl_assign rfl rfl (WL.nil (fun a ha => hK16 _ _ (W.ret ?_) a ha))))
  have hS17 := hS13.push0 (r := R.own ty_29 [] (.slice none 0 0) []) rfl fun _ => .inl ⟨rfl, rfl, rfl⟩
  have hr := Option.some.inj hF
  subst hr
  exact rets (vs := [(.slice none 0 0), (.bool false)]) hQ rfl ⟨rv_tmp rfl, rv_tmp rfl, trivial⟩ ⟨(.slice none 0 0), [], rfl, hB12, hS17.sel [0] rfl⟩
 ·replace hF := ifN h15 hF
  refine W.skip fun a ha => hK7 _ _ (W.seq fun K18 hK18 => (W.region (wl_load_blk (i := 0) (vs := [v0_0, v0_1, (.int .i64 x0.2.2.1), (.int .i64 x0.2.2.2)]) (v := (.agg #[v0_0, v0_1, (.int .i64 x0.2.2.1), (.int .i64 x0.2.2.2)])) tf_53 rfl rfl hS13 rfl rfl rfl (wl_move rfl rfl ?_)))) a ha
  obtain ⟨u19, hu19, hF⟩ := bindE hF
  refine wl_call rfl Try.call180 (C_spec_swClose w10 x0 v0_0 (h0_0.ro hB12) v0_1 (h0_1.ro hB12) x1 _ hu19) rfl ?_
  rintro _ w22 ⟨v20, F21, rfl, hb23, hM26⟩
  refine ⟨_, rfl, ?_⟩
  have hB24 := hB12.trans (hb23.mono hB12.size)
  have hS25 := hS13.join hb23 hM26 hB12.size
  refine wl_assign rfl rfl (wl_assign rfl rfl (WL.nil (fun a ha => hK18 _ _ (W.ret ?_) a ha)))
  have hr := Option.some.inj hF
  subst hr
  exact rets (vs := [v20, (.bool true)]) hQ rfl ⟨rv_tmp rfl, rv_tmp rfl, trivial⟩ ⟨v20, F21, rfl, hB24, hS25.sel [0] rfl⟩
theorem C_laws_sameLists (w0 : World) (x0 : (List (List Int))) (v0_0 : Value) (h0_0 : rdS ty_29 (· < w0.heap.size) w0 v0_0 x0) (x1 : (List (List Int))) (v1_0 : Value) (h1_0 : rdS ty_29 (· < w0.heap.size) w0 v1_0 x1) (r : Bool) (hF : F_laws_sameLists x0 x1 = some r) :
  Calls Try.prog 68 [v0_0, v1_0].toArray w0 fun e w' => e = .returned (.bool r) ∧ Below w0.heap.size w0 w' := by
 refine calls_mk' Try.func68 rfl Try.ntmps68 rfl rfl fun Q hQ hP => ?_
 have hB : Below w0.heap.size w0 w0 := Below.refl _ _
 have hS : Sep w0.heap.size w0 [] := Sep.nil _ _
 unfold F_laws_sameLists at hF
 refine W.seq fun K1 hK1 => W.region (wl_assign rfl rfl (WL.nil (fun a ha => hK1 _ _ (W.seq fun K2 hK2 => (W.seq fun K3 hK3 => (W.region (wl_move rfl rfl (wl_lenr (e := ty_29) (l := x0) Try.underlying72 rfl rfl h0_0 (wl_move rfl rfl (wl_lenr (e := ty_29) (l := x1) Try.underlying72 rfl rfl h1_0 (wl_neq rfl rfl rfl (WL.nil ?_))))))))) a ha)))
 refine fun a ha => hK3 _ _ (W.cond rfl (fun h4 => ?_) (fun h4 => ?_)) a ha
 ·replace hF := ifP h4 hF
  refine W.seq fun K5 hK5 => W.region (wl_assign rfl rfl (WL.nil (fun a ha => hK5 _ _ (W.ret ?_) a ha)))
  have hr := Option.some.inj hF
  subst hr
  exact rets (vs := [(.bool false)]) hQ rfl ⟨rv_tmp rfl, trivial⟩ ⟨rfl, hB⟩
 ·replace hF := ifN h4 hF
  refine W.skip fun a ha => hK2 _ _ (W.seq fun K6 hK6 => (W.seq fun K7 hK7 => (W.region (wl_move rfl rfl (wl_lenr (e := ty_29) (l := x0) Try.underlying72 rfl rfl h0_0 (wl_move rfl rfl (WL.nil (fun a ha => hK7 _ _ (W.block (W.loopk (fun m a w8 => ∃ (y11 : Int), St 27 [(0, v0_0), (1, v1_0), (12, (.int .i64 (List.length x0 : Int))), (13, (.int .i64 y11))] a ∧ Below w0.heap.size w0 w8 ∧ Sep w0.heap.size w8 [] ∧ F_laws_sameLists_L1 x0 x1 m y11 = some r) FU ?_ ?_)) a ha)))))))) a ha
  ·
   exact fun a ha => ⟨0, ha.sub ⟨rfl, rfl, rfl, rfl, trivial⟩, hB, (hS.sel [] rfl), hF⟩
  ·
   rintro m14 a w8 ⟨y11, ha, hB9, hS10, hF⟩ KL13 hKL13
   refine W.at ?_ ha
   cases m14 with
   | zero => exact noneE hF
   | succ m14 =>
    obtain ⟨nx12, hnx12⟩ : ∃ k, k = F_laws_sameLists_L1 x0 x1 m14 := ⟨_, rfl⟩
    rw [F_laws_sameLists_L1, ← hnx12] at hF
    refine W.seq fun K15 hK15 => W.region (wl_lss rfl rfl rfl (WL.nil (fun a ha => hK15 _ _ (W.seq fun K16 hK16 => (W.cond rfl (fun h17 => ?_) (fun h17 => ?_))) a ha)))
    ·replace hF := ifP h17 hF
     refine W.skip fun a ha => hK16 _ _ (W.seq fun K18 hK18 => (W.block (W.seq fun K19 hK19 => (W.region (wl_move rfl rfl (wl_assign rfl rfl (WL.nil (fun a ha => hK19 _ _ (W.seq fun K20 hK20 => (W.regionH mixed_ [] hB9 hS10 ?_)) a ha)))))))) a ha
     intro w21 hb22 hB23 hS24
     have hSW25 := KeepX.refl w21 []
     refine WH.tk 0 rfl hP hSW25 (pr_move rfl rfl (WH.tk 1 rfl hP hSW25 (pr_move rfl rfl ?_)))
     obtain ⟨u26, hu26, hF⟩ := bindE hF
     refine WH.tk 2 rfl hP hSW25 (pr_index (e := ty_29) Try.underlying72 rfl rfl rfl h0_0 hu26 ?_)
     rintro p27 _ ⟨v29, rfl, hv30⟩ hp28
     refine WH.tk 3 rfl hP hSW25 (pr_load_p (vs := [v29]) (v := v29) tf_29 rfl rfl (hp28.kx hB23 (by simp)) rfl rfl (WH.tk 4 rfl hP hSW25 (pr_move rfl rfl (WH.tk 5 rfl hP hSW25 (pr_move rfl rfl ?_)))))
     obtain ⟨u31, hu31, hF⟩ := bindE hF
     refine WH.tk 6 rfl hP hSW25 (pr_index (e := ty_29) Try.underlying72 rfl rfl rfl h1_0 hu31 ?_)
     rintro p32 _ ⟨v34, rfl, hv35⟩ hp33
     refine WH.tk 7 rfl hP hSW25 (pr_load_p (vs := [v34]) (v := v34) tf_29 rfl rfl (hp33.kx hB23 (by simp)) rfl rfl (WH.on1 8 rfl ?_))
     obtain ⟨u36, hu36, hF⟩ := bindE hF
     refine wl_call rfl Try.call71 (C_laws_sameInts w21 u26 v29 (hv30.ro hB23) u31 v34 (hv35.ro hB23) _ hu36) rfl ?_
     rintro _ w37 ⟨rfl, hb38⟩
     refine ⟨_, rfl, ?_⟩
     have hB39 := hB23.trans (hb38.mono hB23.size)
     have hS40 := hS24.below hb38
     have hSW42 := hSW25.ext hb38
     refine WL.nil (WH.ret hSW42 (WH.tk 9 rfl hP hSW42 (pr_not rfl rfl (WH.done (by kernel_rfl) (fun a ha => hK20 _ _ (W.cond rfl (fun h43 => ?_) (fun h43 => ?_)) a ha)))))
     ·replace hF := ifP h43 hF
      refine W.seq fun K44 hK44 => W.region (wl_assign rfl rfl (WL.nil (fun a ha => hK44 _ _ (W.ret ?_) a ha)))
      have hr := Option.some.inj hF
      subst hr
      exact rets (vs := [(.bool false)]) hQ rfl ⟨rv_tmp rfl, trivial⟩ ⟨rfl, hB39⟩
     ·replace hF := ifN h43 hF
      refine W.skip fun a ha => hK18 _ _ (W.region (wl_add rfl rfl rfl (wl_move rfl rfl (WL.nil ?_)))) a ha
      rw [hnx12] at hF
      exact fun a ha => hKL13 a _ m14 (Nat.lt_succ_self m14) ⟨(w64 (y11 + 1)), ha.sub ⟨rfl, rfl, rfl, rfl, trivial⟩, hB39, (hS40.sel [] rfl), hF⟩
    ·replace hF := ifN h17 hF
     refine W.exit fun a ha => hK6 _ _ (W.seq fun K45 hK45 => (W.region (wl_assign rfl rfl (WL.nil (fun a ha => hK45 _ _ (W.ret ?_) a ha))))) a ha
     have hr := Option.some.inj hF
     subst hr
     exact rets (vs := [(.bool true)]) hQ rfl ⟨rv_tmp rfl, trivial⟩ ⟨rfl, hB9⟩
theorem C_impl_withinStep (w0 : World) (x0 : ((Int × Int) × (Int × Int) × Int)) (x1 : Int) (r : Bool) (hF : F_impl_withinStep x0 x1 = some r) :
  Calls Try.prog 244 [(.agg #[(.int .i64 x0.1.1), (.int .i64 x0.1.2), (.int .i64 x0.2.1.1), (.int .i64 x0.2.1.2), (.int .i64 x0.2.2)]), (.int .i64 x1)].toArray w0 fun e w' => e = .returned (.bool r) ∧ Below w0.heap.size w0 w' := by
 refine calls_mk' Try.func244 rfl Try.ntmps244 rfl rfl fun Q hQ hP => ?_
 have hB : Below w0.heap.size w0 w0 := Below.refl _ _
 have hS : Sep w0.heap.size w0 [] := Sep.nil _ _
 unfold F_impl_withinStep at hF
 refine W.seq fun K1 hK1 => W.region (wl_box (cs := [(.int .i64 x0.1.1), (.int .i64 x0.1.2), (.int .i64 x0.2.1.1), (.int .i64 x0.2.1.2), (.int .i64 x0.2.2)]) rfl rfl rfl hB hS ?_)
 intro b2 w3 hb4 hB5 hS6
 refine wl_assign rfl rfl (WL.nil (fun a ha => hK1 _ _ (W.seq fun K7 hK7 => (W.regionH mixed_ [] hB5 hS6 ?_)) a ha))
 intro w8 hb9 hB10 hS11
 have hSW12 := KeepX.refl w8 []
 refine WH.tk 0 rfl hP hSW12 (pr_field (o := 0) (off' := 0) ff_70_0 rfl rfl rfl (WH.tk 1 rfl hP hSW12 (pr_load_blk (i := 0) (vs := [(.int .i64 x0.1.1), (.int .i64 x0.1.2)]) (v := (.agg #[(.int .i64 x0.1.1), (.int .i64 x0.1.2)])) tf_68 rfl rfl hS11 rfl rfl rfl (by simp) (WH.tk 2 rfl hP hSW12 (pr_field (o := 2) (off' := 2) ff_70_1 rfl rfl rfl (WH.tk 3 rfl hP hSW12 (pr_load_blk (i := 0) (vs := [(.int .i64 x0.2.1.1), (.int .i64 x0.2.1.2)]) (v := (.agg #[(.int .i64 x0.2.1.1), (.int .i64 x0.2.1.2)])) tf_68 rfl rfl hS11 rfl rfl rfl (by simp) (WH.tk 5 rfl hP hSW12 (pr_move rfl rfl (WH.tk 6 rfl hP hSW12 (pr_move rfl rfl (WH.tk 7 rfl hP hSW12 (pr_mul rfl rfl rfl ?_)))))))))))))
 refine WH.tk 8 rfl hP hSW12 (pr_field (o := 4) (off' := 4) ff_70_2 rfl rfl rfl (WH.tk 9 rfl hP hSW12 (pr_load_blk (i := 0) (vs := [(.int .i64 x0.2.2)]) (v := (.int .i64 x0.2.2)) tf_3 rfl rfl hS11 rfl rfl rfl (by simp) (WH.tk 10 rfl hP hSW12 (pr_mul rfl rfl rfl (WH.tk 11 rfl hP hSW12 (pr_field (o := 4) (off' := 4) ff_70_2 rfl rfl rfl (WH.tk 12 rfl hP hSW12 (pr_load_blk (i := 0) (vs := [(.int .i64 x0.2.2)]) (v := (.int .i64 x0.2.2)) tf_3 rfl rfl hS11 rfl rfl rfl (by simp) (WH.tk 13 rfl hP hSW12 (pr_mul rfl rfl rfl (WH.on1 4 rfl ?_))))))))))))
 obtain ⟨u13, hu13, hF⟩ := bindE hF
 refine wl_call rfl Try.call153 (C_impl_squareOf w8 x0.1 x0.2.1 _ hu13) rfl ?_
 rintro _ w14 ⟨rfl, hb15⟩
 refine ⟨_, rfl, ?_⟩
 have hB16 := hB10.trans (hb15.mono hB10.size)
 have hSW19 := hSW12.ext hb15
 refine WL.nil (WH.ret hSW19 (WH.tk 14 rfl hP hSW19 (pr_leq rfl rfl rfl (WH.tk 15 rfl hP hSW19 (pr_assign rfl rfl (WH.done (by kernel_rfl) (fun a ha => hK7 _ _ (W.ret ?_) a ha)))))))
 have hr := Option.some.inj hF
 subst hr
 exact rets (vs := [(.bool (decide (u13 ≤ (w64 ((w64 ((w64 (x1 * x1)) * x0.2.2)) * x0.2.2)))))]) hQ rfl ⟨rv_tmp rfl, trivial⟩ ⟨rfl, hB16⟩
theorem C_impl_wideSteps (w0 : World) (x0 : ((List (List (Int × Int))) × (List Int) × Int × Int)) (v0_0 : Value) (h0_0 : rdS ty_63 (· < w0.heap.size) w0 v0_0 x0.1) (v0_1 : Value) (h0_1 : rdS ty_3 (· < w0.heap.size) w0 v0_1 x0.2.1) (x1 : Int) (r : (List Int)) (hF : F_impl_wideSteps x0 x1 = some r) :
  Calls Try.prog 181 [(.agg #[v0_0, v0_1, (.int .i64 x0.2.2.1), (.int .i64 x0.2.2.2)]), (.int .i64 x1)].toArray w0 fun e w' => ∃ (q0 : Value) (G0 : List Nat), e = .returned q0 ∧ Below w0.heap.size w0 w' ∧ Sep w0.heap.size w' [R.own ty_3 G0 q0 r] := by
 refine calls_mk' Try.func181 rfl Try.ntmps181 rfl rfl fun Q hQ hP => ?_
 have hB : Below w0.heap.size w0 w0 := Below.refl _ _
 have hS : Sep w0.heap.size w0 [] := Sep.nil _ _
 unfold F_impl_wideSteps at hF
 refine W.seq fun K1 hK1 => W.region (wl_box (cs := [v0_0, v0_1, (.int .i64 x0.2.2.1), (.int .i64 x0.2.2.2)]) rfl rfl rfl hB hS ?_)
 intro b2 w3 hb4 hB5 hS6
 refine wl_assign rfl rfl (WL.nil (fun a ha => hK1 _ _ (W.seq fun K7 hK7 => (W.region (wl_lit (vs := []) (l := []) fl_3 Try.underlying29 rfl rfl rfl rfl rfl rfl hB5 hS6 ?_))) a ha))
 intro v8 F9 w10 hb11 hB12 hS13
 refine wl_assign rfl rfl (WL.nil (fun a ha => hK7 _ _ (W.seq fun K14 hK14 => (W.seq fun K15 hK15 => (W.region (wl_load_blk (i := 1) (vs := [v0_0, v0_1, (.int .i64 x0.2.2.1), (.int .i64 x0.2.2.2)]) (v := (.agg #[v0_0, v0_1, (.int .i64 x0.2.2.1), (.int .i64 x0.2.2.2)])) tf_53 rfl rfl hS13 rfl rfl rfl (wl_move rfl rfl ?_))))) a ha))
 obtain ⟨u16, hu16, hF⟩ := bindE hF
 refine wl_call rfl Try.call152 (C_impl_showMoves w10 x0 v0_0 (h0_0.ro hB12) v0_1 (h0_1.ro hB12) x1 _ hu16) rfl ?_
 rintro _ w19 ⟨v17, F18, rfl, hb20, hM23⟩
 refine ⟨_, rfl, ?_⟩
 have hB21 := hB12.trans (hb20.mono hB12.size)
 have hS22 := hS13.join hb20 hM23 hB12.size
 refine wl_lenr (e := ty_70) (l := u16) Try.underlying64 rfl rfl (hS22.own_ro (i := 0) rfl) (wl_move rfl rfl (WL.nil (fun a ha => hK15 _ _ (W.block (W.loopk (fun m a w24 => ∃ (l27 : (List Int)) (y30 : Int) (v28 : Value) (F29 : List Nat), St 29 [(2, (.pointer (some ⟨b2, 0, none⟩))), (5, v28), (11, v17), (12, (.int .i64 (List.length u16 : Int))), (13, (.int .i64 y30))] a ∧ Below w0.heap.size w0 w24 ∧ Sep w0.heap.size w24 [R.blk b2 53 [v0_0, v0_1, (.int .i64 x0.2.2.1), (.int .i64 x0.2.2.2)], R.own ty_3 F29 v28 l27, R.own ty_70 F18 v17 u16] ∧ F_impl_wideSteps_L1 u16 x0 m l27 y30 = some r) FU ?_ ?_)) a ha)))
 ·
  exact fun a ha => ⟨[], 0, v8, F9, ha.sub ⟨rfl, rfl, rfl, rfl, rfl, trivial⟩, hB21, (hS22.sel [2, 1, 0] rfl), hF⟩
 ·
  rintro m33 a w24 ⟨l27, y30, v28, F29, ha, hB25, hS26, hF⟩ KL32 hKL32
  refine W.at ?_ ha
  cases m33 with
  | zero => exact noneE hF
  | succ m33 =>
   obtain ⟨nx31, hnx31⟩ : ∃ k, k = F_impl_wideSteps_L1 u16 x0 m33 := ⟨_, rfl⟩
   rw [F_impl_wideSteps_L1, ← hnx31] at hF
   refine W.seq fun K34 hK34 => W.region (wl_lss rfl rfl rfl (WL.nil (fun a ha => hK34 _ _ (W.seq fun K35 hK35 => (W.cond rfl (fun h36 => ?_) (fun h36 => ?_))) a ha)))
   ·replace hF := ifP h36 hF
    refine W.skip fun a ha => hK35 _ _ (W.seq fun K37 hK37 => ?_) a ha
    obtain ⟨k44, hk44, hF⟩ := jE1 hF
    have hJ45 : ∀ (l41 : (List Int)) (v42 : Value) (F43 : List Nat) (w38 : World) (_ : k44 l41 = some r) (_ : Below w0.heap.size w0 w38) (_ : Sep w0.heap.size w38 [R.blk b2 53 [v0_0, v0_1, (.int .i64 x0.2.2.1), (.int .i64 x0.2.2.2)], R.own ty_3 F43 v42 l41, R.own ty_70 F18 v17 u16]), ∀ a, St 29 [(2, (.pointer (some ⟨b2, 0, none⟩))), (5, v42), (11, v17), (12, (.int .i64 (List.length u16 : Int))), (13, (.int .i64 y30))] a → K37 a w38 := by
     intro l41 v42 F43 w38 hF hB39 hS40
     subst hk44
     refine fun a ha => hK37 _ _ (W.region (wl_add rfl rfl rfl (wl_move rfl rfl (WL.nil ?_)))) a ha
     rw [hnx31] at hF
     exact fun a ha => hKL32 a _ m33 (Nat.lt_succ_self m33) ⟨l41, (w64 (y30 + 1)), v42, F43, ha.sub ⟨rfl, rfl, rfl, rfl, rfl, trivial⟩, hB39, (hS40.sel [0, 1, 2] rfl), hF⟩
    refine W.block (W.seq fun K46 hK46 => (W.region (wl_move rfl rfl ?_)))
    obtain ⟨u47, hu47, hF⟩ := bindE hF
    refine wl_indexo (e := ty_70) (i := 2) Try.underlying64 rfl rfl rfl hS26 rfl hu47 ?_
    rintro p48 _ rfl hp49 ho50
    refine wl_load_p (vs := [(.int .i64 u47.1.1), (.int .i64 u47.1.2), (.int .i64 u47.2.1.1), (.int .i64 u47.2.1.2), (.int .i64 u47.2.2)]) (v := (.agg #[(.int .i64 u47.1.1), (.int .i64 u47.1.2), (.int .i64 u47.2.1.1), (.int .i64 u47.2.1.2), (.int .i64 u47.2.2)])) tf_70 rfl rfl hp49 rfl rfl (wl_alloc (cs := [(.int .i64 0), (.int .i64 0), (.int .i64 0), (.int .i64 0), (.int .i64 0)]) tf_70 rfl rfl hB25 hS26 ?_)
    intro b51 w52 hb53 hB54 hS55
    refine wl_assign rfl rfl (wl_store_blk (i := 0) (vs := [(.int .i64 u47.1.1), (.int .i64 u47.1.2), (.int .i64 u47.2.1.1), (.int .i64 u47.2.1.2), (.int .i64 u47.2.2)]) (cs' := [(.int .i64 u47.1.1), (.int .i64 u47.1.2), (.int .i64 u47.2.1.1), (.int .i64 u47.2.1.2), (.int .i64 u47.2.2)]) tf_70 rfl rfl rfl rfl hB54 hS55 rfl rfl ⟨rfl, rfl, rfl, rfl, rfl, trivial⟩ rfl ?_)
    intro w56 hk59 hB57 hS58
    refine WL.nil fun a ha => hK46 _ _ (W.seq fun K60 hK60 => (W.region (wl_load_blk (i := 0) (vs := [(.int .i64 u47.1.1), (.int .i64 u47.1.2), (.int .i64 u47.2.1.1), (.int .i64 u47.2.1.2), (.int .i64 u47.2.2)]) (v := (.agg #[(.int .i64 u47.1.1), (.int .i64 u47.1.2), (.int .i64 u47.2.1.1), (.int .i64 u47.2.1.2), (.int .i64 u47.2.2)])) tf_70 rfl rfl hS58 rfl rfl rfl (wl_field (o := 3) (off' := 3) ff_53_3 rfl rfl rfl (wl_load_blk (i := 1) (vs := [(.int .i64 x0.2.2.2)]) (v := (.int .i64 x0.2.2.2)) tf_3 rfl rfl hS58 rfl rfl rfl ?_))))) a ha
    obtain ⟨u61, hu61, hF⟩ := bindE hF
    refine wl_call rfl Try.call244 (C_impl_withinStep w56 u47 x0.2.2.2 _ hu61) rfl ?_
    rintro _ w62 ⟨rfl, hb63⟩
    refine ⟨_, rfl, ?_⟩
    have hB64 := hB57.trans (hb63.mono hB57.size)
    have hS65 := hS58.below hb63
    refine wl_not rfl rfl (WL.nil (fun a ha => hK60 _ _ (W.cond rfl (fun h67 => ?_) (fun h67 => ?_)) a ha))
    ·replace hF := ifP h67 hF
     refine W.region (wl_move rfl rfl (wl_move rfl rfl (wl_lit (vs := [(.int .i64 y30)]) (l := [y30]) fl_3 Try.underlying29 rfl rfl rfl rfl rfl rfl hB64 hS65 ?_)))
     intro v68 F69 w70 hb71 hB72 hS73
     obtain ⟨u74, hu74, hF⟩ := bindE hF
     refine wl_append (i := 3) (S := (· < w70.heap.size)) fl_3 Try.underlying29 rfl rfl rfl hB72 hS73 rfl (hS73.own_ro (i := 0) rfl) hu74 ?_
     intro v75 F76 w77 hk78 hB79 hS80
     refine wl_assign rfl rfl (WL.nil ?_)
     exact fun a ha => hJ45 (u74) (v75) (F76) _ hF hB79 (hS80.sel [2, 3, 4] rfl) a (ha.sub ⟨rfl, rfl, rfl, rfl, rfl, trivial⟩)
    ·replace hF := ifN h67 hF
     refine W.skip ?_
     exact fun a ha => hJ45 (l27) (v28) (F29) _ hF hB64 (hS65.sel [1, 2, 3] rfl) a (ha.sub ⟨rfl, rfl, rfl, rfl, rfl, trivial⟩)
   ·replace hF := ifN h36 hF
    refine W.exit fun a ha => hK14 _ _ (W.seq fun K81 hK81 => (W.region (wl_move rfl rfl (wl_assign rfl rfl (WL.nil (fun a ha => hK81 _ _ (W.ret ?_) a ha)))))) a ha
    have hr := Option.some.inj hF
    subst hr
    exact rets (vs := [v28]) hQ rfl ⟨rv_tmp rfl, trivial⟩ ⟨v28, F29, rfl, hB25, hS26.sel [1] rfl⟩
theorem C_impl_WideSteps (w0 : World) (x0 : ((List (List (Int × Int))) × (List Int) × Int × Int)) (v0_0 : Value) (h0_0 : rdS ty_63 (· < w0.heap.size) w0 v0_0 x0.1) (v0_1 : Value) (h0_1 : rdS ty_3 (· < w0.heap.size) w0 v0_1 x0.2.1) (x1 : Int) (r : ((List Int) × Bool)) (hF : F_impl_WideSteps x0 x1 = some r) :
  Calls Try.prog 69 [(.agg #[v0_0, v0_1, (.int .i64 x0.2.2.1), (.int .i64 x0.2.2.2)]), (.int .i64 x1)].toArray w0 fun e w' => ∃ (q0 : Value) (G0 : List Nat), e = .returned (.tuple #[q0, (.bool r.2)]) ∧ Below w0.heap.size w0 w' ∧ Sep w0.heap.size w' [R.own ty_3 G0 q0 r.1] := by
 refine calls_mk' Try.func69 rfl Try.ntmps69 rfl rfl fun Q hQ hP => ?_
 have hB : Below w0.heap.size w0 w0 := Below.refl _ _
 have hS : Sep w0.heap.size w0 [] := Sep.nil _ _
 unfold F_impl_WideSteps at hF
 refine W.seq fun K1 hK1 => W.region (wl_box (cs := [v0_0, v0_1, (.int .i64 x0.2.2.1), (.int .i64 x0.2.2.2)]) rfl rfl rfl hB hS ?_)
 intro b2 w3 hb4 hB5 hS6
 refine wl_assign rfl rfl (wl_assign rfl rfl (WL.nil (fun a ha => hK1 _ _ (W.seq fun K7 hK7 => (W.seq fun K8 hK8 => (W.region (wl_load_blk (i := 0) (vs := [v0_0, v0_1, (.int .i64 x0.2.2.1), (.int .i64 x0.2.2.2)]) (v := (.agg #[v0_0, v0_1, (.int .i64 x0.2.2.1), (.int .i64 x0.2.2.2)])) tf_53 rfl rfl hS6 rfl rfl rfl (wl_move rfl rfl ?_))))) a ha)))
 obtain ⟨u9, hu9, hF⟩ := bindE hF
 refine wl_call rfl Try.call163 (C_impl_isPart w3 x0 v0_0 (h0_0.ro hB5) v0_1 (h0_1.ro hB5) x1 _ hu9) rfl ?_
 rintro _ w10 ⟨rfl, hb11⟩
 refine ⟨_, rfl, ?_⟩
 have hB12 := hB5.trans (hb11.mono hB5.size)
 have hS13 := hS6.below hb11
 refine wl_not rfl rfl (WL.nil (fun a ha => hK8 _ _ (W.cond rfl (fun h15 => ?_) (fun h15 => ?_)) a ha))
 ·replace hF := ifP h15 hF
  refine W.seq fun K16 hK16 => W.region (wl_assign rfl rfl (wl_assign rfl rfl (WL.nil (fun a ha => hK16 _ _ (W.ret ?_) a ha))))
  have hS17 := hS13.push0 (r := R.own ty_3 [] (.slice none 0 0) []) rfl fun _ => .inl ⟨rfl, rfl, rfl⟩
  have hr := Option.some.inj hF
  subst hr
  exact rets (vs := [(.slice none 0 0), (.bool false)]) hQ rfl ⟨rv_tmp rfl, rv_tmp rfl, trivial⟩ ⟨(.slice none 0 0), [], rfl, hB12, hS17.sel [0] rfl⟩
 ·replace hF := ifN h15 hF
  refine W.skip fun a ha => hK7 _ _ (W.seq fun K18 hK18 => (W.region (wl_load_blk (i := 0) (vs := [v0_0, v0_1, (.int .i64 x0.2.2.1), (.int .i64 x0.2.2.2)]) (v := (.agg #[v0_0, v0_1, (.int .i64 x0.2.2.1), (.int .i64 x0.2.2.2)])) tf_53 rfl rfl hS13 rfl rfl rfl (wl_move rfl rfl ?_)))) a ha
  obtain ⟨u19, hu19, hF⟩ := bindE hF
  refine wl_call rfl Try.call181 (C_impl_wideSteps w10 x0 v0_0 (h0_0.ro hB12) v0_1 (h0_1.ro hB12) x1 _ hu19) rfl ?_
  rintro _ w22 ⟨v20, F21, rfl, hb23, hM26⟩
  refine ⟨_, rfl, ?_⟩
  have hB24 := hB12.trans (hb23.mono hB12.size)
  have hS25 := hS13.join hb23 hM26 hB12.size
  refine wl_assign rfl rfl (wl_assign rfl rfl (WL.nil (fun a ha => hK18 _ _ (W.ret ?_) a ha)))
  have hr := Option.some.inj hF
  subst hr
  exact rets (vs := [v20, (.bool true)]) hQ rfl ⟨rv_tmp rfl, rv_tmp rfl, trivial⟩ ⟨v20, F21, rfl, hB24, hS25.sel [0] rfl⟩
theorem C_spec_mvWithin (w0 : World) (x0 : ((Int × Int) × (Int × Int) × Int)) (x1 : Int) (r : Bool) (hF : F_spec_mvWithin x0 x1 = some r) :
  Calls Try.prog 210 [(.agg #[(.int .i64 x0.1.1), (.int .i64 x0.1.2), (.int .i64 x0.2.1.1), (.int .i64 x0.2.1.2), (.int .i64 x0.2.2)]), (.int .i64 x1)].toArray w0 fun e w' => e = .returned (.bool r) ∧ Below w0.heap.size w0 w' := by
 refine calls_mk' Try.func210 rfl Try.ntmps210 rfl rfl fun Q hQ hP => ?_
 have hB : Below w0.heap.size w0 w0 := Below.refl _ _
 have hS : Sep w0.heap.size w0 [] := Sep.nil _ _
 unfold F_spec_mvWithin at hF
 refine W.seq fun K1 hK1 => W.region (wl_box (cs := [(.int .i64 x0.1.1), (.int .i64 x0.1.2), (.int .i64 x0.2.1.1), (.int .i64 x0.2.1.2), (.int .i64 x0.2.2)]) rfl rfl rfl hB hS ?_)
 intro b2 w3 hb4 hB5 hS6
 refine wl_assign rfl rfl (WL.nil (fun a ha => hK1 _ _ (W.seq fun K7 hK7 => (W.regionH mixed_ [] hB5 hS6 ?_)) a ha))
 intro w8 hb9 hB10 hS11
 have hSW12 := KeepX.refl w8 []
 refine WH.tk 0 rfl hP hSW12 (pr_field (o := 0) (off' := 0) ff_70_0 rfl rfl rfl (WH.tk 1 rfl hP hSW12 (pr_load_blk (i := 0) (vs := [(.int .i64 x0.1.1), (.int .i64 x0.1.2)]) (v := (.agg #[(.int .i64 x0.1.1), (.int .i64 x0.1.2)])) tf_68 rfl rfl hS11 rfl rfl rfl (by simp) (WH.tk 2 rfl hP hSW12 (pr_field (o := 2) (off' := 2) ff_70_1 rfl rfl rfl (WH.tk 3 rfl hP hSW12 (pr_load_blk (i := 0) (vs := [(.int .i64 x0.2.1.1), (.int .i64 x0.2.1.2)]) (v := (.agg #[(.int .i64 x0.2.1.1), (.int .i64 x0.2.1.2)])) tf_68 rfl rfl hS11 rfl rfl rfl (by simp) (WH.tk 5 rfl hP hSW12 (pr_move rfl rfl (WH.tk 6 rfl hP hSW12 (pr_move rfl rfl (WH.tk 7 rfl hP hSW12 (pr_mul rfl rfl rfl ?_)))))))))))))
 refine WH.tk 8 rfl hP hSW12 (pr_field (o := 4) (off' := 4) ff_70_2 rfl rfl rfl (WH.tk 9 rfl hP hSW12 (pr_load_blk (i := 0) (vs := [(.int .i64 x0.2.2)]) (v := (.int .i64 x0.2.2)) tf_3 rfl rfl hS11 rfl rfl rfl (by simp) (WH.tk 10 rfl hP hSW12 (pr_mul rfl rfl rfl (WH.tk 11 rfl hP hSW12 (pr_field (o := 4) (off' := 4) ff_70_2 rfl rfl rfl (WH.tk 12 rfl hP hSW12 (pr_load_blk (i := 0) (vs := [(.int .i64 x0.2.2)]) (v := (.int .i64 x0.2.2)) tf_3 rfl rfl hS11 rfl rfl rfl (by simp) (WH.tk 13 rfl hP hSW12 (pr_mul rfl rfl rfl (WH.on1 4 rfl ?_))))))))))))
 obtain ⟨u13, hu13, hF⟩ := bindE hF
 refine wl_call rfl Try.call197 (C_spec_stSquare w8 x0.1 x0.2.1 _ hu13) rfl ?_
 rintro _ w14 ⟨rfl, hb15⟩
 refine ⟨_, rfl, ?_⟩
 have hB16 := hB10.trans (hb15.mono hB10.size)
 have hSW19 := hSW12.ext hb15
 refine WL.nil (WH.ret hSW19 (WH.tk 14 rfl hP hSW19 (pr_leq rfl rfl rfl (WH.tk 15 rfl hP hSW19 (pr_assign rfl rfl (WH.done (by kernel_rfl) (fun a ha => hK7 _ _ (W.ret ?_) a ha)))))))
 have hr := Option.some.inj hF
 subst hr
 exact rets (vs := [(.bool (decide (u13 ≤ (w64 ((w64 ((w64 (x1 * x1)) * x0.2.2)) * x0.2.2)))))]) hQ rfl ⟨rv_tmp rfl, trivial⟩ ⟨rfl, hB16⟩
theorem C_spec_swWide (w0 : World) (x0 : ((List (List (Int × Int))) × (List Int) × Int × Int)) (v0_0 : Value) (h0_0 : rdS ty_63 (· < w0.heap.size) w0 v0_0 x0.1) (v0_1 : Value) (h0_1 : rdS ty_3 (· < w0.heap.size) w0 v0_1 x0.2.1) (x1 : Int) (r : (List Int)) (hF : F_spec_swWide x0 x1 = some r) :
  Calls Try.prog 182 [(.agg #[v0_0, v0_1, (.int .i64 x0.2.2.1), (.int .i64 x0.2.2.2)]), (.int .i64 x1)].toArray w0 fun e w' => ∃ (q0 : Value) (G0 : List Nat), e = .returned q0 ∧ Below w0.heap.size w0 w' ∧ Sep w0.heap.size w' [R.own ty_3 G0 q0 r] := by
 refine calls_mk' Try.func182 rfl Try.ntmps182 rfl rfl fun Q hQ hP => ?_
 have hB : Below w0.heap.size w0 w0 := Below.refl _ _
 have hS : Sep w0.heap.size w0 [] := Sep.nil _ _
 unfold F_spec_swWide at hF
 refine W.seq fun K1 hK1 => W.region (wl_box (cs := [v0_0, v0_1, (.int .i64 x0.2.2.1), (.int .i64 x0.2.2.2)]) rfl rfl rfl hB hS ?_)
 intro b2 w3 hb4 hB5 hS6
 refine wl_assign rfl rfl (WL.nil (fun a ha => hK1 _ _ (W.seq fun K7 hK7 => (W.region (wl_assign rfl rfl (WL.nil (fun a ha => hK7 _ _ (W.seq fun K8 hK8 => (W.seq fun K9 hK9 => (W.region (wl_load_blk (i := 0) (vs := [v0_0, v0_1, (.int .i64 x0.2.2.1), (.int .i64 x0.2.2.2)]) (v := (.agg #[v0_0, v0_1, (.int .i64 x0.2.2.1), (.int .i64 x0.2.2.2)])) tf_53 rfl rfl hS6 rfl rfl rfl (wl_move rfl rfl ?_))))) a ha))))) a ha))
 obtain ⟨u10, hu10, hF⟩ := bindE hF
 refine wl_call rfl Try.call160 (C_spec_swMoves w3 x0 v0_0 (h0_0.ro hB5) v0_1 (h0_1.ro hB5) x1 _ hu10) rfl ?_
 rintro _ w13 ⟨v11, F12, rfl, hb14, hM17⟩
 refine ⟨_, rfl, ?_⟩
 have hB15 := hB5.trans (hb14.mono hB5.size)
 have hS16 := hS6.join hb14 hM17 hB5.size
 refine wl_lenr (e := ty_70) (l := u10) Try.underlying64 rfl rfl (hS16.own_ro (i := 0) rfl) (wl_move rfl rfl (WL.nil (fun a ha => hK9 _ _ (W.block (W.loopk (fun m a w18 => ∃ (l21 : (List Int)) (y24 : Int) (v22 : Value) (F23 : List Nat), St 28 [(2, (.pointer (some ⟨b2, 0, none⟩))), (5, v22), (10, v11), (11, (.int .i64 (List.length u10 : Int))), (12, (.int .i64 y24))] a ∧ Below w0.heap.size w0 w18 ∧ Sep w0.heap.size w18 [R.blk b2 53 [v0_0, v0_1, (.int .i64 x0.2.2.1), (.int .i64 x0.2.2.2)], R.own ty_3 F23 v22 l21, R.own ty_70 F12 v11 u10] ∧ F_spec_swWide_L1 u10 x0 m l21 y24 = some r) FU ?_ ?_)) a ha)))
 ·
  have hS26 := hS16.push0 (r := R.own ty_3 [] (.slice none 0 0) []) rfl fun _ => .inl ⟨rfl, rfl, rfl⟩
  exact fun a ha => ⟨[], 0, (.slice none 0 0), [], ha.sub ⟨rfl, rfl, rfl, rfl, rfl, trivial⟩, hB15, (hS26.sel [2, 0, 1] rfl), hF⟩
 ·
  rintro m28 a w18 ⟨l21, y24, v22, F23, ha, hB19, hS20, hF⟩ KL27 hKL27
  refine W.at ?_ ha
  cases m28 with
  | zero => exact noneE hF
  | succ m28 =>
   obtain ⟨nx25, hnx25⟩ : ∃ k, k = F_spec_swWide_L1 u10 x0 m28 := ⟨_, rfl⟩
   rw [F_spec_swWide_L1, ← hnx25] at hF
   refine W.seq fun K29 hK29 => W.region (wl_lss rfl rfl rfl (WL.nil (fun a ha => hK29 _ _ (W.seq fun K30 hK30 => (W.cond rfl (fun h31 => ?_) (fun h31 => ?_))) a ha)))
   ·replace hF := ifP h31 hF
    refine W.skip fun a ha => hK30 _ _ (W.seq fun K32 hK32 => ?_) a ha
    obtain ⟨k39, hk39, hF⟩ := jE1 hF
    have hJ40 : ∀ (l36 : (List Int)) (v37 : Value) (F38 : List Nat) (w33 : World) (_ : k39 l36 = some r) (_ : Below w0.heap.size w0 w33) (_ : Sep w0.heap.size w33 [R.blk b2 53 [v0_0, v0_1, (.int .i64 x0.2.2.1), (.int .i64 x0.2.2.2)], R.own ty_3 F38 v37 l36, R.own ty_70 F12 v11 u10]), ∀ a, St 28 [(2, (.pointer (some ⟨b2, 0, none⟩))), (5, v37), (10, v11), (11, (.int .i64 (List.length u10 : Int))), (12, (.int .i64 y24))] a → K32 a w33 := by
     intro l36 v37 F38 w33 hF hB34 hS35
     subst hk39
     refine fun a ha => hK32 _ _ (W.region (wl_add rfl rfl rfl (wl_move rfl rfl (WL.nil ?_)))) a ha
     rw [hnx25] at hF
     exact fun a ha => hKL27 a _ m28 (Nat.lt_succ_self m28) ⟨l36, (w64 (y24 + 1)), v37, F38, ha.sub ⟨rfl, rfl, rfl, rfl, rfl, trivial⟩, hB34, (hS35.sel [0, 1, 2] rfl), hF⟩
    refine W.block (W.seq fun K41 hK41 => (W.region (wl_move rfl rfl ?_)))
    obtain ⟨u42, hu42, hF⟩ := bindE hF
    refine wl_indexo (e := ty_70) (i := 2) Try.underlying64 rfl rfl rfl hS20 rfl hu42 ?_
    rintro p43 _ rfl hp44 ho45
    refine wl_load_p (vs := [(.int .i64 u42.1.1), (.int .i64 u42.1.2), (.int .i64 u42.2.1.1), (.int .i64 u42.2.1.2), (.int .i64 u42.2.2)]) (v := (.agg #[(.int .i64 u42.1.1), (.int .i64 u42.1.2), (.int .i64 u42.2.1.1), (.int .i64 u42.2.1.2), (.int .i64 u42.2.2)])) tf_70 rfl rfl hp44 rfl rfl (wl_alloc (cs := [(.int .i64 0), (.int .i64 0), (.int .i64 0), (.int .i64 0), (.int .i64 0)]) tf_70 rfl rfl hB19 hS20 ?_)
    intro b46 w47 hb48 hB49 hS50
    refine wl_assign rfl rfl (wl_store_blk (i := 0) (vs := [(.int .i64 u42.1.1), (.int .i64 u42.1.2), (.int .i64 u42.2.1.1), (.int .i64 u42.2.1.2), (.int .i64 u42.2.2)]) (cs' := [(.int .i64 u42.1.1), (.int .i64 u42.1.2), (.int .i64 u42.2.1.1), (.int .i64 u42.2.1.2), (.int .i64 u42.2.2)]) tf_70 rfl rfl rfl rfl hB49 hS50 rfl rfl ⟨rfl, rfl, rfl, rfl, rfl, trivial⟩ rfl ?_)
    intro w51 hk54 hB52 hS53
    refine WL.nil fun a ha => hK41 _ _ (W.seq fun K55 hK55 => (W.region (wl_load_blk (i := 0) (vs := [(.int .i64 u42.1.1), (.int .i64 u42.1.2), (.int .i64 u42.2.1.1), (.int .i64 u42.2.1.2), (.int .i64 u42.2.2)]) (v := (.agg #[(.int .i64 u42.1.1), (.int .i64 u42.1.2), (.int .i64 u42.2.1.1), (.int .i64 u42.2.1.2), (.int .i64 u42.2.2)])) tf_70 rfl rfl hS53 rfl rfl rfl (wl_field (o := 3) (off' := 3) ff_53_3 rfl rfl rfl (wl_load_blk (i := 1) (vs := [(.int .i64 x0.2.2.2)]) (v := (.int .i64 x0.2.2.2)) tf_3 rfl rfl hS53 rfl rfl rfl ?_))))) a ha
    obtain ⟨u56, hu56, hF⟩ := bindE hF
    refine wl_call rfl Try.call210 (C_spec_mvWithin w51 u42 x0.2.2.2 _ hu56) rfl ?_
    rintro _ w57 ⟨rfl, hb58⟩
    refine ⟨_, rfl, ?_⟩
    have hB59 := hB52.trans (hb58.mono hB52.size)
    have hS60 := hS53.below hb58
    refine wl_not rfl rfl (WL.nil (fun a ha => hK55 _ _ (W.cond rfl (fun h62 => ?_) (fun h62 => ?_)) a ha))
    ·replace hF := ifP h62 hF
     refine W.region (wl_move rfl rfl (wl_move rfl rfl (wl_lit (vs := [(.int .i64 y24)]) (l := [y24]) fl_3 Try.underlying29 rfl rfl rfl rfl rfl rfl hB59 hS60 ?_)))
     intro v63 F64 w65 hb66 hB67 hS68
     obtain ⟨u69, hu69, hF⟩ := bindE hF
     refine wl_append (i := 3) (S := (· < w65.heap.size)) fl_3 Try.underlying29 rfl rfl rfl hB67 hS68 rfl (hS68.own_ro (i := 0) rfl) hu69 ?_
     intro v70 F71 w72 hk73 hB74 hS75
     refine wl_assign rfl rfl (WL.nil ?_)
     exact fun a ha => hJ40 (u69) (v70) (F71) _ hF hB74 (hS75.sel [2, 3, 4] rfl) a (ha.sub ⟨rfl, rfl, rfl, rfl, rfl, trivial⟩)
    ·replace hF := ifN h62 hF
     refine W.skip ?_
     exact fun a ha => hJ40 (l21) (v22) (F23) _ hF hB59 (hS60.sel [1, 2, 3] rfl) a (ha.sub ⟨rfl, rfl, rfl, rfl, rfl, trivial⟩)
   ·replace hF := ifN h31 hF
    refine W.exit fun a ha => hK8 _ _ (W.seq fun K76 hK76 => (W.region (wl_move rfl rfl (wl_assign rfl rfl (WL.nil (fun a ha => hK76 _ _ (W.ret ?_) a ha)))))) a ha
    have hr := Option.some.inj hF
    subst hr
    exact rets (vs := [v22]) hQ rfl ⟨rv_tmp rfl, trivial⟩ ⟨v22, F23, rfl, hB19, hS20.sel [1] rfl⟩
theorem C_spec_WideSteps (w0 : World) (x0 : ((List (List (Int × Int))) × (List Int) × Int × Int)) (v0_0 : Value) (h0_0 : rdS ty_63 (· < w0.heap.size) w0 v0_0 x0.1) (v0_1 : Value) (h0_1 : rdS ty_3 (· < w0.heap.size) w0 v0_1 x0.2.1) (x1 : Int) (r : ((List Int) × Bool)) (hF : F_spec_WideSteps x0 x1 = some r) :
  Calls Try.prog 70 [(.agg #[v0_0, v0_1, (.int .i64 x0.2.2.1), (.int .i64 x0.2.2.2)]), (.int .i64 x1)].toArray w0 fun e w' => ∃ (q0 : Value) (G0 : List Nat), e = .returned (.tuple #[q0, (.bool r.2)]) ∧ Below w0.heap.size w0 w' ∧ Sep w0.heap.size w' [R.own ty_3 G0 q0 r.1] := by
 refine calls_mk' Try.func70 rfl Try.ntmps70 rfl rfl fun Q hQ hP => ?_
 have hB : Below w0.heap.size w0 w0 := Below.refl _ _
 have hS : Sep w0.heap.size w0 [] := Sep.nil _ _
 unfold F_spec_WideSteps at hF
 refine W.seq fun K1 hK1 => W.region (wl_box (cs := [v0_0, v0_1, (.int .i64 x0.2.2.1), (.int .i64 x0.2.2.2)]) rfl rfl rfl hB hS ?_)
 intro b2 w3 hb4 hB5 hS6
 refine wl_assign rfl rfl (wl_assign rfl rfl (WL.nil (fun a ha => hK1 _ _ (W.seq fun K7 hK7 => (W.seq fun K8 hK8 => (W.region (wl_load_blk (i := 0) (vs := [v0_0, v0_1, (.int .i64 x0.2.2.1), (.int .i64 x0.2.2.2)]) (v := (.agg #[v0_0, v0_1, (.int .i64 x0.2.2.1), (.int .i64 x0.2.2.2)])) tf_53 rfl rfl hS6 rfl rfl rfl (wl_move rfl rfl ?_))))) a ha)))
 obtain ⟨u9, hu9, hF⟩ := bindE hF
 refine wl_call rfl Try.call179 (C_spec_swHas w3 x0 v0_0 (h0_0.ro hB5) v0_1 (h0_1.ro hB5) x1 _ hu9) rfl ?_
 rintro _ w10 ⟨rfl, hb11⟩
 refine ⟨_, rfl, ?_⟩
 have hB12 := hB5.trans (hb11.mono hB5.size)
 have hS13 := hS6.below hb11
 refine wl_not rfl rfl (WL.nil (fun a ha => hK8 _ _ (W.cond rfl (fun h15 => ?_) (fun h15 => ?_)) a ha))
 ·replace hF := ifP h15 hF
  refine W.seq fun K16 hK16 => W.region (wl_assign rfl rfl (wl_assign rfl rfl (WL.nil (fun a ha => hK16 _ _ (W.ret ?_) a ha))))
  have hS17 := hS13.push0 (r := R.own ty_3 [] (.slice none 0 0) []) rfl fun _ => .inl ⟨rfl, rfl, rfl⟩
  have hr := Option.some.inj hF
  subst hr
  exact rets (vs := [(.slice none 0 0), (.bool false)]) hQ rfl ⟨rv_tmp rfl, rv_tmp rfl, trivial⟩ ⟨(.slice none 0 0), [], rfl, hB12, hS17.sel [0] rfl⟩
 ·replace hF := ifN h15 hF
  refine W.skip fun a ha => hK7 _ _ (W.seq fun K18 hK18 => (W.region (wl_load_blk (i := 0) (vs := [v0_0, v0_1, (.int .i64 x0.2.2.1), (.int .i64 x0.2.2.2)]) (v := (.agg #[v0_0, v0_1, (.int .i64 x0.2.2.1), (.int .i64 x0.2.2.2)])) tf_53 rfl rfl hS13 rfl rfl rfl (wl_move rfl rfl ?_)))) a ha
  obtain ⟨u19, hu19, hF⟩ := bindE hF
  refine wl_call rfl Try.call182 (C_spec_swWide w10 x0 v0_0 (h0_0.ro hB12) v0_1 (h0_1.ro hB12) x1 _ hu19) rfl ?_
  rintro _ w22 ⟨v20, F21, rfl, hb23, hM26⟩
  refine ⟨_, rfl, ?_⟩
  have hB24 := hB12.trans (hb23.mono hB12.size)
  have hS25 := hS13.join hb23 hM26 hB12.size
  refine wl_assign rfl rfl (wl_assign rfl rfl (WL.nil (fun a ha => hK18 _ _ (W.ret ?_) a ha)))
  have hr := Option.some.inj hF
  subst hr
  exact rets (vs := [v20, (.bool true)]) hQ rfl ⟨rv_tmp rfl, rv_tmp rfl, trivial⟩ ⟨v20, F21, rfl, hB24, hS25.sel [0] rfl⟩
theorem C_laws_pIn (w0 : World) (x0 : (List Int)) (v0_0 : Value) (h0_0 : rdS ty_3 (· < w0.heap.size) w0 v0_0 x0) (x1 : Int) (r : Bool) (hF : F_laws_pIn x0 x1 = some r) :
  Calls Try.prog 72 [v0_0, (.int .i64 x1)].toArray w0 fun e w' => e = .returned (.bool r) ∧ Below w0.heap.size w0 w' := by
 refine calls_mk' Try.func72 rfl Try.ntmps72 rfl rfl fun Q hQ hP => ?_
 have hB : Below w0.heap.size w0 w0 := Below.refl _ _
 have hS : Sep w0.heap.size w0 [] := Sep.nil _ _
 unfold F_laws_pIn at hF
 refine W.seq fun K1 hK1 => W.region (wl_assign rfl rfl (WL.nil (fun a ha => hK1 _ _ (W.seq fun K2 hK2 => (W.seq fun K3 hK3 => (W.region (wl_move rfl rfl (wl_lenr (e := ty_3) (l := x0) Try.underlying29 rfl rfl h0_0 (wl_move rfl rfl (WL.nil (fun a ha => hK3 _ _ (W.block ?_) a ha)))))))) a ha)))
 refine W.loopk (fun m a w4 => ∃ (y7 : Int), St 17 [(1, (.int .i64 x1)), (7, v0_0), (8, (.int .i64 (List.length x0 : Int))), (9, (.int .i64 y7))] a ∧ Below w0.heap.size w0 w4 ∧ Sep w0.heap.size w4 [] ∧ F_laws_pIn_L1 x0 x1 m y7 = some r) FU ?_ ?_
 ·
  exact fun a ha => ⟨0, ha.sub ⟨rfl, rfl, rfl, rfl, trivial⟩, hB, (hS.sel [] rfl), hF⟩
 ·
  rintro m10 a w4 ⟨y7, ha, hB5, hS6, hF⟩ KL9 hKL9
  refine W.at ?_ ha
  cases m10 with
  | zero => exact noneE hF
  | succ m10 =>
   obtain ⟨nx8, hnx8⟩ : ∃ k, k = F_laws_pIn_L1 x0 x1 m10 := ⟨_, rfl⟩
   rw [F_laws_pIn_L1, ← hnx8] at hF
   refine W.seq fun K11 hK11 => W.region (wl_lss rfl rfl rfl (WL.nil (fun a ha => hK11 _ _ (W.seq fun K12 hK12 => (W.cond rfl (fun h13 => ?_) (fun h13 => ?_))) a ha)))
   ·replace hF := ifP h13 hF
    refine W.skip fun a ha => hK12 _ _ (W.seq fun K14 hK14 => (W.block (W.seq fun K15 hK15 => (W.region ?_)))) a ha
    obtain ⟨u16, hu16, hF⟩ := bindE hF
    refine wl_index (e := ty_3) Try.underlying29 rfl rfl rfl h0_0 hu16 ?_
    rintro p17 _ rfl hp18
    refine wl_load_p (vs := [(.int .i64 u16)]) (v := (.int .i64 u16)) tf_3 rfl rfl (hp18.ro hB5) rfl rfl (wl_assign rfl rfl (WL.nil (fun a ha => hK15 _ _ (W.seq fun K19 hK19 => (W.region (wl_move rfl rfl (wl_move rfl rfl (wl_eql rfl rfl rfl (WL.nil (fun a ha => hK19 _ _ (W.cond rfl (fun h20 => ?_) (fun h20 => ?_)) a ha))))))) a ha)))
    ·replace hF := ifP h20 hF
     refine W.seq fun K21 hK21 => W.region (wl_assign rfl rfl (WL.nil (fun a ha => hK21 _ _ (W.ret ?_) a ha)))
     have hr := Option.some.inj hF
     subst hr
     exact rets (vs := [(.bool true)]) hQ rfl ⟨rv_tmp rfl, trivial⟩ ⟨rfl, hB5⟩
    ·replace hF := ifN h20 hF
     refine W.skip fun a ha => hK14 _ _ (W.region (wl_add rfl rfl rfl (wl_move rfl rfl (WL.nil ?_)))) a ha
     rw [hnx8] at hF
     exact fun a ha => hKL9 a _ m10 (Nat.lt_succ_self m10) ⟨(w64 (y7 + 1)), ha.sub ⟨rfl, rfl, rfl, rfl, trivial⟩, hB5, (hS6.sel [] rfl), hF⟩
   ·replace hF := ifN h13 hF
    refine W.exit fun a ha => hK2 _ _ (W.seq fun K22 hK22 => (W.region (wl_assign rfl rfl (WL.nil (fun a ha => hK22 _ _ (W.ret ?_) a ha))))) a ha
    have hr := Option.some.inj hF
    subst hr
    exact rets (vs := [(.bool false)]) hQ rfl ⟨rv_tmp rfl, trivial⟩ ⟨rfl, hB5⟩
theorem C_impl_unsafParts (w0 : World) (x0 : ((List (List (Int × Int))) × (List Int) × Int × Int)) (v0_0 : Value) (h0_0 : rdS ty_63 (· < w0.heap.size) w0 v0_0 x0.1) (v0_1 : Value) (h0_1 : rdS ty_3 (· < w0.heap.size) w0 v0_1 x0.2.1) (r : (List Int)) (hF : F_impl_unsafParts x0 = some r) :
  Calls Try.prog 184 [(.agg #[v0_0, v0_1, (.int .i64 x0.2.2.1), (.int .i64 x0.2.2.2)])].toArray w0 fun e w' => ∃ (q0 : Value) (G0 : List Nat), e = .returned q0 ∧ Below w0.heap.size w0 w' ∧ Sep w0.heap.size w' [R.own ty_3 G0 q0 r] := by
 refine calls_mk' Try.func184 rfl Try.ntmps184 rfl rfl fun Q hQ hP => ?_
 have hB : Below w0.heap.size w0 w0 := Below.refl _ _
 have hS : Sep w0.heap.size w0 [] := Sep.nil _ _
 unfold F_impl_unsafParts at hF
 refine W.seq fun K1 hK1 => W.region (wl_box (cs := [v0_0, v0_1, (.int .i64 x0.2.2.1), (.int .i64 x0.2.2.2)]) rfl rfl rfl hB hS ?_)
 intro b2 w3 hb4 hB5 hS6
 refine wl_assign rfl rfl (WL.nil (fun a ha => hK1 _ _ (W.seq fun K7 hK7 => (W.region (wl_lit (vs := []) (l := []) fl_3 Try.underlying29 rfl rfl rfl rfl rfl rfl hB5 hS6 ?_))) a ha))
 intro v8 F9 w10 hb11 hB12 hS13
 refine wl_assign rfl rfl (WL.nil (fun a ha => hK7 _ _ (W.seq fun K14 hK14 => (W.seq fun K15 hK15 => (W.region (wl_field (o := 1) (off' := 1) ff_53_1 rfl rfl rfl (wl_load_blk (i := 1) (vs := [v0_1]) (v := v0_1) tf_29 rfl rfl hS13 rfl rfl rfl (wl_lenr (e := ty_3) (l := x0.2.1) Try.underlying29 rfl rfl h0_1 (wl_move rfl rfl (WL.nil (fun a ha => hK15 _ _ (W.block (W.loopk (fun m a w16 => ∃ (l19 : (List Int)) (y22 : Int) (v20 : Value) (F21 : List Nat), St 33 [(1, (.pointer (some ⟨b2, 0, none⟩))), (3, v20), (8, (.int .i64 (List.length x0.2.1 : Int))), (9, (.int .i64 y22))] a ∧ Below w0.heap.size w0 w16 ∧ Sep w0.heap.size w16 [R.blk b2 53 [v0_0, v0_1, (.int .i64 x0.2.2.1), (.int .i64 x0.2.2.2)], R.own ty_3 F21 v20 l19] ∧ F_impl_unsafParts_L1 x0 m l19 y22 = some r) FU ?_ ?_)) a ha))))))))) a ha))
 ·
  exact fun a ha => ⟨[], 0, v8, F9, ha.sub ⟨rfl, rfl, rfl, rfl, trivial⟩, hB12, (hS13.sel [1, 0] rfl), hF⟩
 ·
  rintro m25 a w16 ⟨l19, y22, v20, F21, ha, hB17, hS18, hF⟩ KL24 hKL24
  refine W.at ?_ ha
  cases m25 with
  | zero => exact noneE hF
  | succ m25 =>
   obtain ⟨nx23, hnx23⟩ : ∃ k, k = F_impl_unsafParts_L1 x0 m25 := ⟨_, rfl⟩
   rw [F_impl_unsafParts_L1, ← hnx23] at hF
   refine W.seq fun K26 hK26 => W.region (wl_lss rfl rfl rfl (WL.nil (fun a ha => hK26 _ _ (W.seq fun K27 hK27 => (W.cond rfl (fun h28 => ?_) (fun h28 => ?_))) a ha)))
   ·replace hF := ifP h28 hF
    refine W.skip fun a ha => hK27 _ _ (W.seq fun K29 hK29 => ?_) a ha
    obtain ⟨k36, hk36, hF⟩ := jE1 hF
    have hJ37 : ∀ (l33 : (List Int)) (v34 : Value) (F35 : List Nat) (w30 : World) (_ : k36 l33 = some r) (_ : Below w0.heap.size w0 w30) (_ : Sep w0.heap.size w30 [R.blk b2 53 [v0_0, v0_1, (.int .i64 x0.2.2.1), (.int .i64 x0.2.2.2)], R.own ty_3 F35 v34 l33]), ∀ a, St 33 [(1, (.pointer (some ⟨b2, 0, none⟩))), (3, v34), (8, (.int .i64 (List.length x0.2.1 : Int))), (9, (.int .i64 y22))] a → K29 a w30 := by
     intro l33 v34 F35 w30 hF hB31 hS32
     subst hk36
     refine fun a ha => hK29 _ _ (W.region (wl_add rfl rfl rfl (wl_move rfl rfl (WL.nil ?_)))) a ha
     rw [hnx23] at hF
     exact fun a ha => hKL24 a _ m25 (Nat.lt_succ_self m25) ⟨l33, (w64 (y22 + 1)), v34, F35, ha.sub ⟨rfl, rfl, rfl, rfl, trivial⟩, hB31, (hS32.sel [0, 1] rfl), hF⟩
    refine W.block (W.seq fun K38 hK38 => (W.region (wl_move rfl rfl (wl_assign rfl rfl (WL.nil (fun a ha => hK38 _ _ (W.seq fun K39 hK39 => ?_) a ha))))))
    obtain ⟨k44, hk44, hF⟩ := jE1 hF
    have hJ45 : ∀ (y43 : Bool) (w40 : World) (_ : k44 y43 = some r) (_ : Below w0.heap.size w0 w40) (_ : Sep w0.heap.size w40 [R.blk b2 53 [v0_0, v0_1, (.int .i64 x0.2.2.1), (.int .i64 x0.2.2.2)], R.own ty_3 F21 v20 l19]), ∀ a, St 33 [(1, (.pointer (some ⟨b2, 0, none⟩))), (3, v20), (4, (.int .i64 y22)), (8, (.int .i64 (List.length x0.2.1 : Int))), (9, (.int .i64 y22)), (26, (.bool y43))] a → K39 a w40 := by
     intro y43 w40 hF hB41 hS42
     subst hk44
     refine fun a ha => hK39 _ _ (W.cond rfl (fun h46 => ?_) (fun h46 => ?_)) a ha
     ·replace hF := ifP h46 hF
      refine W.region (wl_move rfl rfl (wl_move rfl rfl (wl_lit (vs := [(.int .i64 y22)]) (l := [y22]) fl_3 Try.underlying29 rfl rfl rfl rfl rfl rfl hB41 hS42 ?_)))
      intro v47 F48 w49 hb50 hB51 hS52
      obtain ⟨u53, hu53, hF⟩ := bindE hF
      refine wl_append (i := 2) (S := (· < w49.heap.size)) fl_3 Try.underlying29 rfl rfl rfl hB51 hS52 rfl (hS52.own_ro (i := 0) rfl) hu53 ?_
      intro v54 F55 w56 hk57 hB58 hS59
      refine wl_assign rfl rfl (WL.nil ?_)
      exact fun a ha => hJ37 (u53) (v54) (F55) _ hF hB58 (hS59.sel [1, 2] rfl) a (ha.sub ⟨rfl, rfl, rfl, rfl, trivial⟩)
     ·replace hF := ifN h46 hF
      refine W.skip ?_
      exact fun a ha => hJ37 (l19) (v20) (F21) _ hF hB41 (hS42.sel [0, 1] rfl) a (ha.sub ⟨rfl, rfl, rfl, rfl, trivial⟩)
    refine W.regionH mixed_ [] hB17 hS18 ?_
    intro w60 hb61 hB62 hS63
    have hSW64 := KeepX.refl w60 []
    refine WH.tk 0 rfl hP hSW64 (pr_load_blk (i := 0) (vs := [v0_0, v0_1, (.int .i64 x0.2.2.1), (.int .i64 x0.2.2.2)]) (v := (.agg #[v0_0, v0_1, (.int .i64 x0.2.2.1), (.int .i64 x0.2.2.2)])) tf_53 rfl rfl hS63 rfl rfl rfl (by simp) (WH.tk 1 rfl hP hSW64 (pr_move rfl rfl (WH.on1 2 rfl ?_))))
    obtain ⟨u65, hu65, hF⟩ := bindE hF
    refine wl_call rfl Try.call181 (C_impl_wideSteps w60 x0 v0_0 (h0_0.ro hB62) v0_1 (h0_1.ro hB62) y22 _ hu65) rfl ?_
    rintro _ w68 ⟨v66, F67, rfl, hb69, hM72⟩
    refine ⟨_, rfl, ?_⟩
    have hB70 := hB62.trans (hb69.mono hB62.size)
    have hS71 := hS63.join hb69 hM72 hB62.size
    have hSW74 := hSW64.ext hb69
    refine WL.nil (WH.ret hSW74 (WH.tk 3 rfl hP hSW74 (pr_lenr (e := ty_3) (l := u65) Try.underlying29 rfl rfl (hS71.own_ro (i := 0) rfl) (WH.tk 4 rfl hP hSW74 (pr_gtr rfl rfl rfl (WH.tk 5 rfl hP hSW74 (pr_move rfl rfl ?_)))))))
    rcases bE (decide (0 < (List.length u65 : Int))) with h75 | h75
    ·replace hF := ifP h75 hF
     refine WH.off (i := 6) rfl (by kernel_rfl) (by kernel_rfl) (by kernel_rfl) hP rfl rfl h75 rfl hSW74 (WH.off (i := 7) rfl (by kernel_rfl) (by kernel_rfl) (by kernel_rfl) hP rfl rfl h75 rfl hSW74 (WH.off (i := 8) rfl (by kernel_rfl) (by kernel_rfl) (by kernel_rfl) hP rfl rfl h75 rfl hSW74 (WH.off (i := 9) rfl (by kernel_rfl) (by kernel_rfl) (by kernel_rfl) hP rfl rfl h75 rfl hSW74 (WH.off (i := 10) rfl (by kernel_rfl) (by kernel_rfl) (by kernel_rfl) hP rfl rfl h75 rfl hSW74 (WH.off (i := 11) rfl (by kernel_rfl) (by kernel_rfl) (by kernel_rfl) hP rfl rfl h75 rfl hSW74 (WH.off (i := 12) rfl (by kernel_rfl) (by kernel_rfl) (by kernel_rfl) hP rfl rfl h75 rfl hSW74 (WH.off (i := 13) rfl (by kernel_rfl) (by kernel_rfl) (by kernel_rfl) hP rfl rfl h75 rfl hSW74 (WH.tk 14 rfl hP hSW74 (pr_pick_t rfl rfl h75 rfl (WH.done (by kernel_rfl) ?_))))))))))
     exact fun a ha => hJ45 (true) _ hF hB70 (hS71.sel [1, 2] rfl) a (ha.sub ⟨rfl, rfl, rfl, rfl, rfl, rfl, trivial⟩)
    ·replace hF := ifN h75 hF
     refine WH.takexg (i := 6) rfl (by kernel_rfl) (by kernel_rfl) (by kernel_rfl) hP rfl rfl h75 hSW74 (pr_load_blk (i := 0) (vs := [v0_0, v0_1, (.int .i64 x0.2.2.1), (.int .i64 x0.2.2.2)]) (v := (.agg #[v0_0, v0_1, (.int .i64 x0.2.2.1), (.int .i64 x0.2.2.2)])) tf_53 rfl rfl hS63 rfl rfl rfl (by simp) (WH.takexg (i := 7) rfl (by kernel_rfl) (by kernel_rfl) (by kernel_rfl) hP rfl rfl h75 hSW74 (pr_move rfl rfl (WH.takexg (i := 9) rfl (by kernel_rfl) (by kernel_rfl) (by kernel_rfl) hP rfl rfl h75 hSW74 (pr_field (o := 2) (off' := 2) ff_53_2 rfl rfl rfl (WH.takexg (i := 10) rfl (by kernel_rfl) (by kernel_rfl) (by kernel_rfl) hP rfl rfl h75 hSW74 (pr_load_blk (i := 0) (vs := [(.int .i64 x0.2.2.1)]) (v := (.int .i64 x0.2.2.1)) tf_3 rfl rfl hS63 rfl rfl rfl (by simp) (WH.on1 8 rfl (wl_on rfl rfl h75 ?_)))))))))
     obtain ⟨u76, hu76, hF⟩ := bindE hF
     refine wl_call rfl Try.call152 (C_impl_showMoves w68 x0 v0_0 (h0_0.ro hB70) v0_1 (h0_1.ro hB70) y22 _ hu76) rfl ?_
     rintro _ w79 ⟨v77, F78, rfl, hb80, hM83⟩
     refine ⟨_, rfl, ?_⟩
     have hB81 := hB70.trans (hb80.mono hB70.size)
     have hS82 := hS71.join hb80 hM83 hB70.size
     have hSW85 := hSW74.ext hb80
     refine WL.nil (WH.ret hSW85 (WH.on1 11 rfl (wl_on rfl rfl h75 ?_)))
     obtain ⟨u86, hu86, hF⟩ := bindE hF
     refine wl_call rfl Try.call162 (C_impl_pairsTooClose w79 u76 v77 (hS82.own_ro (i := 0) rfl) x0.2.2.1 _ hu86) rfl ?_
     rintro _ w89 ⟨v87, F88, rfl, hb90, hM93⟩
     refine ⟨_, rfl, ?_⟩
     have hB91 := hB81.trans (hb90.mono hB81.size)
     have hS92 := hS82.join hb90 hM93 hB81.size
     have hSW95 := hSW85.ext hb90
     refine WL.nil (WH.ret hSW95 (WH.takexg (i := 12) rfl (by kernel_rfl) (by kernel_rfl) (by kernel_rfl) hP rfl rfl h75 hSW95 (pr_lenr (e := ty_29) (l := u86) Try.underlying72 rfl rfl (hS92.own_ro (i := 0) rfl) (WH.takexg (i := 13) rfl (by kernel_rfl) (by kernel_rfl) (by kernel_rfl) hP rfl rfl h75 hSW95 (pr_gtr rfl rfl rfl (WH.tk 14 rfl hP hSW95 (pr_pick_f rfl rfl h75 rfl (WH.done (by kernel_rfl) ?_))))))))
     exact fun a ha => hJ45 ((decide (0 < (List.length u86 : Int)))) _ hF hB91 (hS92.sel [3, 4] rfl) a (ha.sub ⟨rfl, rfl, rfl, rfl, rfl, rfl, trivial⟩)
   ·replace hF := ifN h28 hF
    refine W.exit fun a ha => hK14 _ _ (W.seq fun K96 hK96 => (W.region (wl_move rfl rfl (wl_assign rfl rfl (WL.nil (fun a ha => hK96 _ _ (W.ret ?_) a ha)))))) a ha
    have hr := Option.some.inj hF
    subst hr
    exact rets (vs := [v20]) hQ rfl ⟨rv_tmp rfl, trivial⟩ ⟨v20, F21, rfl, hB17, hS18.sel [1] rfl⟩
theorem C_spec_swUnsafe (w0 : World) (x0 : ((List (List (Int × Int))) × (List Int) × Int × Int)) (v0_0 : Value) (h0_0 : rdS ty_63 (· < w0.heap.size) w0 v0_0 x0.1) (v0_1 : Value) (h0_1 : rdS ty_3 (· < w0.heap.size) w0 v0_1 x0.2.1) (r : (List Int)) (hF : F_spec_swUnsafe x0 = some r) :
  Calls Try.prog 186 [(.agg #[v0_0, v0_1, (.int .i64 x0.2.2.1), (.int .i64 x0.2.2.2)])].toArray w0 fun e w' => ∃ (q0 : Value) (G0 : List Nat), e = .returned q0 ∧ Below w0.heap.size w0 w' ∧ Sep w0.heap.size w' [R.own ty_3 G0 q0 r] := by
 refine calls_mk' Try.func186 rfl Try.ntmps186 rfl rfl fun Q hQ hP => ?_
 have hB : Below w0.heap.size w0 w0 := Below.refl _ _
 have hS : Sep w0.heap.size w0 [] := Sep.nil _ _
 unfold F_spec_swUnsafe at hF
 refine W.seq fun K1 hK1 => W.region (wl_box (cs := [v0_0, v0_1, (.int .i64 x0.2.2.1), (.int .i64 x0.2.2.2)]) rfl rfl rfl hB hS ?_)
 intro b2 w3 hb4 hB5 hS6
 refine wl_assign rfl rfl (WL.nil (fun a ha => hK1 _ _ (W.seq fun K7 hK7 => (W.region (wl_assign rfl rfl (WL.nil (fun a ha => hK7 _ _ (W.seq fun K8 hK8 => (W.seq fun K9 hK9 => (W.region (wl_field (o := 1) (off' := 1) ff_53_1 rfl rfl rfl (wl_load_blk (i := 0) (vs := [v0_1]) (v := v0_1) tf_29 rfl rfl hS6 rfl rfl rfl (wl_lenr (e := ty_3) (l := x0.2.1) Try.underlying29 rfl rfl h0_1 ?_)))))) a ha))))) a ha))
 refine wl_move rfl rfl (WL.nil (fun a ha => hK9 _ _ (W.block (W.loopk (fun m a w10 => ∃ (l13 : (List Int)) (y16 : Int) (v14 : Value) (F15 : List Nat), St 27 [(1, (.pointer (some ⟨b2, 0, none⟩))), (3, v14), (7, (.int .i64 (List.length x0.2.1 : Int))), (8, (.int .i64 y16))] a ∧ Below w0.heap.size w0 w10 ∧ Sep w0.heap.size w10 [R.blk b2 53 [v0_0, v0_1, (.int .i64 x0.2.2.1), (.int .i64 x0.2.2.2)], R.own ty_3 F15 v14 l13] ∧ F_spec_swUnsafe_L1 x0 m l13 y16 = some r) FU ?_ ?_)) a ha))
 ·
  have hS18 := hS6.push0 (r := R.own ty_3 [] (.slice none 0 0) []) rfl fun _ => .inl ⟨rfl, rfl, rfl⟩
  exact fun a ha => ⟨[], 0, (.slice none 0 0), [], ha.sub ⟨rfl, rfl, rfl, rfl, trivial⟩, hB5, (hS18.sel [1, 0] rfl), hF⟩
 ·
  rintro m20 a w10 ⟨l13, y16, v14, F15, ha, hB11, hS12, hF⟩ KL19 hKL19
  refine W.at ?_ ha
  cases m20 with
  | zero => exact noneE hF
  | succ m20 =>
   obtain ⟨nx17, hnx17⟩ : ∃ k, k = F_spec_swUnsafe_L1 x0 m20 := ⟨_, rfl⟩
   rw [F_spec_swUnsafe_L1, ← hnx17] at hF
   refine W.seq fun K21 hK21 => W.region (wl_lss rfl rfl rfl (WL.nil (fun a ha => hK21 _ _ (W.seq fun K22 hK22 => (W.cond rfl (fun h23 => ?_) (fun h23 => ?_))) a ha)))
   ·replace hF := ifP h23 hF
    refine W.skip fun a ha => hK22 _ _ (W.seq fun K24 hK24 => ?_) a ha
    obtain ⟨k31, hk31, hF⟩ := jE1 hF
    have hJ32 : ∀ (l28 : (List Int)) (v29 : Value) (F30 : List Nat) (w25 : World) (_ : k31 l28 = some r) (_ : Below w0.heap.size w0 w25) (_ : Sep w0.heap.size w25 [R.blk b2 53 [v0_0, v0_1, (.int .i64 x0.2.2.1), (.int .i64 x0.2.2.2)], R.own ty_3 F30 v29 l28]), ∀ a, St 27 [(1, (.pointer (some ⟨b2, 0, none⟩))), (3, v29), (7, (.int .i64 (List.length x0.2.1 : Int))), (8, (.int .i64 y16))] a → K24 a w25 := by
     intro l28 v29 F30 w25 hF hB26 hS27
     subst hk31
     refine fun a ha => hK24 _ _ (W.region (wl_add rfl rfl rfl (wl_move rfl rfl (WL.nil ?_)))) a ha
     rw [hnx17] at hF
     exact fun a ha => hKL19 a _ m20 (Nat.lt_succ_self m20) ⟨l28, (w64 (y16 + 1)), v29, F30, ha.sub ⟨rfl, rfl, rfl, rfl, trivial⟩, hB26, (hS27.sel [0, 1] rfl), hF⟩
    refine W.block (W.seq fun K33 hK33 => (W.region (wl_move rfl rfl (wl_assign rfl rfl (WL.nil (fun a ha => hK33 _ _ (W.seq fun K34 hK34 => (W.regionH mixed_ [] hB11 hS12 ?_)) a ha))))))
    intro w35 hb36 hB37 hS38
    have hSW39 := KeepX.refl w35 []
    refine WH.tk 0 rfl hP hSW39 (pr_load_blk (i := 0) (vs := [v0_0, v0_1, (.int .i64 x0.2.2.1), (.int .i64 x0.2.2.2)]) (v := (.agg #[v0_0, v0_1, (.int .i64 x0.2.2.1), (.int .i64 x0.2.2.2)])) tf_53 rfl rfl hS38 rfl rfl rfl (by simp) (WH.tk 1 rfl hP hSW39 (pr_move rfl rfl (WH.tk 4 rfl hP hSW39 (pr_load_blk (i := 0) (vs := [v0_0, v0_1, (.int .i64 x0.2.2.1), (.int .i64 x0.2.2.2)]) (v := (.agg #[v0_0, v0_1, (.int .i64 x0.2.2.1), (.int .i64 x0.2.2.2)])) tf_53 rfl rfl hS38 rfl rfl rfl (by simp) (WH.tk 5 rfl hP hSW39 (pr_move rfl rfl (WH.on1 2 rfl ?_))))))))
    obtain ⟨u40, hu40, hF⟩ := bindE hF
    refine wl_call rfl Try.call180 (C_spec_swClose w35 x0 v0_0 (h0_0.ro hB37) v0_1 (h0_1.ro hB37) y16 _ hu40) rfl ?_
    rintro _ w43 ⟨v41, F42, rfl, hb44, hM47⟩
    refine ⟨_, rfl, ?_⟩
    have hB45 := hB37.trans (hb44.mono hB37.size)
    have hS46 := hS38.join hb44 hM47 hB37.size
    have hSW49 := hSW39.ext hb44
    refine WL.nil (WH.ret hSW49 (WH.tk 3 rfl hP hSW49 (pr_lenr (e := ty_29) (l := u40) Try.underlying72 rfl rfl (hS46.own_ro (i := 0) rfl) (WH.on1 6 rfl ?_))))
    obtain ⟨u50, hu50, hF⟩ := bindE hF
    refine wl_call rfl Try.call182 (C_spec_swWide w43 x0 v0_0 (h0_0.ro hB45) v0_1 (h0_1.ro hB45) y16 _ hu50) rfl ?_
    rintro _ w53 ⟨v51, F52, rfl, hb54, hM57⟩
    refine ⟨_, rfl, ?_⟩
    have hB55 := hB45.trans (hb54.mono hB45.size)
    have hS56 := hS46.join hb54 hM57 hB45.size
    have hSW59 := hSW49.ext hb54
    refine WL.nil (WH.ret hSW59 (WH.tk 7 rfl hP hSW59 (pr_lenr (e := ty_3) (l := u50) Try.underlying29 rfl rfl (hS56.own_ro (i := 0) rfl) (WH.tk 8 rfl hP hSW59 (pr_add rfl rfl rfl (WH.tk 9 rfl hP hSW59 (pr_gtr rfl rfl rfl (WH.done (by kernel_rfl) (fun a ha => hK34 _ _ (W.cond rfl (fun h60 => ?_) (fun h60 => ?_)) a ha)))))))))
    ·replace hF := ifP h60 hF
     refine W.region (wl_move rfl rfl (wl_move rfl rfl (wl_lit (vs := [(.int .i64 y16)]) (l := [y16]) fl_3 Try.underlying29 rfl rfl rfl rfl rfl rfl hB55 hS56 ?_)))
     intro v61 F62 w63 hb64 hB65 hS66
     obtain ⟨u67, hu67, hF⟩ := bindE hF
     refine wl_append (i := 4) (S := (· < w63.heap.size)) fl_3 Try.underlying29 rfl rfl rfl hB65 hS66 rfl (hS66.own_ro (i := 0) rfl) hu67 ?_
     intro v68 F69 w70 hk71 hB72 hS73
     refine wl_assign rfl rfl (WL.nil ?_)
     exact fun a ha => hJ32 (u67) (v68) (F69) _ hF hB72 (hS73.sel [3, 4] rfl) a (ha.sub ⟨rfl, rfl, rfl, rfl, trivial⟩)
    ·replace hF := ifN h60 hF
     refine W.skip ?_
     exact fun a ha => hJ32 (l13) (v14) (F15) _ hF hB55 (hS56.sel [2, 3] rfl) a (ha.sub ⟨rfl, rfl, rfl, rfl, trivial⟩)
   ·replace hF := ifN h23 hF
    refine W.exit fun a ha => hK8 _ _ (W.seq fun K74 hK74 => (W.region (wl_move rfl rfl (wl_assign rfl rfl (WL.nil (fun a ha => hK74 _ _ (W.ret ?_) a ha)))))) a ha
    have hr := Option.some.inj hF
    subst hr
    exact rets (vs := [v14]) hQ rfl ⟨rv_tmp rfl, trivial⟩ ⟨v14, F15, rfl, hB11, hS12.sel [1] rfl⟩
theorem C_spec_UnsafeParts (w0 : World) (x0 : ((List (List (Int × Int))) × (List Int) × Int × Int)) (v0_0 : Value) (h0_0 : rdS ty_63 (· < w0.heap.size) w0 v0_0 x0.1) (v0_1 : Value) (h0_1 : rdS ty_3 (· < w0.heap.size) w0 v0_1 x0.2.1) (r : ((List Int) × Bool)) (hF : F_spec_UnsafeParts x0 = some r) :
  Calls Try.prog 77 [(.agg #[v0_0, v0_1, (.int .i64 x0.2.2.1), (.int .i64 x0.2.2.2)])].toArray w0 fun e w' => ∃ (q0 : Value) (G0 : List Nat), e = .returned (.tuple #[q0, (.bool r.2)]) ∧ Below w0.heap.size w0 w' ∧ Sep w0.heap.size w' [R.own ty_3 G0 q0 r.1] := by
 refine calls_mk' Try.func77 rfl Try.ntmps77 rfl rfl fun Q hQ hP => ?_
 have hB : Below w0.heap.size w0 w0 := Below.refl _ _
 have hS : Sep w0.heap.size w0 [] := Sep.nil _ _
 unfold F_spec_UnsafeParts at hF
 refine W.seq fun K1 hK1 => W.region (wl_box (cs := [v0_0, v0_1, (.int .i64 x0.2.2.1), (.int .i64 x0.2.2.2)]) rfl rfl rfl hB hS ?_)
 intro b2 w3 hb4 hB5 hS6
 refine wl_assign rfl rfl (wl_assign rfl rfl (WL.nil (fun a ha => hK1 _ _ (W.seq fun K7 hK7 => (W.seq fun K8 hK8 => (W.region (wl_load_blk (i := 0) (vs := [v0_0, v0_1, (.int .i64 x0.2.2.1), (.int .i64 x0.2.2.2)]) (v := (.agg #[v0_0, v0_1, (.int .i64 x0.2.2.1), (.int .i64 x0.2.2.2)])) tf_53 rfl rfl hS6 rfl rfl rfl ?_)))) a ha)))
 obtain ⟨u9, hu9, hF⟩ := bindE hF
 refine wl_call rfl Try.call145 (C_spec_swGood w3 x0 v0_0 (h0_0.ro hB5) v0_1 (h0_1.ro hB5) _ hu9) rfl ?_
 rintro _ w10 ⟨rfl, hb11⟩
 refine ⟨_, rfl, ?_⟩
 have hB12 := hB5.trans (hb11.mono hB5.size)
 have hS13 := hS6.below hb11
 refine wl_not rfl rfl (WL.nil (fun a ha => hK8 _ _ (W.cond rfl (fun h15 => ?_) (fun h15 => ?_)) a ha))
 ·replace hF := ifP h15 hF
  refine W.seq fun K16 hK16 => W.region (wl_assign rfl rfl (wl_assign rfl rfl (WL.nil (fun a ha => hK16 _ _ (W.ret ?_) a ha))))
  have hS17 := hS13.push0 (r := R.own ty_3 [] (.slice none 0 0) []) rfl fun _ => .inl ⟨rfl, rfl, rfl⟩
  have hr := Option.some.inj hF
  subst hr
  exact rets (vs := [(.slice none 0 0), (.bool false)]) hQ rfl ⟨rv_tmp rfl, rv_tmp rfl, trivial⟩ ⟨(.slice none 0 0), [], rfl, hB12, hS17.sel [0] rfl⟩
 ·replace hF := ifN h15 hF
  refine W.skip fun a ha => hK7 _ _ (W.seq fun K18 hK18 => (W.region (wl_load_blk (i := 0) (vs := [v0_0, v0_1, (.int .i64 x0.2.2.1), (.int .i64 x0.2.2.2)]) (v := (.agg #[v0_0, v0_1, (.int .i64 x0.2.2.1), (.int .i64 x0.2.2.2)])) tf_53 rfl rfl hS13 rfl rfl rfl ?_))) a ha
  obtain ⟨u19, hu19, hF⟩ := bindE hF
  refine wl_call rfl Try.call186 (C_spec_swUnsafe w10 x0 v0_0 (h0_0.ro hB12) v0_1 (h0_1.ro hB12) _ hu19) rfl ?_
  rintro _ w22 ⟨v20, F21, rfl, hb23, hM26⟩
  refine ⟨_, rfl, ?_⟩
  have hB24 := hB12.trans (hb23.mono hB12.size)
  have hS25 := hS13.join hb23 hM26 hB12.size
  refine wl_assign rfl rfl (wl_assign rfl rfl (WL.nil (fun a ha => hK18 _ _ (W.ret ?_) a ha)))
  have hr := Option.some.inj hF
  subst hr
  exact rets (vs := [v20, (.bool true)]) hQ rfl ⟨rv_tmp rfl, rv_tmp rfl, trivial⟩ ⟨v20, F21, rfl, hB24, hS25.sel [0] rfl⟩
theorem C_spec_DrawIsShow (w0 : World) (x0 : (List Int)) (v0_0 : Value) (h0_0 : rdS ty_5 (· < w0.heap.size) w0 v0_0 x0) (r : ((List (List (Int × Int))) × (List Int) × Int × Int)) (hF : F_spec_DrawIsShow x0 = some r) :
  Calls Try.prog 183 [v0_0].toArray w0 fun e w' => ∃ (q0 : Value) (G0 : List Nat) (q1 : Value) (G1 : List Nat), e = .returned (.agg #[q0, q1, (.int .i64 r.2.2.1), (.int .i64 r.2.2.2)]) ∧ Below w0.heap.size w0 w' ∧ Sep w0.heap.size w' [R.own ty_63 G0 q0 r.1, R.own ty_3 G1 q1 r.2.1] := by
 refine calls_mk' Try.func183 rfl Try.ntmps183 rfl rfl fun Q hQ hP => ?_
 have hB : Below w0.heap.size w0 w0 := Below.refl _ _
 have hS : Sep w0.heap.size w0 [] := Sep.nil _ _
 unfold F_spec_DrawIsShow at hF
 refine W.seq fun K1 hK1 => W.region (wl_alloc (cs := [(.slice none 0 0), (.slice none 0 0), (.int .i64 0), (.int .i64 0)]) tf_53 rfl rfl hB hS ?_)
 intro b2 w3 hb4 hB5 hS6
 refine WL.nil fun a ha => hK1 _ _ (W.seq fun K7 hK7 => (W.region (wl_move rfl rfl (wl_build (zs := [(.slice none 0 0), (.int .i64 0), (.int .u64 0)]) (out := [v0_0, (.int .i64 0), (.int .u64 0)]) (vs := [v0_0]) (css := [[v0_0]]) tf_131 pl_131 rfl rfl (by simp only [List.map_cons, List.map_nil, cells_one ((h0_0.ro hB5).one)] <;> rfl) rfl rfl (wl_box (cs := [v0_0, (.int .i64 0), (.int .u64 0)]) rfl rfl rfl hB5 hS6 ?_))))) a ha
 intro b8 w9 hb10 hB11 hS12
 refine wl_assign rfl rfl (WL.nil (fun a ha => hK7 _ _ (W.seq fun K13 hK13 => (W.region (wl_move rfl rfl ?_))) a ha))
 obtain ⟨u14, hu14, hF⟩ := bindE hF
 refine wl_call rfl Try.call149 (C_spec_l1Cur__show__mut__box w9 (x0, 0, 0) b8 v0_0 (h0_0.oldo hB11 (hS12.sel [0] rfl)) (hS12.sel [0] rfl).base0 _ hu14) rfl ?_
 rintro _ w15 ⟨v20, F21, v22, F23, rfl, hE16, hM17⟩
 refine ⟨_, rfl, ?_⟩
 have hB18 := hS12.takeB [0] rfl (M := [R.blk b8 131 [v0_0, (.int .i64 0), (.int .u64 0)]]) rfl hB11 hE16 hM17
 have hS19 : Sep w0.heap.size w15 [R.blk b8 131 [v0_0, (.int .i64 u14.2.2.1), (.int .u64 u14.2.2.2)], R.own ty_63 F21 v20 u14.1.1, R.own ty_3 F23 v22 u14.1.2.1, R.blk b2 53 [(.slice none 0 0), (.slice none 0 0), (.int .i64 0), (.int .i64 0)]] := hS12.take [0] [1] rfl (M := [R.blk b8 131 [v0_0, (.int .i64 0), (.int .u64 0)]]) rfl hM17 hB11.size
 refine wl_store_blk (i := 3) (vs := [v20, v22, (.int .i64 u14.1.2.2.1), (.int .i64 u14.1.2.2.2)]) (cs' := [v20, v22, (.int .i64 u14.1.2.2.1), (.int .i64 u14.1.2.2.2)]) tf_53 rfl rfl rfl rfl hB18 hS19 rfl rfl ⟨(hS19.own_ro (i := 1) rfl).one, (hS19.own_ro (i := 2) rfl).one, rfl, rfl, trivial⟩ rfl ?_
 intro w24 hk27 hB25 hS26
 refine WL.nil fun a ha => hK13 _ _ (W.ret ?_) a ha
 have hr := Option.some.inj hF
 subst hr
 exact rets (vs := [(.agg #[v20, v22, (.int .i64 u14.1.2.2.1), (.int .i64 u14.1.2.2.2)])]) hQ rfl ⟨rv_cell (i := 3) tf_53 rfl hS26 rfl rfl rfl, trivial⟩ ⟨v20, F21, v22, F23, rfl, hB25, hS26.sel [1, 2] rfl⟩
theorem C_spec_DrawPublishSheets (w0 : World) (x0 : (List Int)) (v0_0 : Value) (h0_0 : rdS ty_5 (· < w0.heap.size) w0 v0_0 x0) (r : ((List (List (Int × Int))) × (List Int) × Int × Int)) (hF : F_spec_DrawPublishSheets x0 = some r) :
  Calls Try.prog 73 [v0_0].toArray w0 fun e w' => ∃ (q0 : Value) (G0 : List Nat) (q1 : Value) (G1 : List Nat), e = .returned (.agg #[q0, q1, (.int .i64 r.2.2.1), (.int .i64 r.2.2.2)]) ∧ Below w0.heap.size w0 w' ∧ Sep w0.heap.size w' [R.own ty_63 G0 q0 r.1, R.own ty_3 G1 q1 r.2.1] := by
 refine calls_mk' Try.func73 rfl Try.ntmps73 rfl rfl fun Q hQ hP => ?_
 have hB : Below w0.heap.size w0 w0 := Below.refl _ _
 have hS : Sep w0.heap.size w0 [] := Sep.nil _ _
 unfold F_spec_DrawPublishSheets at hF
 refine W.seq fun K1 hK1 => W.region (wl_alloc (cs := [(.slice none 0 0), (.slice none 0 0), (.int .i64 0), (.int .i64 0)]) tf_53 rfl rfl hB hS ?_)
 intro b2 w3 hb4 hB5 hS6
 refine WL.nil fun a ha => hK1 _ _ (W.seq fun K7 hK7 => (W.region (wl_move rfl rfl ?_))) a ha
 obtain ⟨u8, hu8, hF⟩ := bindE hF
 refine wl_call rfl Try.call183 (C_spec_DrawIsShow w3 x0 v0_0 (h0_0.ro hB5) _ hu8) rfl ?_
 rintro _ w13 ⟨v9, F10, v11, F12, rfl, hb14, hM17⟩
 refine ⟨_, rfl, ?_⟩
 have hB15 := hB5.trans (hb14.mono hB5.size)
 have hS16 := hS6.join hb14 hM17 hB5.size
 refine wl_store_blk (i := 2) (vs := [v9, v11, (.int .i64 u8.2.2.1), (.int .i64 u8.2.2.2)]) (cs' := [v9, v11, (.int .i64 u8.2.2.1), (.int .i64 u8.2.2.2)]) tf_53 rfl rfl rfl rfl hB15 hS16 rfl rfl ⟨(hS16.own_ro (i := 0) rfl).one, (hS16.own_ro (i := 1) rfl).one, rfl, rfl, trivial⟩ rfl ?_
 intro w18 hk21 hB19 hS20
 refine WL.nil fun a ha => hK7 _ _ (W.ret ?_) a ha
 have hr := Option.some.inj hF
 subst hr
 exact rets (vs := [(.agg #[v9, v11, (.int .i64 u8.2.2.1), (.int .i64 u8.2.2.2)])]) hQ rfl ⟨rv_cell (i := 2) tf_53 rfl hS20 rfl rfl rfl, trivial⟩ ⟨v9, F10, v11, F12, rfl, hB19, hS20.sel [0, 1] rfl⟩
theorem C_impl_PublishSheets (w0 : World) (x0 : ((List (List (Int × Int))) × (List Int) × Int × Int)) (v0_0 : Value) (h0_0 : rdS ty_63 (· < w0.heap.size) w0 v0_0 x0.1) (v0_1 : Value) (h0_1 : rdS ty_3 (· < w0.heap.size) w0 v0_1 x0.2.1) (r : ((List (Int × (Int × Int) × (List (Int × (Int × Int))))) × Bool)) (hF : F_impl_PublishSheets x0 = some r) :
  Calls Try.prog 74 [(.agg #[v0_0, v0_1, (.int .i64 x0.2.2.1), (.int .i64 x0.2.2.2)])].toArray w0 fun e w' => ∃ (q0 : Value) (G0 : List Nat), e = .returned (.tuple #[q0, (.bool r.2)]) ∧ Below w0.heap.size w0 w' ∧ Sep w0.heap.size w' [R.own ty_114 G0 q0 r.1] := by
 refine calls_mk' Try.func74 rfl Try.ntmps74 rfl rfl fun Q hQ hP => ?_
 have hB : Below w0.heap.size w0 w0 := Below.refl _ _
 have hS : Sep w0.heap.size w0 [] := Sep.nil _ _
 unfold F_impl_PublishSheets at hF
 refine W.seq fun K1 hK1 => W.region (wl_box (cs := [v0_0, v0_1, (.int .i64 x0.2.2.1), (.int .i64 x0.2.2.2)]) rfl rfl rfl hB hS ?_)
 intro b2 w3 hb4 hB5 hS6
 refine wl_assign rfl rfl (wl_assign rfl rfl (WL.nil (fun a ha => hK1 _ _ (W.seq fun K7 hK7 => (W.seq fun K8 hK8 => ?_)) a ha)))
 obtain ⟨k13, hk13, hF⟩ := jE1 hF
 have hJ14 : ∀ (y12 : Bool) (w9 : World) (_ : k13 y12 = some r) (_ : Below w0.heap.size w0 w9) (_ : Sep w0.heap.size w9 [R.blk b2 53 [v0_0, v0_1, (.int .i64 x0.2.2.1), (.int .i64 x0.2.2.2)]]), ∀ a, St 35 [(1, (.pointer (some ⟨b2, 0, none⟩))), (14, (.bool y12))] a → K8 a w9 := by
  intro y12 w9 hF hB10 hS11
  subst hk13
  refine fun a ha => hK8 _ _ (W.cond rfl (fun h15 => ?_) (fun h15 => ?_)) a ha
  ·replace hF := ifP h15 hF
   refine W.seq fun K16 hK16 => W.region (wl_assign rfl rfl (wl_assign rfl rfl (WL.nil (fun a ha => hK16 _ _ (W.ret ?_) a ha))))
   have hS17 := hS11.push0 (r := R.own ty_114 [] (.slice none 0 0) []) rfl fun _ => .inl ⟨rfl, rfl, rfl⟩
   have hr := Option.some.inj hF
   subst hr
   exact rets (vs := [(.slice none 0 0), (.bool false)]) hQ rfl ⟨rv_tmp rfl, rv_tmp rfl, trivial⟩ ⟨(.slice none 0 0), [], rfl, hB10, hS17.sel [0] rfl⟩
  ·replace hF := ifN h15 hF
   refine W.skip fun a ha => hK7 _ _ (W.seq fun K18 hK18 => (W.region (wl_lit0 (e := ty_114) Try.underlying91 rfl hB10 hS11 ?_))) a ha
   intro v19 F20 w21 hb22 hB23 hS24
   refine wl_assign rfl rfl (WL.nil (fun a ha => hK18 _ _ (W.seq fun K25 hK25 => (W.seq fun K26 hK26 => (W.region (wl_field (o := 0) (off' := 0) ff_53_0 rfl rfl rfl (wl_load_blk (i := 1) (vs := [v0_0]) (v := v0_0) tf_51 rfl rfl hS24 rfl rfl rfl ?_))))) a ha))
   obtain ⟨u27, hu27, hF⟩ := bindE hF
   refine wl_index (e := ty_63) Try.underlying51 rfl rfl rfl h0_0 hu27 ?_
   rintro p28 _ ⟨v30, rfl, hv31⟩ hp29
   refine wl_load_p (vs := [v30]) (v := v30) tf_63 rfl rfl (hp29.ro hB23) rfl rfl (wl_lenr (e := ty_68) (l := u27) Try.underlying63 rfl rfl hv31 (wl_move rfl rfl (WL.nil (fun a ha => hK26 _ _ (W.block (W.loopk (fun m a w32 => ∃ (l35 : (List (Int × (Int × Int) × (List (Int × (Int × Int)))))) (y38 : Int) (v36 : Value) (F37 : List Nat), St 35 [(1, (.pointer (some ⟨b2, 0, none⟩))), (4, v36), (20, (.int .i64 (List.length u27 : Int))), (21, (.int .i64 y38))] a ∧ Below w0.heap.size w0 w32 ∧ Sep w0.heap.size w32 [R.blk b2 53 [v0_0, v0_1, (.int .i64 x0.2.2.1), (.int .i64 x0.2.2.2)], R.own ty_114 F37 v36 l35] ∧ F_impl_PublishSheets_L1 u27 x0 m l35 y38 = some r) FU ?_ ?_)) a ha))))
   ·
    exact fun a ha => ⟨[], 0, v19, F20, ha.sub ⟨rfl, rfl, rfl, rfl, trivial⟩, hB23, (hS24.sel [1, 0] rfl), hF⟩
   ·
    rintro m41 a w32 ⟨l35, y38, v36, F37, ha, hB33, hS34, hF⟩ KL40 hKL40
    refine W.at ?_ ha
    cases m41 with
    | zero => exact noneE hF
    | succ m41 =>
     obtain ⟨nx39, hnx39⟩ : ∃ k, k = F_impl_PublishSheets_L1 u27 x0 m41 := ⟨_, rfl⟩
     rw [F_impl_PublishSheets_L1, ← hnx39] at hF
     refine W.seq fun K42 hK42 => W.region (wl_lss rfl rfl rfl (WL.nil (fun a ha => hK42 _ _ (W.seq fun K43 hK43 => (W.cond rfl (fun h44 => ?_) (fun h44 => ?_))) a ha)))
     ·replace hF := ifP h44 hF
      refine W.skip fun a ha => hK43 _ _ (W.seq fun K45 hK45 => (W.block (W.seq fun K46 hK46 => (W.region (wl_move rfl rfl (wl_assign rfl rfl (WL.nil (fun a ha => hK46 _ _ (W.region (wl_move rfl rfl (wl_field (o := 0) (off' := 0) ff_53_0 rfl rfl rfl (wl_load_blk (i := 0) (vs := [v0_0]) (v := v0_0) tf_51 rfl rfl hS34 rfl rfl rfl ?_)))) a ha)))))))) a ha
      refine wl_field (o := 1) (off' := 1) ff_53_1 rfl rfl rfl (wl_load_blk (i := 0) (vs := [v0_1]) (v := v0_1) tf_29 rfl rfl hS34 rfl rfl rfl (wl_move rfl rfl ?_))
      obtain ⟨u47, hu47, hF⟩ := bindE hF
      refine wl_call rfl Try.call185 (C_impl_sheetOf w32 x0.1 v0_0 (h0_0.ro hB33) x0.2.1 v0_1 (h0_1.ro hB33) y38 _ hu47) rfl ?_
      rintro _ w50 ⟨v48, F49, rfl, hb51, hM54⟩
      refine ⟨_, rfl, ?_⟩
      have hB52 := hB33.trans (hb51.mono hB33.size)
      have hS53 := hS34.join hb51 hM54 hB33.size
      have hq55 := hS53.sel [0, 1, 2] rfl
      have hq56 := hq55.head (r' := R.cel ty_114 F49 [(.int .i64 u47.1), (.int .i64 u47.2.1.1), (.int .i64 u47.2.1.2), v48] u47) (rfl) fun _ h0 => ⟨[(.int .i64 u47.1)], [(.int .i64 u47.2.1.1), (.int .i64 u47.2.1.2), v48], [], F49, rfl, rfl, ⟨rfl, rfl⟩, ⟨[(.int .i64 u47.2.1.1), (.int .i64 u47.2.1.2)], [v48], [], F49, rfl, rfl, ⟨rfl, rfl⟩, ⟨_, rfl, h0⟩⟩⟩
      refine wl_lit1 (e := ty_114) (vs := [(.int .i64 u47.1), (.int .i64 u47.2.1.1), (.int .i64 u47.2.1.2), v48]) Try.underlying91 rfl rfl rfl rfl hB52 hq56 ?_
      intro v57 F58 w59 hb60 hf61 hB62 hS63
      obtain ⟨u64, hu64, hF⟩ := bindE hF
      refine wl_appendn (e := ty_114) Try.underlying91 rfl rfl rfl hB62 (hS63.sel [2, 0, 1] rfl) hu64 ?_
      intro v65 F66 w67 hk68 hB69 hS70
      refine wl_assign rfl rfl (WL.nil (fun a ha => hK45 _ _ (W.region (wl_add rfl rfl rfl (wl_move rfl rfl (WL.nil ?_)))) a ha))
      rw [hnx39] at hF
      exact fun a ha => hKL40 a _ m41 (Nat.lt_succ_self m41) ⟨u64, (w64 (y38 + 1)), v65, F66, ha.sub ⟨rfl, rfl, rfl, rfl, trivial⟩, hB69, (hS70.sel [1, 0] rfl), hF⟩
     ·replace hF := ifN h44 hF
      refine W.exit fun a ha => hK25 _ _ (W.seq fun K71 hK71 => (W.region (wl_move rfl rfl (wl_assign rfl rfl (wl_assign rfl rfl (WL.nil (fun a ha => hK71 _ _ (W.ret ?_) a ha))))))) a ha
      have hr := Option.some.inj hF
      subst hr
      exact rets (vs := [v36, (.bool true)]) hQ rfl ⟨rv_tmp rfl, rv_tmp rfl, trivial⟩ ⟨v36, F37, rfl, hB33, hS34.sel [1] rfl⟩
 refine W.region (wl_load_blk (i := 0) (vs := [v0_0, v0_1, (.int .i64 x0.2.2.1), (.int .i64 x0.2.2.2)]) (v := (.agg #[v0_0, v0_1, (.int .i64 x0.2.2.1), (.int .i64 x0.2.2.2)])) tf_53 rfl rfl hS6 rfl rfl rfl ?_)
 obtain ⟨u72, hu72, hF⟩ := bindE hF
 refine wl_call rfl Try.call60 (C_impl_IsShow w3 x0 v0_0 (h0_0.ro hB5) v0_1 (h0_1.ro hB5) _ hu72) rfl ?_
 rintro _ w73 ⟨rfl, hb74⟩
 refine ⟨_, rfl, ?_⟩
 have hB75 := hB5.trans (hb74.mono hB5.size)
 have hS76 := hS6.below hb74
 refine wl_not rfl rfl (wl_move rfl rfl ?_)
 rcases bE (!u72) with h78 | h78
 ·replace hF := ifP h78 hF
  refine wl_off rfl rfl rfl h78 (wl_off rfl rfl rfl h78 (wl_off rfl rfl rfl h78 (wl_off rfl rfl rfl h78 (wl_pick_t rfl rfl h78 rfl (WL.nil ?_)))))
  exact fun a ha => hJ14 (true) _ hF hB75 (hS76.sel [0] rfl) a (ha.sub ⟨rfl, rfl, trivial⟩)
 ·replace hF := ifN h78 hF
  refine wl_on rfl rfl h78 (wl_load_blk (i := 0) (vs := [v0_0, v0_1, (.int .i64 x0.2.2.1), (.int .i64 x0.2.2.2)]) (v := (.agg #[v0_0, v0_1, (.int .i64 x0.2.2.1), (.int .i64 x0.2.2.2)])) tf_53 rfl rfl hS76 rfl rfl rfl (wl_on rfl rfl h78 ?_))
  obtain ⟨u79, hu79, hF⟩ := bindE hF
  refine wl_call rfl Try.call184 (C_impl_unsafParts w73 x0 v0_0 (h0_0.ro hB75) v0_1 (h0_1.ro hB75) _ hu79) rfl ?_
  rintro _ w82 ⟨v80, F81, rfl, hb83, hM86⟩
  refine ⟨_, rfl, ?_⟩
  have hB84 := hB75.trans (hb83.mono hB75.size)
  have hS85 := hS76.join hb83 hM86 hB75.size
  refine wl_on rfl rfl h78 (wl_lenr (e := ty_3) (l := u79) Try.underlying29 rfl rfl (hS85.own_ro (i := 0) rfl) (wl_on rfl rfl h78 (wl_gtr rfl rfl rfl (wl_pick_f rfl rfl h78 rfl (WL.nil ?_)))))
  exact fun a ha => hJ14 ((decide (0 < (List.length u79 : Int)))) _ hF hB84 (hS85.sel [1] rfl) a (ha.sub ⟨rfl, rfl, trivial⟩)
end Go.Proofs.Ytmkignciedkidaa
