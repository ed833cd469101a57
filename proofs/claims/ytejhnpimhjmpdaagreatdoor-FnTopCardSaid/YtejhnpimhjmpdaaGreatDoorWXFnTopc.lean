/-
  THE WALKS of functions of this seat, by program (gen.py, prune.py).
-/
import Derived.Test.YtejhnpimhjmpdaaGreatDoorWXFnTopb
set_option linter.unusedSimpArgs false
set_option linter.unusedVariables false
set_option maxRecDepth 100000
set_option maxHeartbeats 1600000
namespace Go.Proofs.YtejhnpimhjmpdaaGreatDoor
open Go Go.RowKit
theorem C_spec_shOf (w0 : World) (x0 : (List (List (Int × Int)))) (v0_0 : Value) (h0_0 : rdS ty_51 (· < w0.heap.size) w0 v0_0 x0) (x1 : (List Int)) (v1_0 : Value) (h1_0 : rdS ty_3 (· < w0.heap.size) w0 v1_0 x1) (x2 : Int) (r : (Int × (Int × Int) × (List (Int × (Int × Int))))) (hF : F_spec_shOf x0 x1 x2 = some r) :
  Calls Tryz.prog 32 [v0_0, v1_0, (.int .i64 x2)].toArray w0 fun e w' => ∃ (q0 : Value) (G0 : List Nat), e = .returned (.agg #[(.int .i64 r.1), (.int .i64 r.2.1.1), (.int .i64 r.2.1.2), q0]) ∧ Below w0.heap.size w0 w' ∧ Sep w0.heap.size w' [R.own ty_101 G0 q0 r.2.2] := by
 refine calls_mk' Tryz.func32 rfl Tryz.ntmps32 rfl rfl fun Q hQ hP => ?_
 have hB : Below w0.heap.size w0 w0 := Below.refl _ _
 have hS : Sep w0.heap.size w0 [] := Sep.nil _ _
 unfold F_spec_shOf at hF
 refine W.seq fun K1 hK1 => W.region (wl_alloc (cs := [(.int .i64 0), (.int .i64 0), (.int .i64 0), (.slice none 0 0)]) tf_48 rfl rfl hB hS ?_)
 intro b2 w3 hb4 hB5 hS6
 refine WL.nil fun a ha => hK1 _ _ (W.seq fun K7 hK7 => (W.region (wl_move rfl rfl (wl_move rfl rfl ?_)))) a ha
 obtain ⟨u8, hu8, hF⟩ := bindE hF
 refine wl_index (e := ty_51) Tryz.underlying24 rfl rfl rfl h0_0 hu8 ?_
 rintro p9 _ ⟨v11, rfl, hv12⟩ hp10
 refine wl_load_p (vs := [v11]) (v := v11) tf_51 rfl rfl (hp10.ro hB5) rfl rfl (wl_move rfl rfl ?_)
 obtain ⟨u13, hu13, hF⟩ := bindE hF
 refine wl_index (e := ty_38) Tryz.underlying51 rfl rfl rfl hv12 hu13 ?_
 rintro p14 _ rfl hp15
 refine wl_load_p (vs := [(.int .i64 u13.1), (.int .i64 u13.2)]) (v := (.agg #[(.int .i64 u13.1), (.int .i64 u13.2)])) tf_38 rfl rfl (hp15.ro hB5) rfl rfl (wl_build (zs := [(.int .i64 0), (.int .i64 0), (.int .i64 0), (.slice none 0 0)]) (out := [(.int .i64 x2), (.int .i64 u13.1), (.int .i64 u13.2), (.slice none 0 0)]) (vs := [(.int .i64 x2), (.agg #[(.int .i64 u13.1), (.int .i64 u13.2)])]) (css := [[(.int .i64 x2)], [(.int .i64 u13.1), (.int .i64 u13.2)]]) tf_48 pl_48 rfl rfl rfl rfl rfl (wl_alloc (cs := [(.int .i64 0), (.int .i64 0), (.int .i64 0), (.slice none 0 0)]) tf_48 rfl rfl hB5 hS6 ?_))
 intro b16 w17 hb18 hB19 hS20
 refine wl_store_blk (i := 0) (vs := [(.int .i64 x2), (.int .i64 u13.1), (.int .i64 u13.2), (.slice none 0 0)]) (cs' := [(.int .i64 x2), (.int .i64 u13.1), (.int .i64 u13.2), (.slice none 0 0)]) tf_48 rfl rfl rfl rfl hB19 hS20 rfl rfl ⟨rfl, rfl, rfl, rfl, trivial⟩ rfl ?_
 intro w21 hk24 hB22 hS23
 refine WL.nil fun a ha => hK7 _ _ (W.seq fun K25 hK25 => (W.seq fun K26 hK26 => (W.region (wl_move rfl rfl (wl_lenr (e := ty_3) (l := x1) Tryz.underlying25 rfl rfl h1_0 (wl_move rfl rfl (WL.nil (fun a ha => hK26 _ _ (W.block (W.loopk (fun m a w27 => ∃ (l30 : (List (Int × (Int × Int)))) (y33 : Int) (v31 : Value) (F32 : List Nat), St 42 [(0, v0_0), (2, (.int .i64 x2)), (6, (.pointer (some ⟨b2, 0, none⟩))), (7, (.pointer (some ⟨b16, 0, none⟩))), (18, v1_0), (19, (.int .i64 (List.length x1 : Int))), (20, (.int .i64 y33))] a ∧ Below w0.heap.size w0 w27 ∧ Sep w0.heap.size w27 [R.blk b2 48 [(.int .i64 0), (.int .i64 0), (.int .i64 0), (.slice none 0 0)], R.own ty_101 F32 v31 l30, R.blk b16 48 [(.int .i64 x2), (.int .i64 u13.1), (.int .i64 u13.2), v31]] ∧ F_spec_shOf_L1 x1 x0 x2 u13 m l30 y33 = some r) FU ?_ ?_)) a ha)))))))) a ha
 ·
  have hS35 := hS23.push0 (r := R.own ty_101 [] (.slice none 0 0) []) rfl fun _ => .inl ⟨rfl, rfl, rfl⟩
  exact fun a ha => ⟨[], 0, (.slice none 0 0), [], ha.sub ⟨rfl, rfl, rfl, rfl, rfl, rfl, rfl, trivial⟩, hB22, (hS35.sel [2, 0, 1] rfl), hF⟩
 ·
  rintro m37 a w27 ⟨l30, y33, v31, F32, ha, hB28, hS29, hF⟩ KL36 hKL36
  refine W.at ?_ ha
  cases m37 with
  | zero => exact noneE hF
  | succ m37 =>
   obtain ⟨nx34, hnx34⟩ : ∃ k, k = F_spec_shOf_L1 x1 x0 x2 u13 m37 := ⟨_, rfl⟩
   rw [F_spec_shOf_L1, ← hnx34] at hF
   refine W.seq fun K38 hK38 => W.region (wl_lss rfl rfl rfl (WL.nil (fun a ha => hK38 _ _ (W.seq fun K39 hK39 => (W.cond rfl (fun h40 => ?_) (fun h40 => ?_))) a ha)))
   ·replace hF := ifP h40 hF
    refine W.skip fun a ha => hK39 _ _ (W.seq fun K41 hK41 => ?_) a ha
    obtain ⟨k48, hk48, hF⟩ := jE1 hF
    have hJ49 : ∀ (l45 : (List (Int × (Int × Int)))) (v46 : Value) (F47 : List Nat) (w42 : World) (_ : k48 l45 = some r) (_ : Below w0.heap.size w0 w42) (_ : Sep w0.heap.size w42 [R.blk b2 48 [(.int .i64 0), (.int .i64 0), (.int .i64 0), (.slice none 0 0)], R.own ty_101 F47 v46 l45, R.blk b16 48 [(.int .i64 x2), (.int .i64 u13.1), (.int .i64 u13.2), v46]]), ∀ a, St 42 [(0, v0_0), (2, (.int .i64 x2)), (6, (.pointer (some ⟨b2, 0, none⟩))), (7, (.pointer (some ⟨b16, 0, none⟩))), (18, v1_0), (19, (.int .i64 (List.length x1 : Int))), (20, (.int .i64 y33))] a → K41 a w42 := by
     intro l45 v46 F47 w42 hF hB43 hS44
     subst hk48
     refine fun a ha => hK41 _ _ (W.region (wl_add rfl rfl rfl (wl_move rfl rfl (WL.nil ?_)))) a ha
     rw [hnx34] at hF
     exact fun a ha => hKL36 a _ m37 (Nat.lt_succ_self m37) ⟨l45, (w64 (y33 + 1)), v46, F47, ha.sub ⟨rfl, rfl, rfl, rfl, rfl, rfl, rfl, trivial⟩, hB43, (hS44.sel [0, 1, 2] rfl), hF⟩
    refine W.block (W.seq fun K50 hK50 => (W.region (wl_move rfl rfl ?_)))
    obtain ⟨u51, hu51, hF⟩ := bindE hF
    refine wl_index (e := ty_3) Tryz.underlying25 rfl rfl rfl h1_0 hu51 ?_
    rintro p52 _ rfl hp53
    refine wl_load_p (vs := [(.int .i64 u51)]) (v := (.int .i64 u51)) tf_3 rfl rfl (hp53.ro hB28) rfl rfl (wl_assign rfl rfl (wl_assign rfl rfl (WL.nil (fun a ha => hK50 _ _ (W.regionH mixed_ (F32 ++ [b16]) hB28 hS29 ?_) a ha))))
    intro w54 hb55 hB56 hS57
    have hSW58 := KeepX.refl w54 (F32 ++ [b16])
    refine WH.tk 0 rfl hP hSW58 (pr_field (o := 3) (off' := 3) ff_48_2 rfl rfl rfl (WH.tk 2 rfl hP hSW58 (pr_move rfl rfl (WH.tk 3 rfl hP hSW58 (pr_move rfl rfl (WH.tk 4 rfl hP hSW58 (pr_move rfl rfl (WH.tk 5 rfl hP hSW58 (pr_add rfl rfl rfl ?_)))))))))
    obtain ⟨u59, hu59, hF⟩ := bindE hF
    refine WH.tk 6 rfl hP hSW58 (pr_index (e := ty_51) Tryz.underlying24 rfl rfl rfl h0_0 hu59 ?_)
    rintro p60 _ ⟨v62, rfl, hv63⟩ hp61
    refine WH.tk 7 rfl hP hSW58 (pr_load_p (vs := [v62]) (v := v62) tf_51 rfl rfl (hp61.kx hB56 (fun b hb => ((List.mem_append.1 hb).elim (fun hb => (((hS57.get (i := 1) rfl).2.1 b hb).1)) (fun hb => (((hS57.get (i := 2) rfl).2.1 b hb).1))))) rfl rfl (WH.tk 8 rfl hP hSW58 (pr_move rfl rfl ?_)))
    obtain ⟨u64, hu64, hF⟩ := bindE hF
    refine WH.tk 9 rfl hP hSW58 (pr_index (e := ty_38) Tryz.underlying51 rfl rfl rfl hv63 hu64 ?_)
    rintro p65 _ rfl hp66
    refine WH.tk 10 rfl hP hSW58 (pr_load_p (vs := [(.int .i64 u64.1), (.int .i64 u64.2)]) (v := (.agg #[(.int .i64 u64.1), (.int .i64 u64.2)])) tf_38 rfl rfl (hp66.kx hB56 (fun b hb => ((List.mem_append.1 hb).elim (fun hb => (((hS57.get (i := 1) rfl).2.1 b hb).1)) (fun hb => (((hS57.get (i := 2) rfl).2.1 b hb).1))))) rfl rfl (WH.tk 11 rfl hP hSW58 (pr_build (zs := [(.int .i64 0), (.int .i64 0), (.int .i64 0)]) (out := [(.int .i64 u51), (.int .i64 u64.1), (.int .i64 u64.2)]) (vs := [(.int .i64 u51), (.agg #[(.int .i64 u64.1), (.int .i64 u64.2)])]) (css := [[(.int .i64 u51)], [(.int .i64 u64.1), (.int .i64 u64.2)]]) tf_101 pl_101 rfl rfl rfl rfl rfl (WH.many (is := [1, 12]) (by kernel_rfl) rfl (List.forall_mem_cons.2 ⟨⟨_, rfl, ?_⟩, List.forall_mem_cons.2 ⟨⟨_, rfl, ?_⟩, fun _ h => by cases h⟩⟩)))))
    ·
     refine wl_load_blk (i := 2) (vs := [v31]) (v := v31) tf_46 rfl rfl hS57 rfl rfl rfl (WL.nil (WH.ret hSW58 (WH.on1 12 rfl (wl_lit (vs := [(.agg #[(.int .i64 u51), (.int .i64 u64.1), (.int .i64 u64.2)])]) (l := [(u51, u64)]) fl_101 Tryz.underlying46 rfl rfl rfl rfl rfl rfl (Below.self w54) (Sep.nil _ _) ?_))))
     intro v67 F68 w69 hb70 hB73 hM74
     have hB71 := hB56.trans (hb70.mono hB56.size)
     have hS72 := hS57.join hb70 hM74 hB56.size
     have hSW76 := hSW58.ext hb70
     refine WL.nil (WH.ret hSW76 (WH.on1 13 rfl ?_))
     obtain ⟨u78, hu78, hF⟩ := bindE hF
     refine wl_append (i := 2) (S := (· < w69.heap.size)) fl_101 Tryz.underlying46 rfl rfl rfl hB71 hS72 rfl (hS72.own_ro (i := 0) rfl) hu78 ?_
     intro v79 F80 w81 hk82 hB83 hS84
     have hSW85 := hSW76.wr' hk82.1 hk82.2.1 (fun _ _ h => List.mem_append_left _ (h))
     refine WL.nil (WH.ret hSW85 (WH.tk 14 rfl hP hSW85 (pr_field (o := 3) (off' := 3) ff_48_2 rfl rfl rfl (WH.on1 15 rfl (wl_store_blk (i := 3) (vs := [v79]) (cs' := [(.int .i64 x2), (.int .i64 u13.1), (.int .i64 u13.2), v79]) tf_46 rfl rfl (cells_one (hS84.own_ro (i := 2) rfl).one) rfl hB83 hS84 rfl rfl ⟨(hS84.own_ro (i := 2) rfl).one, trivial⟩ rfl ?_)))))
     intro w87 hk90 hB88 hS89
     have hSW91 := hSW85.wr' hk90.1 hk90.2.1 (fun _ _ h => List.mem_append_right _ h)
     refine WL.nil (WH.ret hSW91 (WH.done (by kernel_rfl) ?_))
     exact fun a ha => hJ49 (u78) (v79) (F80) _ hF hB88 (hS89.sel [1, 2, 3] rfl) a (ha.sub ⟨rfl, rfl, rfl, rfl, rfl, rfl, rfl, trivial⟩)
    ·
     refine wl_lit (vs := [(.agg #[(.int .i64 u51), (.int .i64 u64.1), (.int .i64 u64.2)])]) (l := [(u51, u64)]) fl_101 Tryz.underlying46 rfl rfl rfl rfl rfl rfl (Below.self w54) (Sep.nil _ _) ?_
     intro v93 F94 w95 hb96 hB99 hM100
     have hB97 := hB56.trans (hb96.mono hB56.size)
     have hS98 := hS57.join hb96 hM100 hB56.size
     have hSW102 := hSW58.ext hb96
     refine WL.nil (WH.ret hSW102 (WH.on1 1 rfl (wl_load_blk (i := 3) (vs := [v31]) (v := v31) tf_46 rfl rfl hS98 rfl rfl rfl (WL.nil (WH.ret hSW102 (WH.on1 13 rfl ?_))))))
     obtain ⟨u104, hu104, hF⟩ := bindE hF
     refine wl_append (i := 2) (S := (· < w95.heap.size)) fl_101 Tryz.underlying46 rfl rfl rfl hB97 hS98 rfl (hS98.own_ro (i := 0) rfl) hu104 ?_
     intro v105 F106 w107 hk108 hB109 hS110
     have hSW111 := hSW102.wr' hk108.1 hk108.2.1 (fun _ _ h => List.mem_append_left _ (h))
     refine WL.nil (WH.ret hSW111 (WH.tk 14 rfl hP hSW111 (pr_field (o := 3) (off' := 3) ff_48_2 rfl rfl rfl (WH.on1 15 rfl (wl_store_blk (i := 3) (vs := [v105]) (cs' := [(.int .i64 x2), (.int .i64 u13.1), (.int .i64 u13.2), v105]) tf_46 rfl rfl (cells_one (hS110.own_ro (i := 2) rfl).one) rfl hB109 hS110 rfl rfl ⟨(hS110.own_ro (i := 2) rfl).one, trivial⟩ rfl ?_)))))
     intro w113 hk116 hB114 hS115
     have hSW117 := hSW111.wr' hk116.1 hk116.2.1 (fun _ _ h => List.mem_append_right _ h)
     refine WL.nil (WH.ret hSW117 (WH.done (by kernel_rfl) ?_))
     exact fun a ha => hJ49 (u104) (v105) (F106) _ hF hB114 (hS115.sel [1, 2, 3] rfl) a (ha.sub ⟨rfl, rfl, rfl, rfl, rfl, rfl, rfl, trivial⟩)
   ·replace hF := ifN h40 hF
    refine W.exit fun a ha => hK25 _ _ (W.seq fun K119 hK119 => (W.region (wl_load_blk (i := 2) (vs := [(.int .i64 x2), (.int .i64 u13.1), (.int .i64 u13.2), v31]) (v := (.agg #[(.int .i64 x2), (.int .i64 u13.1), (.int .i64 u13.2), v31])) tf_48 rfl rfl hS29 rfl rfl rfl (wl_store_blk (i := 0) (vs := [(.int .i64 x2), (.int .i64 u13.1), (.int .i64 u13.2), v31]) (cs' := [(.int .i64 x2), (.int .i64 u13.1), (.int .i64 u13.2), v31]) tf_48 rfl rfl rfl rfl hB28 hS29 rfl rfl ⟨rfl, rfl, rfl, (hS29.own_ro (i := 1) rfl).one, trivial⟩ rfl ?_)))) a ha
    intro w120 hk123 hB121 hS122
    refine WL.nil fun a ha => hK119 _ _ (W.ret ?_) a ha
    have hr := Option.some.inj hF
    subst hr
    exact rets (vs := [(.agg #[(.int .i64 x2), (.int .i64 u13.1), (.int .i64 u13.2), v31])]) hQ rfl ⟨rv_cell (i := 0) tf_48 rfl hS122 rfl rfl rfl, trivial⟩ ⟨v31, F32, rfl, hB121, hS122.sel [1] rfl⟩
theorem C_spec_PublishSheets (w0 : World) (x0 : ((List (List (Int × Int))) × (List Int) × Int × Int)) (v0_0 : Value) (h0_0 : rdS ty_51 (· < w0.heap.size) w0 v0_0 x0.1) (v0_1 : Value) (h0_1 : rdS ty_3 (· < w0.heap.size) w0 v0_1 x0.2.1) (r : ((List (Int × (Int × Int) × (List (Int × (Int × Int))))) × Bool)) (hF : F_spec_PublishSheets x0 = some r) :
  Calls Tryz.prog 7 [(.agg #[v0_0, v0_1, (.int .i64 x0.2.2.1), (.int .i64 x0.2.2.2)])].toArray w0 fun e w' => ∃ (q0 : Value) (G0 : List Nat), e = .returned (.tuple #[q0, (.bool r.2)]) ∧ Below w0.heap.size w0 w' ∧ Sep w0.heap.size w' [R.own ty_48 G0 q0 r.1] := by
 refine calls_mk' Tryz.func7 rfl Tryz.ntmps7 rfl rfl fun Q hQ hP => ?_
 have hB : Below w0.heap.size w0 w0 := Below.refl _ _
 have hS : Sep w0.heap.size w0 [] := Sep.nil _ _
 unfold F_spec_PublishSheets at hF
 refine W.seq fun K1 hK1 => W.region (wl_box (cs := [v0_0, v0_1, (.int .i64 x0.2.2.1), (.int .i64 x0.2.2.2)]) rfl rfl rfl hB hS ?_)
 intro b2 w3 hb4 hB5 hS6
 refine wl_assign rfl rfl (wl_assign rfl rfl (WL.nil (fun a ha => hK1 _ _ (W.seq fun K7 hK7 => (W.seq fun K8 hK8 => ?_)) a ha)))
 obtain ⟨k13, hk13, hF⟩ := jE1 hF
 have hJ14 : ∀ (y12 : Bool) (w9 : World) (_ : k13 y12 = some r) (_ : Below w0.heap.size w0 w9) (_ : Sep w0.heap.size w9 [R.blk b2 27 [v0_0, v0_1, (.int .i64 x0.2.2.1), (.int .i64 x0.2.2.2)]]), ∀ a, St 34 [(1, (.pointer (some ⟨b2, 0, none⟩))), (14, (.bool y12))] a → K8 a w9 := by
  intro y12 w9 hF hB10 hS11
  subst hk13
  refine fun a ha => hK8 _ _ (W.cond rfl (fun h15 => ?_) (fun h15 => ?_)) a ha
  ·replace hF := ifP h15 hF
   refine W.seq fun K16 hK16 => W.region (wl_assign rfl rfl (wl_assign rfl rfl (WL.nil (fun a ha => hK16 _ _ (W.ret ?_) a ha))))
   have hS17 := hS11.push0 (r := R.own ty_48 [] (.slice none 0 0) []) rfl fun _ => .inl ⟨rfl, rfl, rfl⟩
   have hr := Option.some.inj hF
   subst hr
   exact rets (vs := [(.slice none 0 0), (.bool false)]) hQ rfl ⟨rv_tmp rfl, rv_tmp rfl, trivial⟩ ⟨(.slice none 0 0), [], rfl, hB10, hS17.sel [0] rfl⟩
  ·replace hF := ifN h15 hF
   refine W.skip fun a ha => hK7 _ _ (W.seq fun K18 hK18 => (W.region (wl_assign rfl rfl (WL.nil (fun a ha => hK18 _ _ (W.seq fun K19 hK19 => (W.seq fun K20 hK20 => (W.region (wl_field (o := 0) (off' := 0) ff_27_0 rfl rfl rfl (wl_load_blk (i := 0) (vs := [v0_0]) (v := v0_0) tf_24 rfl rfl hS11 rfl rfl rfl ?_))))) a ha))))) a ha
   obtain ⟨u21, hu21, hF⟩ := bindE hF
   refine wl_index (e := ty_51) Tryz.underlying24 rfl rfl rfl h0_0 hu21 ?_
   rintro p22 _ ⟨v24, rfl, hv25⟩ hp23
   refine wl_load_p (vs := [v24]) (v := v24) tf_51 rfl rfl (hp23.ro hB10) rfl rfl (wl_lenr (e := ty_38) (l := u21) Tryz.underlying51 rfl rfl hv25 (wl_move rfl rfl (WL.nil (fun a ha => hK20 _ _ (W.block (W.loopk (fun m a w26 => ∃ (l29 : (List (Int × (Int × Int) × (List (Int × (Int × Int)))))) (y32 : Int) (v30 : Value) (F31 : List Nat), St 34 [(1, (.pointer (some ⟨b2, 0, none⟩))), (4, v30), (19, (.int .i64 (List.length u21 : Int))), (20, (.int .i64 y32))] a ∧ Below w0.heap.size w0 w26 ∧ Sep w0.heap.size w26 [R.blk b2 27 [v0_0, v0_1, (.int .i64 x0.2.2.1), (.int .i64 x0.2.2.2)], R.own ty_48 F31 v30 l29] ∧ F_spec_PublishSheets_L1 u21 x0 m l29 y32 = some r) FU ?_ ?_)) a ha))))
   ·
    have hS34 := hS11.push0 (r := R.own ty_48 [] (.slice none 0 0) []) rfl fun _ => .inl ⟨rfl, rfl, rfl⟩
    exact fun a ha => ⟨[], 0, (.slice none 0 0), [], ha.sub ⟨rfl, rfl, rfl, rfl, trivial⟩, hB10, (hS34.sel [1, 0] rfl), hF⟩
   ·
    rintro m36 a w26 ⟨l29, y32, v30, F31, ha, hB27, hS28, hF⟩ KL35 hKL35
    refine W.at ?_ ha
    cases m36 with
    | zero => exact noneE hF
    | succ m36 =>
     obtain ⟨nx33, hnx33⟩ : ∃ k, k = F_spec_PublishSheets_L1 u21 x0 m36 := ⟨_, rfl⟩
     rw [F_spec_PublishSheets_L1, ← hnx33] at hF
     refine W.seq fun K37 hK37 => W.region (wl_lss rfl rfl rfl (WL.nil (fun a ha => hK37 _ _ (W.seq fun K38 hK38 => (W.cond rfl (fun h39 => ?_) (fun h39 => ?_))) a ha)))
     ·replace hF := ifP h39 hF
      refine W.skip fun a ha => hK38 _ _ (W.seq fun K40 hK40 => (W.block (W.seq fun K41 hK41 => (W.region (wl_move rfl rfl (wl_assign rfl rfl (WL.nil (fun a ha => hK41 _ _ (W.region (wl_move rfl rfl (wl_field (o := 0) (off' := 0) ff_27_0 rfl rfl rfl (wl_load_blk (i := 0) (vs := [v0_0]) (v := v0_0) tf_24 rfl rfl hS28 rfl rfl rfl ?_)))) a ha)))))))) a ha
      refine wl_field (o := 1) (off' := 1) ff_27_1 rfl rfl rfl (wl_load_blk (i := 0) (vs := [v0_1]) (v := v0_1) tf_25 rfl rfl hS28 rfl rfl rfl (wl_move rfl rfl ?_))
      obtain ⟨u42, hu42, hF⟩ := bindE hF
      refine wl_call rfl Tryz.call32 (C_spec_shOf w26 x0.1 v0_0 (h0_0.ro hB27) x0.2.1 v0_1 (h0_1.ro hB27) y32 _ hu42) rfl ?_
      rintro _ w45 ⟨v43, F44, rfl, hb46, hM49⟩
      refine ⟨_, rfl, ?_⟩
      have hB47 := hB27.trans (hb46.mono hB27.size)
      have hS48 := hS28.join hb46 hM49 hB27.size
      have hq50 := hS48.sel [0, 1, 2] rfl
      have hq51 := hq50.head (r' := R.cel ty_48 F44 [(.int .i64 u42.1), (.int .i64 u42.2.1.1), (.int .i64 u42.2.1.2), v43] u42) (rfl) fun _ h0 => ⟨[(.int .i64 u42.1)], [(.int .i64 u42.2.1.1), (.int .i64 u42.2.1.2), v43], [], F44, rfl, rfl, ⟨rfl, rfl⟩, ⟨[(.int .i64 u42.2.1.1), (.int .i64 u42.2.1.2)], [v43], [], F44, rfl, rfl, ⟨rfl, rfl⟩, ⟨_, rfl, h0⟩⟩⟩
      refine wl_lit1 (e := ty_48) (vs := [(.int .i64 u42.1), (.int .i64 u42.2.1.1), (.int .i64 u42.2.1.2), v43]) Tryz.underlying29 rfl rfl rfl rfl hB47 hq51 ?_
      intro v52 F53 w54 hb55 hf56 hB57 hS58
      obtain ⟨u59, hu59, hF⟩ := bindE hF
      refine wl_appendn (e := ty_48) Tryz.underlying29 rfl rfl rfl hB57 (hS58.sel [2, 0, 1] rfl) hu59 ?_
      intro v60 F61 w62 hk63 hB64 hS65
      refine wl_assign rfl rfl (WL.nil (fun a ha => hK40 _ _ (W.region (wl_add rfl rfl rfl (wl_move rfl rfl (WL.nil ?_)))) a ha))
      rw [hnx33] at hF
      exact fun a ha => hKL35 a _ m36 (Nat.lt_succ_self m36) ⟨u59, (w64 (y32 + 1)), v60, F61, ha.sub ⟨rfl, rfl, rfl, rfl, trivial⟩, hB64, (hS65.sel [1, 0] rfl), hF⟩
     ·replace hF := ifN h39 hF
      refine W.exit fun a ha => hK19 _ _ (W.seq fun K66 hK66 => (W.region (wl_move rfl rfl (wl_assign rfl rfl (wl_assign rfl rfl (WL.nil (fun a ha => hK66 _ _ (W.ret ?_) a ha))))))) a ha
      have hr := Option.some.inj hF
      subst hr
      exact rets (vs := [v30, (.bool true)]) hQ rfl ⟨rv_tmp rfl, rv_tmp rfl, trivial⟩ ⟨v30, F31, rfl, hB27, hS28.sel [1] rfl⟩
 refine W.region (wl_load_blk (i := 0) (vs := [v0_0, v0_1, (.int .i64 x0.2.2.1), (.int .i64 x0.2.2.2)]) (v := (.agg #[v0_0, v0_1, (.int .i64 x0.2.2.1), (.int .i64 x0.2.2.2)])) tf_27 rfl rfl hS6 rfl rfl rfl ?_)
 obtain ⟨u67, hu67, hF⟩ := bindE hF
 refine wl_call rfl Tryz.call30 (C_spec_swGood w3 x0 v0_0 (h0_0.ro hB5) v0_1 (h0_1.ro hB5) _ hu67) rfl ?_
 rintro _ w68 ⟨rfl, hb69⟩
 refine ⟨_, rfl, ?_⟩
 have hB70 := hB5.trans (hb69.mono hB5.size)
 have hS71 := hS6.below hb69
 refine wl_not rfl rfl (wl_move rfl rfl ?_)
 rcases bE (!u67) with h73 | h73
 ·replace hF := ifP h73 hF
  refine wl_off rfl rfl rfl h73 (wl_off rfl rfl rfl h73 (wl_off rfl rfl rfl h73 (wl_off rfl rfl rfl h73 (wl_pick_t rfl rfl h73 rfl (WL.nil ?_)))))
  exact fun a ha => hJ14 (true) _ hF hB70 (hS71.sel [0] rfl) a (ha.sub ⟨rfl, rfl, trivial⟩)
 ·replace hF := ifN h73 hF
  refine wl_on rfl rfl h73 (wl_load_blk (i := 0) (vs := [v0_0, v0_1, (.int .i64 x0.2.2.1), (.int .i64 x0.2.2.2)]) (v := (.agg #[v0_0, v0_1, (.int .i64 x0.2.2.1), (.int .i64 x0.2.2.2)])) tf_27 rfl rfl hS71 rfl rfl rfl (wl_on rfl rfl h73 ?_))
  obtain ⟨u74, hu74, hF⟩ := bindE hF
  refine wl_call rfl Tryz.call31 (C_spec_swUnsafe w68 x0 v0_0 (h0_0.ro hB70) v0_1 (h0_1.ro hB70) _ hu74) rfl ?_
  rintro _ w77 ⟨v75, F76, rfl, hb78, hM81⟩
  refine ⟨_, rfl, ?_⟩
  have hB79 := hB70.trans (hb78.mono hB70.size)
  have hS80 := hS71.join hb78 hM81 hB70.size
  refine wl_on rfl rfl h73 (wl_lenr (e := ty_3) (l := u74) Tryz.underlying25 rfl rfl (hS80.own_ro (i := 0) rfl) (wl_on rfl rfl h73 (wl_gtr rfl rfl rfl (wl_pick_f rfl rfl h73 rfl (WL.nil ?_)))))
  exact fun a ha => hJ14 ((decide (0 < (List.length u74 : Int)))) _ hF hB79 (hS80.sel [1] rfl) a (ha.sub ⟨rfl, rfl, trivial⟩)
theorem C_laws_pSameSheet (w0 : World) (x0 : (Int × (Int × Int) × (List (Int × (Int × Int))))) (v0_0 : Value) (h0_0 : rdS ty_101 (· < w0.heap.size) w0 v0_0 x0.2.2) (x1 : (Int × (Int × Int) × (List (Int × (Int × Int))))) (v1_0 : Value) (h1_0 : rdS ty_101 (· < w0.heap.size) w0 v1_0 x1.2.2) (r : Bool) (hF : F_laws_pSameSheet x0 x1 = some r) :
  Calls Tryz.prog 18 [(.agg #[(.int .i64 x0.1), (.int .i64 x0.2.1.1), (.int .i64 x0.2.1.2), v0_0]), (.agg #[(.int .i64 x1.1), (.int .i64 x1.2.1.1), (.int .i64 x1.2.1.2), v1_0])].toArray w0 fun e w' => e = .returned (.bool r) ∧ Below w0.heap.size w0 w' := by
 refine calls_mk' Tryz.func18 rfl Tryz.ntmps18 rfl rfl fun Q hQ hP => ?_
 have hB : Below w0.heap.size w0 w0 := Below.refl _ _
 have hS : Sep w0.heap.size w0 [] := Sep.nil _ _
 unfold F_laws_pSameSheet at hF
 refine W.seq fun K1 hK1 => W.region (wl_box (cs := [(.int .i64 x0.1), (.int .i64 x0.2.1.1), (.int .i64 x0.2.1.2), v0_0]) rfl rfl rfl hB hS ?_)
 intro b2 w3 hb4 hB5 hS6
 refine wl_box (cs := [(.int .i64 x1.1), (.int .i64 x1.2.1.1), (.int .i64 x1.2.1.2), v1_0]) rfl rfl rfl hB5 hS6 ?_
 intro b7 w8 hb9 hB10 hS11
 refine wl_assign rfl rfl (WL.nil (fun a ha => hK1 _ _ (W.seq fun K12 hK12 => (W.seq fun K13 hK13 => ?_)) a ha))
 obtain ⟨k18, hk18, hF⟩ := jE1 hF
 have hJ19 : ∀ (y17 : Bool) (w14 : World) (_ : k18 y17 = some r) (_ : Below w0.heap.size w0 w14) (_ : Sep w0.heap.size w14 [R.blk b2 48 [(.int .i64 x0.1), (.int .i64 x0.2.1.1), (.int .i64 x0.2.1.2), v0_0], R.blk b7 48 [(.int .i64 x1.1), (.int .i64 x1.2.1.1), (.int .i64 x1.2.1.2), v1_0]]), ∀ a, St 45 [(2, (.pointer (some ⟨b2, 0, none⟩))), (3, (.pointer (some ⟨b7, 0, none⟩))), (26, (.bool y17))] a → K13 a w14 := by
  intro y17 w14 hF hB15 hS16
  subst hk18
  refine fun a ha => hK13 _ _ (W.cond rfl (fun h20 => ?_) (fun h20 => ?_)) a ha
  ·replace hF := ifP h20 hF
   refine W.seq fun K21 hK21 => W.region (wl_assign rfl rfl (WL.nil (fun a ha => hK21 _ _ (W.ret ?_) a ha)))
   have hr := Option.some.inj hF
   subst hr
   exact rets (vs := [(.bool false)]) hQ rfl ⟨rv_tmp rfl, trivial⟩ ⟨rfl, hB15⟩
  ·replace hF := ifN h20 hF
   refine W.skip fun a ha => hK12 _ _ (W.seq fun K22 hK22 => (W.seq fun K23 hK23 => (W.region (wl_field (o := 3) (off' := 3) ff_48_2 rfl rfl rfl (wl_load_blk (i := 0) (vs := [v0_0]) (v := v0_0) tf_46 rfl rfl hS16 rfl rfl rfl (wl_lenr (e := ty_101) (l := x0.2.2) Tryz.underlying46 rfl rfl h0_0 (wl_move rfl rfl (WL.nil (fun a ha => hK23 _ _ (W.block (W.loopk (fun m a w24 => ∃ (y27 : Int), St 45 [(2, (.pointer (some ⟨b2, 0, none⟩))), (3, (.pointer (some ⟨b7, 0, none⟩))), (29, (.int .i64 (List.length x0.2.2 : Int))), (30, (.int .i64 y27))] a ∧ Below w0.heap.size w0 w24 ∧ Sep w0.heap.size w24 [R.blk b2 48 [(.int .i64 x0.1), (.int .i64 x0.2.1.1), (.int .i64 x0.2.1.2), v0_0], R.blk b7 48 [(.int .i64 x1.1), (.int .i64 x1.2.1.1), (.int .i64 x1.2.1.2), v1_0]] ∧ F_laws_pSameSheet_L1 x0 x1 m y27 = some r) FU ?_ ?_)) a ha))))))))) a ha
   ·
    exact fun a ha => ⟨0, ha.sub ⟨rfl, rfl, rfl, rfl, trivial⟩, hB15, (hS16.sel [0, 1] rfl), hF⟩
   ·
    rintro m30 a w24 ⟨y27, ha, hB25, hS26, hF⟩ KL29 hKL29
    refine W.at ?_ ha
    cases m30 with
    | zero => exact noneE hF
    | succ m30 =>
     obtain ⟨nx28, hnx28⟩ : ∃ k, k = F_laws_pSameSheet_L1 x0 x1 m30 := ⟨_, rfl⟩
     rw [F_laws_pSameSheet_L1, ← hnx28] at hF
     refine W.seq fun K31 hK31 => W.region (wl_lss rfl rfl rfl (WL.nil (fun a ha => hK31 _ _ (W.seq fun K32 hK32 => (W.cond rfl (fun h33 => ?_) (fun h33 => ?_))) a ha)))
     ·replace hF := ifP h33 hF
      refine W.skip fun a ha => hK32 _ _ (W.seq fun K34 hK34 => (W.block (W.seq fun K35 hK35 => (W.region (wl_move rfl rfl (wl_assign rfl rfl (WL.nil (fun a ha => hK35 _ _ (W.seq fun K36 hK36 => (W.regionH mixed_ [] hB25 hS26 ?_)) a ha)))))))) a ha
      intro w37 hb38 hB39 hS40
      have hSW41 := KeepX.refl w37 []
      refine WH.tk 0 rfl hP hSW41 (pr_field (o := 3) (off' := 3) ff_48_2 rfl rfl rfl (WH.tk 1 rfl hP hSW41 (pr_load_blk (i := 0) (vs := [v0_0]) (v := v0_0) tf_46 rfl rfl hS40 rfl rfl rfl (by simp) (WH.tk 2 rfl hP hSW41 (pr_move rfl rfl ?_)))))
      obtain ⟨u42, hu42, hF⟩ := bindE hF
      refine WH.tk 3 rfl hP hSW41 (pr_index (e := ty_101) Tryz.underlying46 rfl rfl rfl h0_0 hu42 ?_)
      rintro p43 _ rfl hp44
      refine WH.tk 4 rfl hP hSW41 (pr_load_p (vs := [(.int .i64 u42.1), (.int .i64 u42.2.1), (.int .i64 u42.2.2)]) (v := (.agg #[(.int .i64 u42.1), (.int .i64 u42.2.1), (.int .i64 u42.2.2)])) tf_101 rfl rfl (hp44.kx hB39 (by simp)) rfl rfl (WH.tk 5 rfl hP hSW41 (pr_field (o := 3) (off' := 3) ff_48_2 rfl rfl rfl (WH.tk 6 rfl hP hSW41 (pr_load_blk (i := 1) (vs := [v1_0]) (v := v1_0) tf_46 rfl rfl hS40 rfl rfl rfl (by simp) (WH.tk 7 rfl hP hSW41 (pr_move rfl rfl ?_)))))))
      obtain ⟨u45, hu45, hF⟩ := bindE hF
      refine WH.tk 8 rfl hP hSW41 (pr_index (e := ty_101) Tryz.underlying46 rfl rfl rfl h1_0 hu45 ?_)
      rintro p46 _ rfl hp47
      refine WH.tk 9 rfl hP hSW41 (pr_load_p (vs := [(.int .i64 u45.1), (.int .i64 u45.2.1), (.int .i64 u45.2.2)]) (v := (.agg #[(.int .i64 u45.1), (.int .i64 u45.2.1), (.int .i64 u45.2.2)])) tf_101 rfl rfl (hp47.kx hB39 (by simp)) rfl rfl (WH.tk 10 rfl hP hSW41 (pr_nes Tryz.eqGuardType101 (eq_101 u42 u45) rfl rfl rfl (WH.done (by kernel_rfl) (fun a ha => hK36 _ _ (W.cond rfl (fun h48 => ?_) (fun h48 => ?_)) a ha)))))
      ·replace hF := ifP h48 hF
       refine W.seq fun K49 hK49 => W.region (wl_assign rfl rfl (WL.nil (fun a ha => hK49 _ _ (W.ret ?_) a ha)))
       have hr := Option.some.inj hF
       subst hr
       exact rets (vs := [(.bool false)]) hQ rfl ⟨rv_tmp rfl, trivial⟩ ⟨rfl, hB39⟩
      ·replace hF := ifN h48 hF
       refine W.skip fun a ha => hK34 _ _ (W.region (wl_add rfl rfl rfl (wl_move rfl rfl (WL.nil ?_)))) a ha
       rw [hnx28] at hF
       exact fun a ha => hKL29 a _ m30 (Nat.lt_succ_self m30) ⟨(w64 (y27 + 1)), ha.sub ⟨rfl, rfl, rfl, rfl, trivial⟩, hB39, (hS40.sel [0, 1] rfl), hF⟩
     ·replace hF := ifN h33 hF
      refine W.exit fun a ha => hK22 _ _ (W.seq fun K50 hK50 => (W.region (wl_assign rfl rfl (WL.nil (fun a ha => hK50 _ _ (W.ret ?_) a ha))))) a ha
      have hr := Option.some.inj hF
      subst hr
      exact rets (vs := [(.bool true)]) hQ rfl ⟨rv_tmp rfl, trivial⟩ ⟨rfl, hB25⟩
 refine W.region (wl_field (o := 0) (off' := 0) ff_48_0 rfl rfl rfl (wl_load_blk (i := 1) (vs := [(.int .i64 x0.1)]) (v := (.int .i64 x0.1)) tf_3 rfl rfl hS11 rfl rfl rfl (wl_field (o := 0) (off' := 0) ff_48_0 rfl rfl rfl (wl_load_blk (i := 0) (vs := [(.int .i64 x1.1)]) (v := (.int .i64 x1.1)) tf_3 rfl rfl hS11 rfl rfl rfl (wl_neq rfl rfl rfl (wl_move rfl rfl ?_))))))
 rcases bE (x0.1 != x1.1) with h51 | h51
 ·replace hF := ifP h51 hF
  refine wl_off rfl rfl rfl h51 (wl_off rfl rfl rfl h51 (wl_off rfl rfl rfl h51 (wl_off rfl rfl rfl h51 (wl_off rfl rfl rfl h51 (wl_pick_t rfl rfl h51 rfl (wl_move rfl rfl (wl_off rfl rfl rfl rfl (wl_off rfl rfl rfl rfl (wl_off rfl rfl rfl rfl (wl_off rfl rfl rfl rfl (wl_off rfl rfl rfl rfl (wl_off rfl rfl rfl rfl (wl_off rfl rfl rfl rfl ?_)))))))))))))
  refine wl_pick_t rfl rfl rfl rfl (WL.nil ?_)
  exact fun a ha => hJ19 (true) _ hF hB10 (hS11.sel [1, 0] rfl) a (ha.sub ⟨rfl, rfl, rfl, trivial⟩)
 ·replace hF := ifN h51 hF
  refine wl_on rfl rfl h51 (wl_field (o := 1) (off' := 1) ff_48_1 rfl rfl rfl (wl_on rfl rfl h51 (wl_load_blk (i := 1) (vs := [(.int .i64 x0.2.1.1), (.int .i64 x0.2.1.2)]) (v := (.agg #[(.int .i64 x0.2.1.1), (.int .i64 x0.2.1.2)])) tf_38 rfl rfl hS11 rfl rfl rfl (wl_on rfl rfl h51 (wl_field (o := 1) (off' := 1) ff_48_1 rfl rfl rfl (wl_on rfl rfl h51 (wl_load_blk (i := 0) (vs := [(.int .i64 x1.2.1.1), (.int .i64 x1.2.1.2)]) (v := (.agg #[(.int .i64 x1.2.1.1), (.int .i64 x1.2.1.2)])) tf_38 rfl rfl hS11 rfl rfl rfl (wl_on rfl rfl h51 (wl_nes Tryz.eqGuardType38 (eq_38 x0.2.1 x1.2.1) rfl rfl rfl (wl_pick_f rfl rfl h51 rfl (wl_move rfl rfl ?_)))))))))))
  rcases bE (!(eqv_Spot x0.2.1 x1.2.1)) with h52 | h52
  ·replace hF := ifP h52 hF
   refine wl_off rfl rfl rfl h52 (wl_off rfl rfl rfl h52 (wl_off rfl rfl rfl h52 (wl_off rfl rfl rfl h52 (wl_off rfl rfl rfl h52 (wl_off rfl rfl rfl h52 (wl_off rfl rfl rfl h52 (wl_pick_t rfl rfl h52 rfl (WL.nil ?_))))))))
   exact fun a ha => hJ19 (true) _ hF hB10 (hS11.sel [1, 0] rfl) a (ha.sub ⟨rfl, rfl, rfl, trivial⟩)
  ·replace hF := ifN h52 hF
   refine wl_on rfl rfl h52 (wl_field (o := 3) (off' := 3) ff_48_2 rfl rfl rfl (wl_on rfl rfl h52 (wl_load_blk (i := 1) (vs := [v0_0]) (v := v0_0) tf_46 rfl rfl hS11 rfl rfl rfl (wl_on rfl rfl h52 (wl_lenr (e := ty_101) (l := x0.2.2) Tryz.underlying46 rfl rfl h0_0 (wl_on rfl rfl h52 (wl_field (o := 3) (off' := 3) ff_48_2 rfl rfl rfl (wl_on rfl rfl h52 (wl_load_blk (i := 0) (vs := [v1_0]) (v := v1_0) tf_46 rfl rfl hS11 rfl rfl rfl (wl_on rfl rfl h52 (wl_lenr (e := ty_101) (l := x1.2.2) Tryz.underlying46 rfl rfl h1_0 (wl_on rfl rfl h52 (wl_neq rfl rfl rfl ?_)))))))))))))
   refine wl_pick_f rfl rfl h52 rfl (WL.nil ?_)
   exact fun a ha => hJ19 (((List.length x0.2.2 : Int) != (List.length x1.2.2 : Int))) _ hF hB10 (hS11.sel [1, 0] rfl) a (ha.sub ⟨rfl, rfl, rfl, trivial⟩)
theorem C_laws_pSameSheets (w0 : World) (x0 : (List (Int × (Int × Int) × (List (Int × (Int × Int)))))) (v0_0 : Value) (h0_0 : rdS ty_48 (· < w0.heap.size) w0 v0_0 x0) (x1 : (List (Int × (Int × Int) × (List (Int × (Int × Int)))))) (v1_0 : Value) (h1_0 : rdS ty_48 (· < w0.heap.size) w0 v1_0 x1) (r : Bool) (hF : F_laws_pSameSheets x0 x1 = some r) :
  Calls Tryz.prog 8 [v0_0, v1_0].toArray w0 fun e w' => e = .returned (.bool r) ∧ Below w0.heap.size w0 w' := by
 refine calls_mk' Tryz.func8 rfl Tryz.ntmps8 rfl rfl fun Q hQ hP => ?_
 have hB : Below w0.heap.size w0 w0 := Below.refl _ _
 have hS : Sep w0.heap.size w0 [] := Sep.nil _ _
 unfold F_laws_pSameSheets at hF
 refine W.seq fun K1 hK1 => W.region (wl_assign rfl rfl (WL.nil (fun a ha => hK1 _ _ (W.seq fun K2 hK2 => (W.seq fun K3 hK3 => (W.region (wl_move rfl rfl (wl_lenr (e := ty_48) (l := x0) Tryz.underlying29 rfl rfl h0_0 (wl_move rfl rfl (wl_lenr (e := ty_48) (l := x1) Tryz.underlying29 rfl rfl h1_0 (wl_neq rfl rfl rfl (WL.nil ?_))))))))) a ha)))
 refine fun a ha => hK3 _ _ (W.cond rfl (fun h4 => ?_) (fun h4 => ?_)) a ha
 ·replace hF := ifP h4 hF
  refine W.seq fun K5 hK5 => W.region (wl_assign rfl rfl (WL.nil (fun a ha => hK5 _ _ (W.ret ?_) a ha)))
  have hr := Option.some.inj hF
  subst hr
  exact rets (vs := [(.bool false)]) hQ rfl ⟨rv_tmp rfl, trivial⟩ ⟨rfl, hB⟩
 ·replace hF := ifN h4 hF
  refine W.skip fun a ha => hK2 _ _ (W.seq fun K6 hK6 => (W.seq fun K7 hK7 => (W.region (wl_move rfl rfl (wl_lenr (e := ty_48) (l := x0) Tryz.underlying29 rfl rfl h0_0 (wl_move rfl rfl (WL.nil (fun a ha => hK7 _ _ (W.block (W.loopk (fun m a w8 => ∃ (y11 : Int), St 27 [(0, v0_0), (1, v1_0), (12, (.int .i64 (List.length x0 : Int))), (13, (.int .i64 y11))] a ∧ Below w0.heap.size w0 w8 ∧ Sep w0.heap.size w8 [] ∧ F_laws_pSameSheets_L1 x0 x1 m y11 = some r) FU ?_ ?_)) a ha)))))))) a ha
  ·
   exact fun a ha => ⟨0, ha.sub ⟨rfl, rfl, rfl, rfl, trivial⟩, hB, (hS.sel [] rfl), hF⟩
  ·
   rintro m14 a w8 ⟨y11, ha, hB9, hS10, hF⟩ KL13 hKL13
   refine W.at ?_ ha
   cases m14 with
   | zero => exact noneE hF
   | succ m14 =>
    obtain ⟨nx12, hnx12⟩ : ∃ k, k = F_laws_pSameSheets_L1 x0 x1 m14 := ⟨_, rfl⟩
    rw [F_laws_pSameSheets_L1, ← hnx12] at hF
    refine W.seq fun K15 hK15 => W.region (wl_lss rfl rfl rfl (WL.nil (fun a ha => hK15 _ _ (W.seq fun K16 hK16 => (W.cond rfl (fun h17 => ?_) (fun h17 => ?_))) a ha)))
    ·replace hF := ifP h17 hF
     refine W.skip fun a ha => hK16 _ _ (W.seq fun K18 hK18 => (W.block (W.seq fun K19 hK19 => (W.region (wl_move rfl rfl (wl_assign rfl rfl (WL.nil (fun a ha => hK19 _ _ (W.seq fun K20 hK20 => (W.regionH mixed_ [] hB9 hS10 ?_)) a ha)))))))) a ha
     intro w21 hb22 hB23 hS24
     have hSW25 := KeepX.refl w21 []
     refine WH.tk 0 rfl hP hSW25 (pr_move rfl rfl (WH.tk 1 rfl hP hSW25 (pr_move rfl rfl ?_)))
     obtain ⟨u26, hu26, hF⟩ := bindE hF
     refine WH.tk 2 rfl hP hSW25 (pr_index (e := ty_48) Tryz.underlying29 rfl rfl rfl h0_0 hu26 ?_)
     rintro p27 _ ⟨_, _, rfl, rfl, ⟨_, _, rfl, rfl, ⟨v29, rfl, hv30⟩⟩⟩ hp28
     refine WH.tk 3 rfl hP hSW25 (pr_load_p (vs := [(.int .i64 u26.1), (.int .i64 u26.2.1.1), (.int .i64 u26.2.1.2), v29]) (v := (.agg #[(.int .i64 u26.1), (.int .i64 u26.2.1.1), (.int .i64 u26.2.1.2), v29])) tf_48 rfl rfl (hp28.kx hB23 (by simp)) rfl rfl (WH.tk 4 rfl hP hSW25 (pr_move rfl rfl (WH.tk 5 rfl hP hSW25 (pr_move rfl rfl ?_)))))
     obtain ⟨u31, hu31, hF⟩ := bindE hF
     refine WH.tk 6 rfl hP hSW25 (pr_index (e := ty_48) Tryz.underlying29 rfl rfl rfl h1_0 hu31 ?_)
     rintro p32 _ ⟨_, _, rfl, rfl, ⟨_, _, rfl, rfl, ⟨v34, rfl, hv35⟩⟩⟩ hp33
     refine WH.tk 7 rfl hP hSW25 (pr_load_p (vs := [(.int .i64 u31.1), (.int .i64 u31.2.1.1), (.int .i64 u31.2.1.2), v34]) (v := (.agg #[(.int .i64 u31.1), (.int .i64 u31.2.1.1), (.int .i64 u31.2.1.2), v34])) tf_48 rfl rfl (hp33.kx hB23 (by simp)) rfl rfl (WH.on1 8 rfl ?_))
     obtain ⟨u36, hu36, hF⟩ := bindE hF
     refine wl_call rfl Tryz.call18 (C_laws_pSameSheet w21 u26 v29 (hv30.ro hB23) u31 v34 (hv35.ro hB23) _ hu36) rfl ?_
     rintro _ w37 ⟨rfl, hb38⟩
     refine ⟨_, rfl, ?_⟩
     have hB39 := hB23.trans (hb38.mono hB23.size)
     have hS40 := hS24.below hb38
     have hSW42 := hSW25.ext hb38
     refine WL.nil (WH.ret hSW42 (WH.tk 9 rfl hP hSW42 (pr_not rfl rfl (WH.done (by kernel_rfl) (fun a ha => hK20 _ _ (W.cond rfl (fun h43 => ?_) (fun h43 => ?_)) a ha)))))
     ·replace hF := ifP h43 hF
      refine W.seq fun K44 hK44 => W.region (wl_assign rfl rfl (WL.nil (fun a ha => hK44 _ _ (W.ret ?_) a ha)))
      have hr := Option.some.inj hF
      subst hr
      exact rets (vs := [(.bool false)]) hQ rfl ⟨rv_tmp rfl, trivial⟩ ⟨rfl, hB39⟩
     ·replace hF := ifN h43 hF
      refine W.skip fun a ha => hK18 _ _ (W.region (wl_add rfl rfl rfl (wl_move rfl rfl (WL.nil ?_)))) a ha
      rw [hnx12] at hF
      exact fun a ha => hKL13 a _ m14 (Nat.lt_succ_self m14) ⟨(w64 (y11 + 1)), ha.sub ⟨rfl, rfl, rfl, rfl, trivial⟩, hB39, (hS40.sel [] rfl), hF⟩
    ·replace hF := ifN h17 hF
     refine W.exit fun a ha => hK6 _ _ (W.seq fun K45 hK45 => (W.region (wl_assign rfl rfl (WL.nil (fun a ha => hK45 _ _ (W.ret ?_) a ha))))) a ha
     have hr := Option.some.inj hF
     subst hr
     exact rets (vs := [(.bool true)]) hQ rfl ⟨rv_tmp rfl, trivial⟩ ⟨rfl, hB9⟩
theorem C_impl_isPart (w0 : World) (x0 : ((List (List (Int × Int))) × (List Int) × Int × Int)) (v0_0 : Value) (h0_0 : rdS ty_51 (· < w0.heap.size) w0 v0_0 x0.1) (v0_1 : Value) (h0_1 : rdS ty_3 (· < w0.heap.size) w0 v0_1 x0.2.1) (x1 : Int) (r : Bool) (hF : F_impl_isPart x0 x1 = some r) :
  Calls Tryz.prog 33 [(.agg #[v0_0, v0_1, (.int .i64 x0.2.2.1), (.int .i64 x0.2.2.2)]), (.int .i64 x1)].toArray w0 fun e w' => e = .returned (.bool r) ∧ Below w0.heap.size w0 w' := by
 refine calls_mk' Tryz.func33 rfl Tryz.ntmps33 rfl rfl fun Q hQ hP => ?_
 have hB : Below w0.heap.size w0 w0 := Below.refl _ _
 have hS : Sep w0.heap.size w0 [] := Sep.nil _ _
 unfold F_impl_isPart at hF
 refine W.seq fun K1 hK1 => W.region (wl_box (cs := [v0_0, v0_1, (.int .i64 x0.2.2.1), (.int .i64 x0.2.2.2)]) rfl rfl rfl hB hS ?_)
 intro b2 w3 hb4 hB5 hS6
 refine wl_assign rfl rfl (WL.nil (fun a ha => hK1 _ _ (W.seq fun K7 hK7 => ?_) a ha))
 obtain ⟨k12, hk12, hF⟩ := jE1 hF
 have hJ13 : ∀ (y11 : Bool) (w8 : World) (_ : k12 y11 = some r) (_ : Below w0.heap.size w0 w8) (_ : Sep w0.heap.size w8 []), ∀ a, St 15 [(4, (.bool y11))] a → K7 a w8 := by
  intro y11 w8 hF hB9 hS10
  subst hk12
  refine fun a ha => hK7 _ _ (W.ret ?_) a ha
  have hr := Option.some.inj hF
  subst hr
  exact rets (vs := [(.bool y11)]) hQ rfl ⟨rv_tmp rfl, trivial⟩ ⟨rfl, hB9⟩
 refine W.region (wl_load_blk (i := 0) (vs := [v0_0, v0_1, (.int .i64 x0.2.2.1), (.int .i64 x0.2.2.2)]) (v := (.agg #[v0_0, v0_1, (.int .i64 x0.2.2.1), (.int .i64 x0.2.2.2)])) tf_27 rfl rfl hS6 rfl rfl rfl ?_)
 obtain ⟨u14, hu14, hF⟩ := bindE hF
 refine wl_call rfl Tryz.call27 (C_impl_IsShow w3 x0 v0_0 (h0_0.ro hB5) v0_1 (h0_1.ro hB5) _ hu14) rfl ?_
 rintro _ w15 ⟨rfl, hb16⟩
 refine ⟨_, rfl, ?_⟩
 have hB17 := hB5.trans (hb16.mono hB5.size)
 have hS18 := hS6.below hb16
 refine wl_move rfl rfl ?_
 rcases bE u14 with h20 | h20
 ·replace hF := ifP h20 hF
  refine wl_on rfl rfl h20 (wl_move rfl rfl (wl_on rfl rfl h20 (wl_field (o := 1) (off' := 1) ff_27_1 rfl rfl rfl (wl_on rfl rfl h20 (wl_load_blk (i := 0) (vs := [v0_1]) (v := v0_1) tf_25 rfl rfl hS18 rfl rfl rfl (wl_on rfl rfl h20 (wl_lenr (e := ty_3) (l := x0.2.1) Tryz.underlying25 rfl rfl h0_1 (wl_on rfl rfl h20 (wl_sub rfl rfl rfl (wl_on rfl rfl h20 ?_))))))))))
  obtain ⟨u21, hu21, hF⟩ := bindE hF
  refine wl_call rfl Tryz.call38 (C_impl_within w15 x1 0 (w64 ((List.length x0.2.1 : Int) - 1)) _ hu21) rfl ?_
  rintro _ w22 ⟨rfl, hb23⟩
  refine ⟨_, rfl, ?_⟩
  have hB24 := hB17.trans (hb23.mono hB17.size)
  have hS25 := hS18.below hb23
  refine wl_pick_t rfl rfl h20 rfl (wl_assign rfl rfl (WL.nil ?_))
  exact fun a ha => hJ13 (u21) _ hF hB24 (hS25.sel [] rfl) a (ha.sub ⟨rfl, trivial⟩)
 ·replace hF := ifN h20 hF
  refine wl_off rfl rfl rfl h20 (wl_off rfl rfl rfl h20 (wl_off rfl rfl rfl h20 (wl_off rfl rfl rfl h20 (wl_off rfl rfl rfl h20 (wl_off rfl rfl rfl h20 (wl_pick_f rfl rfl h20 rfl (wl_assign rfl rfl (WL.nil ?_))))))))
  exact fun a ha => hJ13 (false) _ hF hB17 (hS18.sel [] rfl) a (ha.sub ⟨rfl, trivial⟩)
theorem C_impl_ShowMoves (w0 : World) (x0 : ((List (List (Int × Int))) × (List Int) × Int × Int)) (v0_0 : Value) (h0_0 : rdS ty_51 (· < w0.heap.size) w0 v0_0 x0.1) (v0_1 : Value) (h0_1 : rdS ty_3 (· < w0.heap.size) w0 v0_1 x0.2.1) (x1 : Int) (r : ((List ((Int × Int) × (Int × Int) × Int)) × Bool)) (hF : F_impl_ShowMoves x0 x1 = some r) :
  Calls Tryz.prog 9 [(.agg #[v0_0, v0_1, (.int .i64 x0.2.2.1), (.int .i64 x0.2.2.2)]), (.int .i64 x1)].toArray w0 fun e w' => ∃ (q0 : Value) (G0 : List Nat), e = .returned (.tuple #[q0, (.bool r.2)]) ∧ Below w0.heap.size w0 w' ∧ Sep w0.heap.size w' [R.own ty_40 G0 q0 r.1] := by
 refine calls_mk' Tryz.func9 rfl Tryz.ntmps9 rfl rfl fun Q hQ hP => ?_
 have hB : Below w0.heap.size w0 w0 := Below.refl _ _
 have hS : Sep w0.heap.size w0 [] := Sep.nil _ _
 unfold F_impl_ShowMoves at hF
 refine W.seq fun K1 hK1 => W.region (wl_box (cs := [v0_0, v0_1, (.int .i64 x0.2.2.1), (.int .i64 x0.2.2.2)]) rfl rfl rfl hB hS ?_)
 intro b2 w3 hb4 hB5 hS6
 refine wl_assign rfl rfl (wl_assign rfl rfl (WL.nil (fun a ha => hK1 _ _ (W.seq fun K7 hK7 => (W.seq fun K8 hK8 => (W.region (wl_load_blk (i := 0) (vs := [v0_0, v0_1, (.int .i64 x0.2.2.1), (.int .i64 x0.2.2.2)]) (v := (.agg #[v0_0, v0_1, (.int .i64 x0.2.2.1), (.int .i64 x0.2.2.2)])) tf_27 rfl rfl hS6 rfl rfl rfl (wl_move rfl rfl ?_))))) a ha)))
 obtain ⟨u9, hu9, hF⟩ := bindE hF
 refine wl_call rfl Tryz.call33 (C_impl_isPart w3 x0 v0_0 (h0_0.ro hB5) v0_1 (h0_1.ro hB5) x1 _ hu9) rfl ?_
 rintro _ w10 ⟨rfl, hb11⟩
 refine ⟨_, rfl, ?_⟩
 have hB12 := hB5.trans (hb11.mono hB5.size)
 have hS13 := hS6.below hb11
 refine wl_not rfl rfl (WL.nil (fun a ha => hK8 _ _ (W.cond rfl (fun h15 => ?_) (fun h15 => ?_)) a ha))
 ·replace hF := ifP h15 hF
  refine W.seq fun K16 hK16 => W.region (wl_assign rfl rfl (wl_assign rfl rfl (WL.nil (fun a ha => hK16 _ _ (W.ret ?_) a ha))))
  have hS17 := hS13.push0 (r := R.own ty_40 [] (.slice none 0 0) []) rfl fun _ => .inl ⟨rfl, rfl, rfl⟩
  have hr := Option.some.inj hF
  subst hr
  exact rets (vs := [(.slice none 0 0), (.bool false)]) hQ rfl ⟨rv_tmp rfl, rv_tmp rfl, trivial⟩ ⟨(.slice none 0 0), [], rfl, hB12, hS17.sel [0] rfl⟩
 ·replace hF := ifN h15 hF
  refine W.skip fun a ha => hK7 _ _ (W.seq fun K18 hK18 => (W.region (wl_load_blk (i := 0) (vs := [v0_0, v0_1, (.int .i64 x0.2.2.1), (.int .i64 x0.2.2.2)]) (v := (.agg #[v0_0, v0_1, (.int .i64 x0.2.2.1), (.int .i64 x0.2.2.2)])) tf_27 rfl rfl hS13 rfl rfl rfl (wl_move rfl rfl ?_)))) a ha
  obtain ⟨u19, hu19, hF⟩ := bindE hF
  refine wl_call rfl Tryz.call34 (C_impl_showMoves w10 x0 v0_0 (h0_0.ro hB12) v0_1 (h0_1.ro hB12) x1 _ hu19) rfl ?_
  rintro _ w22 ⟨v20, F21, rfl, hb23, hM26⟩
  refine ⟨_, rfl, ?_⟩
  have hB24 := hB12.trans (hb23.mono hB12.size)
  have hS25 := hS13.join hb23 hM26 hB12.size
  refine wl_assign rfl rfl (wl_assign rfl rfl (WL.nil (fun a ha => hK18 _ _ (W.ret ?_) a ha)))
  have hr := Option.some.inj hF
  subst hr
  exact rets (vs := [v20, (.bool true)]) hQ rfl ⟨rv_tmp rfl, rv_tmp rfl, trivial⟩ ⟨v20, F21, rfl, hB24, hS25.sel [0] rfl⟩
theorem C_spec_swHas (w0 : World) (x0 : ((List (List (Int × Int))) × (List Int) × Int × Int)) (v0_0 : Value) (h0_0 : rdS ty_51 (· < w0.heap.size) w0 v0_0 x0.1) (v0_1 : Value) (h0_1 : rdS ty_3 (· < w0.heap.size) w0 v0_1 x0.2.1) (x1 : Int) (r : Bool) (hF : F_spec_swHas x0 x1 = some r) :
  Calls Tryz.prog 35 [(.agg #[v0_0, v0_1, (.int .i64 x0.2.2.1), (.int .i64 x0.2.2.2)]), (.int .i64 x1)].toArray w0 fun e w' => e = .returned (.bool r) ∧ Below w0.heap.size w0 w' := by
 refine calls_mk' Tryz.func35 rfl Tryz.ntmps35 rfl rfl fun Q hQ hP => ?_
 have hB : Below w0.heap.size w0 w0 := Below.refl _ _
 have hS : Sep w0.heap.size w0 [] := Sep.nil _ _
 unfold F_spec_swHas at hF
 refine W.seq fun K1 hK1 => W.region (wl_box (cs := [v0_0, v0_1, (.int .i64 x0.2.2.1), (.int .i64 x0.2.2.2)]) rfl rfl rfl hB hS ?_)
 intro b2 w3 hb4 hB5 hS6
 refine wl_assign rfl rfl (WL.nil (fun a ha => hK1 _ _ (W.seq fun K7 hK7 => ?_) a ha))
 obtain ⟨k12, hk12, hF⟩ := jE1 hF
 have hJ13 : ∀ (y11 : Bool) (w8 : World) (_ : k12 y11 = some r) (_ : Below w0.heap.size w0 w8) (_ : Sep w0.heap.size w8 []), ∀ a, St 15 [(4, (.bool y11))] a → K7 a w8 := by
  intro y11 w8 hF hB9 hS10
  subst hk12
  refine fun a ha => hK7 _ _ (W.ret ?_) a ha
  have hr := Option.some.inj hF
  subst hr
  exact rets (vs := [(.bool y11)]) hQ rfl ⟨rv_tmp rfl, trivial⟩ ⟨rfl, hB9⟩
 refine W.region (wl_load_blk (i := 0) (vs := [v0_0, v0_1, (.int .i64 x0.2.2.1), (.int .i64 x0.2.2.2)]) (v := (.agg #[v0_0, v0_1, (.int .i64 x0.2.2.1), (.int .i64 x0.2.2.2)])) tf_27 rfl rfl hS6 rfl rfl rfl ?_)
 obtain ⟨u14, hu14, hF⟩ := bindE hF
 refine wl_call rfl Tryz.call30 (C_spec_swGood w3 x0 v0_0 (h0_0.ro hB5) v0_1 (h0_1.ro hB5) _ hu14) rfl ?_
 rintro _ w15 ⟨rfl, hb16⟩
 refine ⟨_, rfl, ?_⟩
 have hB17 := hB5.trans (hb16.mono hB5.size)
 have hS18 := hS6.below hb16
 refine wl_move rfl rfl ?_
 rcases bE u14 with h20 | h20
 ·replace hF := ifP h20 hF
  refine wl_on rfl rfl h20 (wl_move rfl rfl (wl_on rfl rfl h20 (wl_field (o := 1) (off' := 1) ff_27_1 rfl rfl rfl (wl_on rfl rfl h20 (wl_load_blk (i := 0) (vs := [v0_1]) (v := v0_1) tf_25 rfl rfl hS18 rfl rfl rfl (wl_on rfl rfl h20 (wl_lenr (e := ty_3) (l := x0.2.1) Tryz.underlying25 rfl rfl h0_1 (wl_on rfl rfl h20 (wl_sub rfl rfl rfl (wl_on rfl rfl h20 ?_))))))))))
  obtain ⟨u21, hu21, hF⟩ := bindE hF
  refine wl_call rfl Tryz.call71 (C_spec_l1In w15 x1 0 (w64 ((List.length x0.2.1 : Int) - 1)) _ hu21) rfl ?_
  rintro _ w22 ⟨rfl, hb23⟩
  refine ⟨_, rfl, ?_⟩
  have hB24 := hB17.trans (hb23.mono hB17.size)
  have hS25 := hS18.below hb23
  refine wl_pick_t rfl rfl h20 rfl (wl_assign rfl rfl (WL.nil ?_))
  exact fun a ha => hJ13 (u21) _ hF hB24 (hS25.sel [] rfl) a (ha.sub ⟨rfl, trivial⟩)
 ·replace hF := ifN h20 hF
  refine wl_off rfl rfl rfl h20 (wl_off rfl rfl rfl h20 (wl_off rfl rfl rfl h20 (wl_off rfl rfl rfl h20 (wl_off rfl rfl rfl h20 (wl_off rfl rfl rfl h20 (wl_pick_f rfl rfl h20 rfl (wl_assign rfl rfl (WL.nil ?_))))))))
  exact fun a ha => hJ13 (false) _ hF hB17 (hS18.sel [] rfl) a (ha.sub ⟨rfl, trivial⟩)
theorem C_spec_ShowMoves (w0 : World) (x0 : ((List (List (Int × Int))) × (List Int) × Int × Int)) (v0_0 : Value) (h0_0 : rdS ty_51 (· < w0.heap.size) w0 v0_0 x0.1) (v0_1 : Value) (h0_1 : rdS ty_3 (· < w0.heap.size) w0 v0_1 x0.2.1) (x1 : Int) (r : ((List ((Int × Int) × (Int × Int) × Int)) × Bool)) (hF : F_spec_ShowMoves x0 x1 = some r) :
  Calls Tryz.prog 10 [(.agg #[v0_0, v0_1, (.int .i64 x0.2.2.1), (.int .i64 x0.2.2.2)]), (.int .i64 x1)].toArray w0 fun e w' => ∃ (q0 : Value) (G0 : List Nat), e = .returned (.tuple #[q0, (.bool r.2)]) ∧ Below w0.heap.size w0 w' ∧ Sep w0.heap.size w' [R.own ty_40 G0 q0 r.1] := by
 refine calls_mk' Tryz.func10 rfl Tryz.ntmps10 rfl rfl fun Q hQ hP => ?_
 have hB : Below w0.heap.size w0 w0 := Below.refl _ _
 have hS : Sep w0.heap.size w0 [] := Sep.nil _ _
 unfold F_spec_ShowMoves at hF
 refine W.seq fun K1 hK1 => W.region (wl_box (cs := [v0_0, v0_1, (.int .i64 x0.2.2.1), (.int .i64 x0.2.2.2)]) rfl rfl rfl hB hS ?_)
 intro b2 w3 hb4 hB5 hS6
 refine wl_assign rfl rfl (wl_assign rfl rfl (WL.nil (fun a ha => hK1 _ _ (W.seq fun K7 hK7 => (W.seq fun K8 hK8 => (W.region (wl_load_blk (i := 0) (vs := [v0_0, v0_1, (.int .i64 x0.2.2.1), (.int .i64 x0.2.2.2)]) (v := (.agg #[v0_0, v0_1, (.int .i64 x0.2.2.1), (.int .i64 x0.2.2.2)])) tf_27 rfl rfl hS6 rfl rfl rfl (wl_move rfl rfl ?_))))) a ha)))
 obtain ⟨u9, hu9, hF⟩ := bindE hF
 refine wl_call rfl Tryz.call35 (C_spec_swHas w3 x0 v0_0 (h0_0.ro hB5) v0_1 (h0_1.ro hB5) x1 _ hu9) rfl ?_
 rintro _ w10 ⟨rfl, hb11⟩
 refine ⟨_, rfl, ?_⟩
 have hB12 := hB5.trans (hb11.mono hB5.size)
 have hS13 := hS6.below hb11
 refine wl_not rfl rfl (WL.nil (fun a ha => hK8 _ _ (W.cond rfl (fun h15 => ?_) (fun h15 => ?_)) a ha))
 ·replace hF := ifP h15 hF
  refine W.seq fun K16 hK16 => W.region (wl_assign rfl rfl (wl_assign rfl rfl (WL.nil (fun a ha => hK16 _ _ (W.ret ?_) a ha))))
  have hS17 := hS13.push0 (r := R.own ty_40 [] (.slice none 0 0) []) rfl fun _ => .inl ⟨rfl, rfl, rfl⟩
  have hr := Option.some.inj hF
  subst hr
  exact rets (vs := [(.slice none 0 0), (.bool false)]) hQ rfl ⟨rv_tmp rfl, rv_tmp rfl, trivial⟩ ⟨(.slice none 0 0), [], rfl, hB12, hS17.sel [0] rfl⟩
 ·replace hF := ifN h15 hF
  refine W.skip fun a ha => hK7 _ _ (W.seq fun K18 hK18 => (W.region (wl_load_blk (i := 0) (vs := [v0_0, v0_1, (.int .i64 x0.2.2.1), (.int .i64 x0.2.2.2)]) (v := (.agg #[v0_0, v0_1, (.int .i64 x0.2.2.1), (.int .i64 x0.2.2.2)])) tf_27 rfl rfl hS13 rfl rfl rfl (wl_move rfl rfl ?_)))) a ha
  obtain ⟨u19, hu19, hF⟩ := bindE hF
  refine wl_call rfl Tryz.call36 (C_spec_swMoves w10 x0 v0_0 (h0_0.ro hB12) v0_1 (h0_1.ro hB12) x1 _ hu19) rfl ?_
  rintro _ w22 ⟨v20, F21, rfl, hb23, hM26⟩
  refine ⟨_, rfl, ?_⟩
  have hB24 := hB12.trans (hb23.mono hB12.size)
  have hS25 := hS13.join hb23 hM26 hB12.size
  refine wl_assign rfl rfl (wl_assign rfl rfl (WL.nil (fun a ha => hK18 _ _ (W.ret ?_) a ha)))
  have hr := Option.some.inj hF
  subst hr
  exact rets (vs := [v20, (.bool true)]) hQ rfl ⟨rv_tmp rfl, rv_tmp rfl, trivial⟩ ⟨v20, F21, rfl, hB24, hS25.sel [0] rfl⟩
theorem C_laws_pSameMoves (w0 : World) (x0 : (List ((Int × Int) × (Int × Int) × Int))) (v0_0 : Value) (h0_0 : rdS ty_40 (· < w0.heap.size) w0 v0_0 x0) (x1 : (List ((Int × Int) × (Int × Int) × Int))) (v1_0 : Value) (h1_0 : rdS ty_40 (· < w0.heap.size) w0 v1_0 x1) (r : Bool) (hF : F_laws_pSameMoves x0 x1 = some r) :
  Calls Tryz.prog 11 [v0_0, v1_0].toArray w0 fun e w' => e = .returned (.bool r) ∧ Below w0.heap.size w0 w' := by
 refine calls_mk' Tryz.func11 rfl Tryz.ntmps11 rfl rfl fun Q hQ hP => ?_
 have hB : Below w0.heap.size w0 w0 := Below.refl _ _
 have hS : Sep w0.heap.size w0 [] := Sep.nil _ _
 unfold F_laws_pSameMoves at hF
 refine W.seq fun K1 hK1 => W.region (wl_assign rfl rfl (WL.nil (fun a ha => hK1 _ _ (W.seq fun K2 hK2 => (W.seq fun K3 hK3 => (W.region (wl_move rfl rfl (wl_lenr (e := ty_40) (l := x0) Tryz.underlying33 rfl rfl h0_0 (wl_move rfl rfl (wl_lenr (e := ty_40) (l := x1) Tryz.underlying33 rfl rfl h1_0 (wl_neq rfl rfl rfl (WL.nil ?_))))))))) a ha)))
 refine fun a ha => hK3 _ _ (W.cond rfl (fun h4 => ?_) (fun h4 => ?_)) a ha
 ·replace hF := ifP h4 hF
  refine W.seq fun K5 hK5 => W.region (wl_assign rfl rfl (WL.nil (fun a ha => hK5 _ _ (W.ret ?_) a ha)))
  have hr := Option.some.inj hF
  subst hr
  exact rets (vs := [(.bool false)]) hQ rfl ⟨rv_tmp rfl, trivial⟩ ⟨rfl, hB⟩
 ·replace hF := ifN h4 hF
  refine W.skip fun a ha => hK2 _ _ (W.seq fun K6 hK6 => (W.seq fun K7 hK7 => (W.region (wl_move rfl rfl (wl_lenr (e := ty_40) (l := x0) Tryz.underlying33 rfl rfl h0_0 (wl_move rfl rfl (WL.nil (fun a ha => hK7 _ _ (W.block (W.loopk (fun m a w8 => ∃ (y11 : Int), St 26 [(0, v0_0), (1, v1_0), (12, (.int .i64 (List.length x0 : Int))), (13, (.int .i64 y11))] a ∧ Below w0.heap.size w0 w8 ∧ Sep w0.heap.size w8 [] ∧ F_laws_pSameMoves_L1 x0 x1 m y11 = some r) FU ?_ ?_)) a ha)))))))) a ha
  ·
   exact fun a ha => ⟨0, ha.sub ⟨rfl, rfl, rfl, rfl, trivial⟩, hB, (hS.sel [] rfl), hF⟩
  ·
   rintro m14 a w8 ⟨y11, ha, hB9, hS10, hF⟩ KL13 hKL13
   refine W.at ?_ ha
   cases m14 with
   | zero => exact noneE hF
   | succ m14 =>
    obtain ⟨nx12, hnx12⟩ : ∃ k, k = F_laws_pSameMoves_L1 x0 x1 m14 := ⟨_, rfl⟩
    rw [F_laws_pSameMoves_L1, ← hnx12] at hF
    refine W.seq fun K15 hK15 => W.region (wl_lss rfl rfl rfl (WL.nil (fun a ha => hK15 _ _ (W.seq fun K16 hK16 => (W.cond rfl (fun h17 => ?_) (fun h17 => ?_))) a ha)))
    ·replace hF := ifP h17 hF
     refine W.skip fun a ha => hK16 _ _ (W.seq fun K18 hK18 => (W.block (W.seq fun K19 hK19 => (W.region (wl_move rfl rfl (wl_assign rfl rfl (WL.nil (fun a ha => hK19 _ _ (W.seq fun K20 hK20 => (W.regionH mixed_ [] hB9 hS10 ?_)) a ha)))))))) a ha
     intro w21 hb22 hB23 hS24
     have hSW25 := KeepX.refl w21 []
     refine WH.tk 0 rfl hP hSW25 (pr_move rfl rfl (WH.tk 1 rfl hP hSW25 (pr_move rfl rfl ?_)))
     obtain ⟨u26, hu26, hF⟩ := bindE hF
     refine WH.tk 2 rfl hP hSW25 (pr_index (e := ty_40) Tryz.underlying33 rfl rfl rfl h0_0 hu26 ?_)
     rintro p27 _ rfl hp28
     refine WH.tk 3 rfl hP hSW25 (pr_load_p (vs := [(.int .i64 u26.1.1), (.int .i64 u26.1.2), (.int .i64 u26.2.1.1), (.int .i64 u26.2.1.2), (.int .i64 u26.2.2)]) (v := (.agg #[(.int .i64 u26.1.1), (.int .i64 u26.1.2), (.int .i64 u26.2.1.1), (.int .i64 u26.2.1.2), (.int .i64 u26.2.2)])) tf_40 rfl rfl (hp28.kx hB23 (by simp)) rfl rfl (WH.tk 4 rfl hP hSW25 (pr_move rfl rfl (WH.tk 5 rfl hP hSW25 (pr_move rfl rfl ?_)))))
     obtain ⟨u29, hu29, hF⟩ := bindE hF
     refine WH.tk 6 rfl hP hSW25 (pr_index (e := ty_40) Tryz.underlying33 rfl rfl rfl h1_0 hu29 ?_)
     rintro p30 _ rfl hp31
     refine WH.tk 7 rfl hP hSW25 (pr_load_p (vs := [(.int .i64 u29.1.1), (.int .i64 u29.1.2), (.int .i64 u29.2.1.1), (.int .i64 u29.2.1.2), (.int .i64 u29.2.2)]) (v := (.agg #[(.int .i64 u29.1.1), (.int .i64 u29.1.2), (.int .i64 u29.2.1.1), (.int .i64 u29.2.1.2), (.int .i64 u29.2.2)])) tf_40 rfl rfl (hp31.kx hB23 (by simp)) rfl rfl (WH.tk 8 rfl hP hSW25 (pr_nes Tryz.eqGuardType40 (eq_40 u26 u29) rfl rfl rfl (WH.done (by kernel_rfl) (fun a ha => hK20 _ _ (W.cond rfl (fun h32 => ?_) (fun h32 => ?_)) a ha)))))
     ·replace hF := ifP h32 hF
      refine W.seq fun K33 hK33 => W.region (wl_assign rfl rfl (WL.nil (fun a ha => hK33 _ _ (W.ret ?_) a ha)))
      have hr := Option.some.inj hF
      subst hr
      exact rets (vs := [(.bool false)]) hQ rfl ⟨rv_tmp rfl, trivial⟩ ⟨rfl, hB23⟩
     ·replace hF := ifN h32 hF
      refine W.skip fun a ha => hK18 _ _ (W.region (wl_add rfl rfl rfl (wl_move rfl rfl (WL.nil ?_)))) a ha
      rw [hnx12] at hF
      exact fun a ha => hKL13 a _ m14 (Nat.lt_succ_self m14) ⟨(w64 (y11 + 1)), ha.sub ⟨rfl, rfl, rfl, rfl, trivial⟩, hB23, (hS24.sel [] rfl), hF⟩
    ·replace hF := ifN h17 hF
     refine W.exit fun a ha => hK6 _ _ (W.seq fun K34 hK34 => (W.region (wl_assign rfl rfl (WL.nil (fun a ha => hK34 _ _ (W.ret ?_) a ha))))) a ha
     have hr := Option.some.inj hF
     subst hr
     exact rets (vs := [(.bool true)]) hQ rfl ⟨rv_tmp rfl, trivial⟩ ⟨rfl, hB9⟩
theorem C_impl_IsMove (w0 : World) (x0 : ((Int × Int) × (Int × Int) × Int)) (r : Bool) (hF : F_impl_IsMove x0 = some r) :
  Calls Tryz.prog 37 [(.agg #[(.int .i64 x0.1.1), (.int .i64 x0.1.2), (.int .i64 x0.2.1.1), (.int .i64 x0.2.1.2), (.int .i64 x0.2.2)])].toArray w0 fun e w' => e = .returned (.bool r) ∧ Below w0.heap.size w0 w' := by
 refine calls_mk' Tryz.func37 rfl Tryz.ntmps37 rfl rfl fun Q hQ hP => ?_
 have hB : Below w0.heap.size w0 w0 := Below.refl _ _
 have hS : Sep w0.heap.size w0 [] := Sep.nil _ _
 unfold F_impl_IsMove at hF
 refine W.seq fun K1 hK1 => W.region (wl_box (cs := [(.int .i64 x0.1.1), (.int .i64 x0.1.2), (.int .i64 x0.2.1.1), (.int .i64 x0.2.1.2), (.int .i64 x0.2.2)]) rfl rfl rfl hB hS ?_)
 intro b2 w3 hb4 hB5 hS6
 refine wl_assign rfl rfl (WL.nil (fun a ha => hK1 _ _ (W.seq fun K7 hK7 => ?_) a ha))
 obtain ⟨k12, hk12, hF⟩ := jE1 hF
 have hJ13 : ∀ (y11 : Bool) (w8 : World) (_ : k12 y11 = some r) (_ : Below w0.heap.size w0 w8) (_ : Sep w0.heap.size w8 []), ∀ a, St 16 [(2, (.bool y11))] a → K7 a w8 := by
  intro y11 w8 hF hB9 hS10
  subst hk12
  refine fun a ha => hK7 _ _ (W.ret ?_) a ha
  have hr := Option.some.inj hF
  subst hr
  exact rets (vs := [(.bool y11)]) hQ rfl ⟨rv_tmp rfl, trivial⟩ ⟨rfl, hB9⟩
 refine W.region (wl_field (o := 0) (off' := 0) ff_40_0 rfl rfl rfl (wl_load_blk (i := 0) (vs := [(.int .i64 x0.1.1), (.int .i64 x0.1.2)]) (v := (.agg #[(.int .i64 x0.1.1), (.int .i64 x0.1.2)])) tf_38 rfl rfl hS6 rfl rfl rfl ?_))
 obtain ⟨u14, hu14, hF⟩ := bindE hF
 refine wl_call rfl Tryz.call77 (C_impl_IsSpot w3 x0.1 _ hu14) rfl ?_
 rintro _ w15 ⟨rfl, hb16⟩
 refine ⟨_, rfl, ?_⟩
 have hB17 := hB5.trans (hb16.mono hB5.size)
 have hS18 := hS6.below hb16
 refine wl_move rfl rfl ?_
 rcases bE u14 with h20 | h20
 ·replace hF := ifP h20 hF
  refine wl_on rfl rfl h20 (wl_field (o := 2) (off' := 2) ff_40_1 rfl rfl rfl (wl_on rfl rfl h20 (wl_load_blk (i := 0) (vs := [(.int .i64 x0.2.1.1), (.int .i64 x0.2.1.2)]) (v := (.agg #[(.int .i64 x0.2.1.1), (.int .i64 x0.2.1.2)])) tf_38 rfl rfl hS18 rfl rfl rfl (wl_on rfl rfl h20 ?_))))
  obtain ⟨u21, hu21, hF⟩ := bindE hF
  refine wl_call rfl Tryz.call77 (C_impl_IsSpot w15 x0.2.1 _ hu21) rfl ?_
  rintro _ w22 ⟨rfl, hb23⟩
  refine ⟨_, rfl, ?_⟩
  have hB24 := hB17.trans (hb23.mono hB17.size)
  have hS25 := hS18.below hb23
  refine wl_pick_t rfl rfl h20 rfl (wl_move rfl rfl ?_)
  rcases bE u21 with h27 | h27
  ·replace hF := ifP h27 hF
   refine wl_on rfl rfl h27 (wl_field (o := 4) (off' := 4) ff_40_2 rfl rfl rfl (wl_on rfl rfl h27 (wl_load_blk (i := 0) (vs := [(.int .i64 x0.2.2)]) (v := (.int .i64 x0.2.2)) tf_3 rfl rfl hS25 rfl rfl rfl (wl_on rfl rfl h27 ?_))))
   obtain ⟨u28, hu28, hF⟩ := bindE hF
   refine wl_call rfl Tryz.call38 (C_impl_within w22 x0.2.2 1 64 _ hu28) rfl ?_
   rintro _ w29 ⟨rfl, hb30⟩
   refine ⟨_, rfl, ?_⟩
   have hB31 := hB24.trans (hb30.mono hB24.size)
   have hS32 := hS25.below hb30
   refine wl_pick_t rfl rfl h27 rfl (wl_assign rfl rfl (WL.nil ?_))
   exact fun a ha => hJ13 (u28) _ hF hB31 (hS32.sel [] rfl) a (ha.sub ⟨rfl, trivial⟩)
  ·replace hF := ifN h27 hF
   refine wl_off rfl rfl rfl h27 (wl_off rfl rfl rfl h27 (wl_off rfl rfl rfl h27 (wl_pick_f rfl rfl h27 rfl (wl_assign rfl rfl (WL.nil ?_)))))
   exact fun a ha => hJ13 (false) _ hF hB24 (hS25.sel [] rfl) a (ha.sub ⟨rfl, trivial⟩)
 ·replace hF := ifN h20 hF
  refine wl_off rfl rfl rfl h20 (wl_off rfl rfl rfl h20 (wl_off rfl rfl rfl h20 (wl_pick_f rfl rfl h20 rfl (wl_move rfl rfl (wl_off rfl rfl rfl rfl (wl_off rfl rfl rfl rfl (wl_off rfl rfl rfl rfl (wl_pick_f rfl rfl rfl rfl (wl_assign rfl rfl (WL.nil ?_))))))))))
  exact fun a ha => hJ13 (false) _ hF hB17 (hS18.sel [] rfl) a (ha.sub ⟨rfl, trivial⟩)
theorem C_impl_WithinStep (w0 : World) (x0 : ((Int × Int) × (Int × Int) × Int)) (x1 : Int) (r : (Bool × Bool)) (hF : F_impl_WithinStep x0 x1 = some r) :
  Calls Tryz.prog 12 [(.agg #[(.int .i64 x0.1.1), (.int .i64 x0.1.2), (.int .i64 x0.2.1.1), (.int .i64 x0.2.1.2), (.int .i64 x0.2.2)]), (.int .i64 x1)].toArray w0 fun e w' => e = .returned (.tuple #[(.bool r.1), (.bool r.2)]) ∧ Below w0.heap.size w0 w' := by
 refine calls_mk' Tryz.func12 rfl Tryz.ntmps12 rfl rfl fun Q hQ hP => ?_
 have hB : Below w0.heap.size w0 w0 := Below.refl _ _
 have hS : Sep w0.heap.size w0 [] := Sep.nil _ _
 unfold F_impl_WithinStep at hF
 refine W.seq fun K1 hK1 => W.region (wl_box (cs := [(.int .i64 x0.1.1), (.int .i64 x0.1.2), (.int .i64 x0.2.1.1), (.int .i64 x0.2.1.2), (.int .i64 x0.2.2)]) rfl rfl rfl hB hS ?_)
 intro b2 w3 hb4 hB5 hS6
 refine wl_assign rfl rfl (wl_assign rfl rfl (WL.nil (fun a ha => hK1 _ _ (W.seq fun K7 hK7 => (W.seq fun K8 hK8 => ?_)) a ha)))
 obtain ⟨k13, hk13, hF⟩ := jE1 hF
 have hJ14 : ∀ (y12 : Bool) (w9 : World) (_ : k13 y12 = some r) (_ : Below w0.heap.size w0 w9) (_ : Sep w0.heap.size w9 [R.blk b2 40 [(.int .i64 x0.1.1), (.int .i64 x0.1.2), (.int .i64 x0.2.1.1), (.int .i64 x0.2.1.2), (.int .i64 x0.2.2)]]), ∀ a, St 17 [(1, (.int .i64 x1)), (2, (.pointer (some ⟨b2, 0, none⟩))), (13, (.bool y12))] a → K8 a w9 := by
  intro y12 w9 hF hB10 hS11
  subst hk13
  refine fun a ha => hK8 _ _ (W.cond rfl (fun h15 => ?_) (fun h15 => ?_)) a ha
  ·replace hF := ifP h15 hF
   refine W.seq fun K16 hK16 => W.region (wl_assign rfl rfl (wl_assign rfl rfl (WL.nil (fun a ha => hK16 _ _ (W.ret ?_) a ha))))
   have hr := Option.some.inj hF
   subst hr
   exact rets (vs := [(.bool false), (.bool false)]) hQ rfl ⟨rv_tmp rfl, rv_tmp rfl, trivial⟩ ⟨rfl, hB10⟩
  ·replace hF := ifN h15 hF
   refine W.skip fun a ha => hK7 _ _ (W.seq fun K17 hK17 => (W.region (wl_load_blk (i := 0) (vs := [(.int .i64 x0.1.1), (.int .i64 x0.1.2), (.int .i64 x0.2.1.1), (.int .i64 x0.2.1.2), (.int .i64 x0.2.2)]) (v := (.agg #[(.int .i64 x0.1.1), (.int .i64 x0.1.2), (.int .i64 x0.2.1.1), (.int .i64 x0.2.1.2), (.int .i64 x0.2.2)])) tf_40 rfl rfl hS11 rfl rfl rfl (wl_move rfl rfl ?_)))) a ha
   obtain ⟨u18, hu18, hF⟩ := bindE hF
   refine wl_call rfl Tryz.call39 (C_impl_withinStep w9 x0 x1 _ hu18) rfl ?_
   rintro _ w19 ⟨rfl, hb20⟩
   refine ⟨_, rfl, ?_⟩
   have hB21 := hB10.trans (hb20.mono hB10.size)
   refine wl_assign rfl rfl (wl_assign rfl rfl (WL.nil (fun a ha => hK17 _ _ (W.ret ?_) a ha)))
   have hr := Option.some.inj hF
   subst hr
   exact rets (vs := [(.bool u18), (.bool true)]) hQ rfl ⟨rv_tmp rfl, rv_tmp rfl, trivial⟩ ⟨rfl, hB21⟩
 refine W.region (wl_load_blk (i := 0) (vs := [(.int .i64 x0.1.1), (.int .i64 x0.1.2), (.int .i64 x0.2.1.1), (.int .i64 x0.2.1.2), (.int .i64 x0.2.2)]) (v := (.agg #[(.int .i64 x0.1.1), (.int .i64 x0.1.2), (.int .i64 x0.2.1.1), (.int .i64 x0.2.1.2), (.int .i64 x0.2.2)])) tf_40 rfl rfl hS6 rfl rfl rfl ?_)
 obtain ⟨u24, hu24, hF⟩ := bindE hF
 refine wl_call rfl Tryz.call37 (C_impl_IsMove w3 x0 _ hu24) rfl ?_
 rintro _ w25 ⟨rfl, hb26⟩
 refine ⟨_, rfl, ?_⟩
 have hB27 := hB5.trans (hb26.mono hB5.size)
 have hS28 := hS6.below hb26
 refine wl_not rfl rfl (wl_move rfl rfl ?_)
 rcases bE (!u24) with h30 | h30
 ·replace hF := ifP h30 hF
  refine wl_off rfl rfl rfl h30 (wl_off rfl rfl rfl h30 (wl_off rfl rfl rfl h30 (wl_pick_t rfl rfl h30 rfl (WL.nil ?_))))
  exact fun a ha => hJ14 (true) _ hF hB27 (hS28.sel [0] rfl) a (ha.sub ⟨rfl, rfl, rfl, trivial⟩)
 ·replace hF := ifN h30 hF
  refine wl_on rfl rfl h30 (wl_move rfl rfl (wl_on rfl rfl h30 ?_))
  obtain ⟨u31, hu31, hF⟩ := bindE hF
  refine wl_call rfl Tryz.call38 (C_impl_within w25 x1 1 24 _ hu31) rfl ?_
  rintro _ w32 ⟨rfl, hb33⟩
  refine ⟨_, rfl, ?_⟩
  have hB34 := hB27.trans (hb33.mono hB27.size)
  have hS35 := hS28.below hb33
  refine wl_on rfl rfl h30 (wl_not rfl rfl (wl_pick_f rfl rfl h30 rfl (WL.nil ?_)))
  exact fun a ha => hJ14 ((!u31)) _ hF hB34 (hS35.sel [0] rfl) a (ha.sub ⟨rfl, rfl, rfl, trivial⟩)
theorem C_impl_goTogether (w0 : World) (x0 : ((Int × Int) × (Int × Int) × Int)) (x1 : ((Int × Int) × (Int × Int) × Int)) (r : Bool) (hF : F_impl_goTogether x0 x1 = some r) :
  Calls Tryz.prog 40 [(.agg #[(.int .i64 x0.1.1), (.int .i64 x0.1.2), (.int .i64 x0.2.1.1), (.int .i64 x0.2.1.2), (.int .i64 x0.2.2)]), (.agg #[(.int .i64 x1.1.1), (.int .i64 x1.1.2), (.int .i64 x1.2.1.1), (.int .i64 x1.2.1.2), (.int .i64 x1.2.2)])].toArray w0 fun e w' => e = .returned (.bool r) ∧ Below w0.heap.size w0 w' := by
 refine calls_mk' Tryz.func40 rfl Tryz.ntmps40 rfl rfl fun Q hQ hP => ?_
 have hB : Below w0.heap.size w0 w0 := Below.refl _ _
 have hS : Sep w0.heap.size w0 [] := Sep.nil _ _
 unfold F_impl_goTogether at hF
 refine W.seq fun K1 hK1 => W.region (wl_box (cs := [(.int .i64 x0.1.1), (.int .i64 x0.1.2), (.int .i64 x0.2.1.1), (.int .i64 x0.2.1.2), (.int .i64 x0.2.2)]) rfl rfl rfl hB hS ?_)
 intro b2 w3 hb4 hB5 hS6
 refine wl_box (cs := [(.int .i64 x1.1.1), (.int .i64 x1.1.2), (.int .i64 x1.2.1.1), (.int .i64 x1.2.1.2), (.int .i64 x1.2.2)]) rfl rfl rfl hB5 hS6 ?_
 intro b7 w8 hb9 hB10 hS11
 refine wl_assign rfl rfl (WL.nil (fun a ha => hK1 _ _ (W.seq fun K12 hK12 => ?_) a ha))
 obtain ⟨k17, hk17, hF⟩ := jE1 hF
 have hJ18 : ∀ (y16 : Bool) (w13 : World) (_ : k17 y16 = some r) (_ : Below w0.heap.size w0 w13) (_ : Sep w0.heap.size w13 []), ∀ a, St 18 [(4, (.bool y16))] a → K12 a w13 := by
  intro y16 w13 hF hB14 hS15
  subst hk17
  refine fun a ha => hK12 _ _ (W.ret ?_) a ha
  have hr := Option.some.inj hF
  subst hr
  exact rets (vs := [(.bool y16)]) hQ rfl ⟨rv_tmp rfl, trivial⟩ ⟨rfl, hB14⟩
 refine W.region (wl_load_blk (i := 1) (vs := [(.int .i64 x0.1.1), (.int .i64 x0.1.2), (.int .i64 x0.2.1.1), (.int .i64 x0.2.1.2), (.int .i64 x0.2.2)]) (v := (.agg #[(.int .i64 x0.1.1), (.int .i64 x0.1.2), (.int .i64 x0.2.1.1), (.int .i64 x0.2.1.2), (.int .i64 x0.2.2)])) tf_40 rfl rfl hS11 rfl rfl rfl ?_)
 obtain ⟨u19, hu19, hF⟩ := bindE hF
 refine wl_call rfl Tryz.call37 (C_impl_IsMove w8 x0 _ hu19) rfl ?_
 rintro _ w20 ⟨rfl, hb21⟩
 refine ⟨_, rfl, ?_⟩
 have hB22 := hB10.trans (hb21.mono hB10.size)
 have hS23 := hS11.below hb21
 refine wl_move rfl rfl ?_
 rcases bE u19 with h25 | h25
 ·replace hF := ifP h25 hF
  refine wl_on rfl rfl h25 (wl_load_blk (i := 0) (vs := [(.int .i64 x1.1.1), (.int .i64 x1.1.2), (.int .i64 x1.2.1.1), (.int .i64 x1.2.1.2), (.int .i64 x1.2.2)]) (v := (.agg #[(.int .i64 x1.1.1), (.int .i64 x1.1.2), (.int .i64 x1.2.1.1), (.int .i64 x1.2.1.2), (.int .i64 x1.2.2)])) tf_40 rfl rfl hS23 rfl rfl rfl (wl_on rfl rfl h25 ?_))
  obtain ⟨u26, hu26, hF⟩ := bindE hF
  refine wl_call rfl Tryz.call37 (C_impl_IsMove w20 x1 _ hu26) rfl ?_
  rintro _ w27 ⟨rfl, hb28⟩
  refine ⟨_, rfl, ?_⟩
  have hB29 := hB22.trans (hb28.mono hB22.size)
  have hS30 := hS23.below hb28
  refine wl_pick_t rfl rfl h25 rfl (wl_move rfl rfl ?_)
  rcases bE u26 with h32 | h32
  ·replace hF := ifP h32 hF
   refine wl_on rfl rfl h32 (wl_field (o := 4) (off' := 4) ff_40_2 rfl rfl rfl (wl_on rfl rfl h32 (wl_load_blk (i := 1) (vs := [(.int .i64 x0.2.2)]) (v := (.int .i64 x0.2.2)) tf_3 rfl rfl hS30 rfl rfl rfl (wl_on rfl rfl h32 (wl_field (o := 4) (off' := 4) ff_40_2 rfl rfl rfl (wl_on rfl rfl h32 (wl_load_blk (i := 0) (vs := [(.int .i64 x1.2.2)]) (v := (.int .i64 x1.2.2)) tf_3 rfl rfl hS30 rfl rfl rfl (wl_on rfl rfl h32 (wl_eql rfl rfl rfl (wl_pick_t rfl rfl h32 rfl (wl_assign rfl rfl (WL.nil ?_))))))))))))
   exact fun a ha => hJ18 ((x0.2.2 == x1.2.2)) _ hF hB29 (hS30.sel [] rfl) a (ha.sub ⟨rfl, trivial⟩)
  ·replace hF := ifN h32 hF
   refine wl_off rfl rfl rfl h32 (wl_off rfl rfl rfl h32 (wl_off rfl rfl rfl h32 (wl_off rfl rfl rfl h32 (wl_off rfl rfl rfl h32 (wl_pick_f rfl rfl h32 rfl (wl_assign rfl rfl (WL.nil ?_)))))))
   exact fun a ha => hJ18 (false) _ hF hB29 (hS30.sel [] rfl) a (ha.sub ⟨rfl, trivial⟩)
 ·replace hF := ifN h25 hF
  refine wl_off rfl rfl rfl h25 (wl_off rfl rfl rfl h25 (wl_pick_f rfl rfl h25 rfl (wl_move rfl rfl (wl_off rfl rfl rfl rfl (wl_off rfl rfl rfl rfl (wl_off rfl rfl rfl rfl (wl_off rfl rfl rfl rfl (wl_off rfl rfl rfl rfl (wl_pick_f rfl rfl rfl rfl (wl_assign rfl rfl (WL.nil ?_)))))))))))
  exact fun a ha => hJ18 (false) _ hF hB22 (hS23.sel [] rfl) a (ha.sub ⟨rfl, trivial⟩)
theorem C_impl_LeastApart (w0 : World) (x0 : ((Int × Int) × (Int × Int) × Int)) (x1 : ((Int × Int) × (Int × Int) × Int)) (r : (Int × Int × Bool)) (hF : F_impl_LeastApart x0 x1 = some r) :
  Calls Tryz.prog 13 [(.agg #[(.int .i64 x0.1.1), (.int .i64 x0.1.2), (.int .i64 x0.2.1.1), (.int .i64 x0.2.1.2), (.int .i64 x0.2.2)]), (.agg #[(.int .i64 x1.1.1), (.int .i64 x1.1.2), (.int .i64 x1.2.1.1), (.int .i64 x1.2.1.2), (.int .i64 x1.2.2)])].toArray w0 fun e w' => e = .returned (.tuple #[(.int .i64 r.1), (.int .i64 r.2.1), (.bool r.2.2)]) ∧ Below w0.heap.size w0 w' := by
 refine calls_mk' Tryz.func13 rfl Tryz.ntmps13 rfl rfl fun Q hQ hP => ?_
 have hB : Below w0.heap.size w0 w0 := Below.refl _ _
 have hS : Sep w0.heap.size w0 [] := Sep.nil _ _
 unfold F_impl_LeastApart at hF
 refine W.seq fun K1 hK1 => W.region (wl_box (cs := [(.int .i64 x0.1.1), (.int .i64 x0.1.2), (.int .i64 x0.2.1.1), (.int .i64 x0.2.1.2), (.int .i64 x0.2.2)]) rfl rfl rfl hB hS ?_)
 intro b2 w3 hb4 hB5 hS6
 refine wl_box (cs := [(.int .i64 x1.1.1), (.int .i64 x1.1.2), (.int .i64 x1.2.1.1), (.int .i64 x1.2.1.2), (.int .i64 x1.2.2)]) rfl rfl rfl hB5 hS6 ?_
 intro b7 w8 hb9 hB10 hS11
 refine wl_assign rfl rfl (wl_assign rfl rfl (wl_assign rfl rfl (WL.nil (fun a ha => hK1 _ _ (W.seq fun K12 hK12 => (W.seq fun K13 hK13 => (W.region (wl_load_blk (i := 1) (vs := [(.int .i64 x0.1.1), (.int .i64 x0.1.2), (.int .i64 x0.2.1.1), (.int .i64 x0.2.1.2), (.int .i64 x0.2.2)]) (v := (.agg #[(.int .i64 x0.1.1), (.int .i64 x0.1.2), (.int .i64 x0.2.1.1), (.int .i64 x0.2.1.2), (.int .i64 x0.2.2)])) tf_40 rfl rfl hS11 rfl rfl rfl (wl_load_blk (i := 0) (vs := [(.int .i64 x1.1.1), (.int .i64 x1.1.2), (.int .i64 x1.2.1.1), (.int .i64 x1.2.1.2), (.int .i64 x1.2.2)]) (v := (.agg #[(.int .i64 x1.1.1), (.int .i64 x1.1.2), (.int .i64 x1.2.1.1), (.int .i64 x1.2.1.2), (.int .i64 x1.2.2)])) tf_40 rfl rfl hS11 rfl rfl rfl ?_))))) a ha))))
 obtain ⟨u14, hu14, hF⟩ := bindE hF
 refine wl_call rfl Tryz.call40 (C_impl_goTogether w8 x0 x1 _ hu14) rfl ?_
 rintro _ w15 ⟨rfl, hb16⟩
 refine ⟨_, rfl, ?_⟩
 have hB17 := hB10.trans (hb16.mono hB10.size)
 have hS18 := hS11.below hb16
 refine wl_not rfl rfl (WL.nil (fun a ha => hK13 _ _ (W.cond rfl (fun h20 => ?_) (fun h20 => ?_)) a ha))
 ·replace hF := ifP h20 hF
  refine W.seq fun K21 hK21 => W.region (wl_assign rfl rfl (wl_assign rfl rfl (wl_assign rfl rfl (WL.nil (fun a ha => hK21 _ _ (W.ret ?_) a ha)))))
  have hr := Option.some.inj hF
  subst hr
  exact rets (vs := [(.int .i64 0), (.int .i64 0), (.bool false)]) hQ rfl ⟨rv_tmp rfl, rv_tmp rfl, rv_tmp rfl, trivial⟩ ⟨rfl, hB17⟩
 ·replace hF := ifN h20 hF
  refine W.skip fun a ha => hK12 _ _ (W.seq fun K22 hK22 => (W.region (wl_load_blk (i := 1) (vs := [(.int .i64 x0.1.1), (.int .i64 x0.1.2), (.int .i64 x0.2.1.1), (.int .i64 x0.2.1.2), (.int .i64 x0.2.2)]) (v := (.agg #[(.int .i64 x0.1.1), (.int .i64 x0.1.2), (.int .i64 x0.2.1.1), (.int .i64 x0.2.1.2), (.int .i64 x0.2.2)])) tf_40 rfl rfl hS18 rfl rfl rfl (wl_load_blk (i := 0) (vs := [(.int .i64 x1.1.1), (.int .i64 x1.1.2), (.int .i64 x1.2.1.1), (.int .i64 x1.2.1.2), (.int .i64 x1.2.2)]) (v := (.agg #[(.int .i64 x1.1.1), (.int .i64 x1.1.2), (.int .i64 x1.2.1.1), (.int .i64 x1.2.1.2), (.int .i64 x1.2.2)])) tf_40 rfl rfl hS18 rfl rfl rfl ?_)))) a ha
  obtain ⟨u23, hu23, hF⟩ := bindE hF
  refine wl_call rfl Tryz.call41 (C_impl_leastApart w15 x0 x1 _ hu23) rfl ?_
  rintro _ w24 ⟨rfl, hb25⟩
  refine ⟨_, rfl, ?_⟩
  have hB26 := hB17.trans (hb25.mono hB17.size)
  refine wl_move rfl rfl (wl_extract rfl rfl rfl (wl_extract rfl rfl rfl (wl_assign rfl rfl (wl_assign rfl rfl (WL.nil (fun a ha => hK22 _ _ (W.seq fun K29 hK29 => (W.region (wl_move rfl rfl (wl_move rfl rfl (wl_assign rfl rfl (wl_assign rfl rfl (wl_assign rfl rfl ?_))))))) a ha))))))
  refine WL.nil fun a ha => hK29 _ _ (W.ret ?_) a ha
  have hr := Option.some.inj hF
  subst hr
  exact rets (vs := [(.int .i64 u23.1), (.int .i64 u23.2), (.bool true)]) hQ rfl ⟨rv_tmp rfl, rv_tmp rfl, rv_tmp rfl, trivial⟩ ⟨rfl, hB26⟩
theorem C_impl_placeAt (w0 : World) (x0 : ((Int × Int) × (Int × Int) × Int)) (x1 : Int) (r : (Int × Int)) (hF : F_impl_placeAt x0 x1 = some r) :
  Calls Tryz.prog 42 [(.agg #[(.int .i64 x0.1.1), (.int .i64 x0.1.2), (.int .i64 x0.2.1.1), (.int .i64 x0.2.1.2), (.int .i64 x0.2.2)]), (.int .i64 x1)].toArray w0 fun e w' => e = .returned (.tuple #[(.int .i64 r.1), (.int .i64 r.2)]) ∧ Below w0.heap.size w0 w' := by
 refine calls_mk' Tryz.func42 rfl Tryz.ntmps42 rfl rfl fun Q hQ hP => ?_
 have hB : Below w0.heap.size w0 w0 := Below.refl _ _
 have hS : Sep w0.heap.size w0 [] := Sep.nil _ _
 unfold F_impl_placeAt at hF
 refine W.seq fun K1 hK1 => W.region (wl_box (cs := [(.int .i64 x0.1.1), (.int .i64 x0.1.2), (.int .i64 x0.2.1.1), (.int .i64 x0.2.1.2), (.int .i64 x0.2.2)]) rfl rfl rfl hB hS ?_)
 intro b2 w3 hb4 hB5 hS6
 refine wl_assign rfl rfl (wl_assign rfl rfl (WL.nil (fun a ha => hK1 _ _ (W.seq fun K7 hK7 => (W.regionH mixed_ [] hB5 hS6 ?_)) a ha)))
 intro w8 hb9 hB10 hS11
 have hSW12 := KeepX.refl w8 []
 refine WH.tk 0 rfl hP hSW12 (pr_field (o := 0) (off' := 0) ff_40_0 rfl rfl rfl (WH.tk 1 rfl hP hSW12 (pr_field (o := 0) (off' := 0) ff_38_0 rfl rfl rfl (WH.tk 2 rfl hP hSW12 (pr_load_blk (i := 0) (vs := [(.int .i64 x0.1.1)]) (v := (.int .i64 x0.1.1)) tf_3 rfl rfl hS11 rfl rfl rfl (by simp) (WH.tk 3 rfl hP hSW12 (pr_field (o := 4) (off' := 4) ff_40_2 rfl rfl rfl (WH.tk 4 rfl hP hSW12 (pr_load_blk (i := 0) (vs := [(.int .i64 x0.2.2)]) (v := (.int .i64 x0.2.2)) tf_3 rfl rfl hS11 rfl rfl rfl (by simp) (WH.tk 5 rfl hP hSW12 (pr_mul rfl rfl rfl (WH.tk 6 rfl hP hSW12 (pr_move rfl rfl ?_)))))))))))))
 refine WH.tk 7 rfl hP hSW12 (pr_field (o := 2) (off' := 2) ff_40_1 rfl rfl rfl (WH.tk 8 rfl hP hSW12 (pr_field (o := 0) (off' := 2) ff_38_0 rfl rfl rfl (WH.tk 9 rfl hP hSW12 (pr_load_blk (i := 0) (vs := [(.int .i64 x0.2.1.1)]) (v := (.int .i64 x0.2.1.1)) tf_3 rfl rfl hS11 rfl rfl rfl (by simp) (WH.tk 10 rfl hP hSW12 (pr_field (o := 0) (off' := 0) ff_40_0 rfl rfl rfl (WH.tk 11 rfl hP hSW12 (pr_field (o := 0) (off' := 0) ff_38_0 rfl rfl rfl (WH.tk 12 rfl hP hSW12 (pr_load_blk (i := 0) (vs := [(.int .i64 x0.1.1)]) (v := (.int .i64 x0.1.1)) tf_3 rfl rfl hS11 rfl rfl rfl (by simp) (WH.tk 13 rfl hP hSW12 (pr_sub rfl rfl rfl ?_)))))))))))))
 refine WH.tk 14 rfl hP hSW12 (pr_mul rfl rfl rfl (WH.tk 15 rfl hP hSW12 (pr_add rfl rfl rfl (WH.tk 16 rfl hP hSW12 (pr_field (o := 0) (off' := 0) ff_40_0 rfl rfl rfl (WH.tk 17 rfl hP hSW12 (pr_field (o := 1) (off' := 1) ff_38_1 rfl rfl rfl (WH.tk 18 rfl hP hSW12 (pr_load_blk (i := 0) (vs := [(.int .i64 x0.1.2)]) (v := (.int .i64 x0.1.2)) tf_3 rfl rfl hS11 rfl rfl rfl (by simp) (WH.tk 19 rfl hP hSW12 (pr_field (o := 4) (off' := 4) ff_40_2 rfl rfl rfl (WH.tk 20 rfl hP hSW12 (pr_load_blk (i := 0) (vs := [(.int .i64 x0.2.2)]) (v := (.int .i64 x0.2.2)) tf_3 rfl rfl hS11 rfl rfl rfl (by simp) ?_)))))))))))))
 refine WH.tk 21 rfl hP hSW12 (pr_mul rfl rfl rfl (WH.tk 22 rfl hP hSW12 (pr_move rfl rfl (WH.tk 23 rfl hP hSW12 (pr_field (o := 2) (off' := 2) ff_40_1 rfl rfl rfl (WH.tk 24 rfl hP hSW12 (pr_field (o := 1) (off' := 3) ff_38_1 rfl rfl rfl (WH.tk 25 rfl hP hSW12 (pr_load_blk (i := 0) (vs := [(.int .i64 x0.2.1.2)]) (v := (.int .i64 x0.2.1.2)) tf_3 rfl rfl hS11 rfl rfl rfl (by simp) (WH.tk 26 rfl hP hSW12 (pr_field (o := 0) (off' := 0) ff_40_0 rfl rfl rfl (WH.tk 27 rfl hP hSW12 (pr_field (o := 1) (off' := 1) ff_38_1 rfl rfl rfl ?_)))))))))))))
 refine WH.tk 28 rfl hP hSW12 (pr_load_blk (i := 0) (vs := [(.int .i64 x0.1.2)]) (v := (.int .i64 x0.1.2)) tf_3 rfl rfl hS11 rfl rfl rfl (by simp) (WH.tk 29 rfl hP hSW12 (pr_sub rfl rfl rfl (WH.tk 30 rfl hP hSW12 (pr_mul rfl rfl rfl (WH.tk 31 rfl hP hSW12 (pr_add rfl rfl rfl (WH.tk 32 rfl hP hSW12 (pr_assign rfl rfl (WH.tk 33 rfl hP hSW12 (pr_assign rfl rfl (WH.done (by kernel_rfl) (fun a ha => hK7 _ _ ?_ a ha)))))))))))))
 refine W.ret ?_
 have hr := Option.some.inj hF
 subst hr
 exact rets (vs := [(.int .i64 (w64 ((w64 (x0.1.1 * x0.2.2)) + (w64 (x1 * (w64 (x0.2.1.1 - x0.1.1))))))), (.int .i64 (w64 ((w64 (x0.1.2 * x0.2.2)) + (w64 (x1 * (w64 (x0.2.1.2 - x0.1.2)))))))]) hQ rfl ⟨rv_tmp rfl, rv_tmp rfl, trivial⟩ ⟨rfl, hB10⟩
theorem C_impl_ApartAt (w0 : World) (x0 : ((Int × Int) × (Int × Int) × Int)) (x1 : ((Int × Int) × (Int × Int) × Int)) (x2 : Int) (r : (Int × Int × Bool)) (hF : F_impl_ApartAt x0 x1 x2 = some r) :
  Calls Tryz.prog 14 [(.agg #[(.int .i64 x0.1.1), (.int .i64 x0.1.2), (.int .i64 x0.2.1.1), (.int .i64 x0.2.1.2), (.int .i64 x0.2.2)]), (.agg #[(.int .i64 x1.1.1), (.int .i64 x1.1.2), (.int .i64 x1.2.1.1), (.int .i64 x1.2.1.2), (.int .i64 x1.2.2)]), (.int .i64 x2)].toArray w0 fun e w' => e = .returned (.tuple #[(.int .i64 r.1), (.int .i64 r.2.1), (.bool r.2.2)]) ∧ Below w0.heap.size w0 w' := by
 refine calls_mk' Tryz.func14 rfl Tryz.ntmps14 rfl rfl fun Q hQ hP => ?_
 have hB : Below w0.heap.size w0 w0 := Below.refl _ _
 have hS : Sep w0.heap.size w0 [] := Sep.nil _ _
 unfold F_impl_ApartAt at hF
 refine W.seq fun K1 hK1 => W.region (wl_box (cs := [(.int .i64 x0.1.1), (.int .i64 x0.1.2), (.int .i64 x0.2.1.1), (.int .i64 x0.2.1.2), (.int .i64 x0.2.2)]) rfl rfl rfl hB hS ?_)
 intro b2 w3 hb4 hB5 hS6
 refine wl_box (cs := [(.int .i64 x1.1.1), (.int .i64 x1.1.2), (.int .i64 x1.2.1.1), (.int .i64 x1.2.1.2), (.int .i64 x1.2.2)]) rfl rfl rfl hB5 hS6 ?_
 intro b7 w8 hb9 hB10 hS11
 refine wl_assign rfl rfl (wl_assign rfl rfl (wl_assign rfl rfl (WL.nil (fun a ha => hK1 _ _ (W.seq fun K12 hK12 => (W.seq fun K13 hK13 => ?_)) a ha))))
 obtain ⟨k18, hk18, hF⟩ := jE1 hF
 have hJ19 : ∀ (y17 : Bool) (w14 : World) (_ : k18 y17 = some r) (_ : Below w0.heap.size w0 w14) (_ : Sep w0.heap.size w14 [R.blk b2 40 [(.int .i64 x0.1.1), (.int .i64 x0.1.2), (.int .i64 x0.2.1.1), (.int .i64 x0.2.1.2), (.int .i64 x0.2.2)], R.blk b7 40 [(.int .i64 x1.1.1), (.int .i64 x1.1.2), (.int .i64 x1.2.1.1), (.int .i64 x1.2.1.2), (.int .i64 x1.2.2)]]), ∀ a, St 64 [(2, (.int .i64 x2)), (3, (.pointer (some ⟨b2, 0, none⟩))), (4, (.pointer (some ⟨b7, 0, none⟩))), (25, (.bool y17))] a → K13 a w14 := by
  intro y17 w14 hF hB15 hS16
  subst hk18
  refine fun a ha => hK13 _ _ (W.cond rfl (fun h20 => ?_) (fun h20 => ?_)) a ha
  ·replace hF := ifP h20 hF
   refine W.seq fun K21 hK21 => W.region (wl_assign rfl rfl (wl_assign rfl rfl (wl_assign rfl rfl (WL.nil (fun a ha => hK21 _ _ (W.ret ?_) a ha)))))
   have hr := Option.some.inj hF
   subst hr
   exact rets (vs := [(.int .i64 0), (.int .i64 0), (.bool false)]) hQ rfl ⟨rv_tmp rfl, rv_tmp rfl, rv_tmp rfl, trivial⟩ ⟨rfl, hB15⟩
  ·replace hF := ifN h20 hF
   refine W.skip fun a ha => hK12 _ _ (W.seq fun K22 hK22 => (W.region (wl_load_blk (i := 0) (vs := [(.int .i64 x0.1.1), (.int .i64 x0.1.2), (.int .i64 x0.2.1.1), (.int .i64 x0.2.1.2), (.int .i64 x0.2.2)]) (v := (.agg #[(.int .i64 x0.1.1), (.int .i64 x0.1.2), (.int .i64 x0.2.1.1), (.int .i64 x0.2.1.2), (.int .i64 x0.2.2)])) tf_40 rfl rfl hS16 rfl rfl rfl (wl_move rfl rfl ?_)))) a ha
   obtain ⟨u23, hu23, hF⟩ := bindE hF
   refine wl_call rfl Tryz.call42 (C_impl_placeAt w14 x0 x2 _ hu23) rfl ?_
   rintro _ w24 ⟨rfl, hb25⟩
   refine ⟨_, rfl, ?_⟩
   have hB26 := hB15.trans (hb25.mono hB15.size)
   have hS27 := hS16.below hb25
   refine wl_move rfl rfl (wl_extract rfl rfl rfl (wl_extract rfl rfl rfl (wl_assign rfl rfl (wl_assign rfl rfl (WL.nil (fun a ha => hK22 _ _ (W.seq fun K29 hK29 => (W.region (wl_load_blk (i := 1) (vs := [(.int .i64 x1.1.1), (.int .i64 x1.1.2), (.int .i64 x1.2.1.1), (.int .i64 x1.2.1.2), (.int .i64 x1.2.2)]) (v := (.agg #[(.int .i64 x1.1.1), (.int .i64 x1.1.2), (.int .i64 x1.2.1.1), (.int .i64 x1.2.1.2), (.int .i64 x1.2.2)])) tf_40 rfl rfl hS27 rfl rfl rfl (wl_move rfl rfl ?_)))) a ha))))))
   obtain ⟨u30, hu30, hF⟩ := bindE hF
   refine wl_call rfl Tryz.call42 (C_impl_placeAt w24 x1 x2 _ hu30) rfl ?_
   rintro _ w31 ⟨rfl, hb32⟩
   refine ⟨_, rfl, ?_⟩
   have hB33 := hB26.trans (hb32.mono hB26.size)
   have hS34 := hS27.below hb32
   refine wl_move rfl rfl (wl_extract rfl rfl rfl (wl_extract rfl rfl rfl (wl_assign rfl rfl (wl_assign rfl rfl (WL.nil (fun a ha => hK29 _ _ (W.seq fun K36 hK36 => (W.region (wl_move rfl rfl (wl_move rfl rfl (wl_sub rfl rfl rfl (wl_move rfl rfl (wl_move rfl rfl ?_))))))) a ha))))))
   refine wl_sub rfl rfl rfl (wl_mul rfl rfl rfl (wl_move rfl rfl (wl_move rfl rfl (wl_sub rfl rfl rfl (wl_move rfl rfl (wl_move rfl rfl (wl_sub rfl rfl rfl (wl_mul rfl rfl rfl (wl_add rfl rfl rfl (wl_field (o := 4) (off' := 4) ff_40_2 rfl rfl rfl (wl_load_blk (i := 0) (vs := [(.int .i64 x0.2.2)]) (v := (.int .i64 x0.2.2)) tf_3 rfl rfl hS34 rfl rfl rfl (wl_field (o := 4) (off' := 4) ff_40_2 rfl rfl rfl (wl_load_blk (i := 0) (vs := [(.int .i64 x0.2.2)]) (v := (.int .i64 x0.2.2)) tf_3 rfl rfl hS34 rfl rfl rfl ?_)))))))))))))
   refine wl_mul rfl rfl rfl ?_
   obtain ⟨u37, hu37, hF⟩ := bindE hF
   refine wl_call rfl Tryz.call43 (C_impl_lowestTerms w31 (w64 ((w64 ((w64 (u23.1 - u30.1)) * (w64 (u23.1 - u30.1)))) + (w64 ((w64 (u23.2 - u30.2)) * (w64 (u23.2 - u30.2)))))) (w64 (x0.2.2 * x0.2.2)) _ hu37) rfl ?_
   rintro _ w38 ⟨rfl, hb39⟩
   refine ⟨_, rfl, ?_⟩
   have hB40 := hB33.trans (hb39.mono hB33.size)
   refine wl_move rfl rfl (wl_extract rfl rfl rfl (wl_extract rfl rfl rfl (wl_assign rfl rfl (wl_assign rfl rfl (WL.nil (fun a ha => hK36 _ _ (W.seq fun K43 hK43 => (W.region (wl_move rfl rfl (wl_move rfl rfl (wl_assign rfl rfl (wl_assign rfl rfl (wl_assign rfl rfl ?_))))))) a ha))))))
   refine WL.nil fun a ha => hK43 _ _ (W.ret ?_) a ha
   have hr := Option.some.inj hF
   subst hr
   exact rets (vs := [(.int .i64 u37.1), (.int .i64 u37.2), (.bool true)]) hQ rfl ⟨rv_tmp rfl, rv_tmp rfl, rv_tmp rfl, trivial⟩ ⟨rfl, hB40⟩
 refine W.region (wl_load_blk (i := 1) (vs := [(.int .i64 x0.1.1), (.int .i64 x0.1.2), (.int .i64 x0.2.1.1), (.int .i64 x0.2.1.2), (.int .i64 x0.2.2)]) (v := (.agg #[(.int .i64 x0.1.1), (.int .i64 x0.1.2), (.int .i64 x0.2.1.1), (.int .i64 x0.2.1.2), (.int .i64 x0.2.2)])) tf_40 rfl rfl hS11 rfl rfl rfl (wl_load_blk (i := 0) (vs := [(.int .i64 x1.1.1), (.int .i64 x1.1.2), (.int .i64 x1.2.1.1), (.int .i64 x1.2.1.2), (.int .i64 x1.2.2)]) (v := (.agg #[(.int .i64 x1.1.1), (.int .i64 x1.1.2), (.int .i64 x1.2.1.1), (.int .i64 x1.2.1.2), (.int .i64 x1.2.2)])) tf_40 rfl rfl hS11 rfl rfl rfl ?_))
 obtain ⟨u44, hu44, hF⟩ := bindE hF
 refine wl_call rfl Tryz.call40 (C_impl_goTogether w8 x0 x1 _ hu44) rfl ?_
 rintro _ w45 ⟨rfl, hb46⟩
 refine ⟨_, rfl, ?_⟩
 have hB47 := hB10.trans (hb46.mono hB10.size)
 have hS48 := hS11.below hb46
 refine wl_not rfl rfl (wl_move rfl rfl ?_)
 rcases bE (!u44) with h50 | h50
 ·replace hF := ifP h50 hF
  refine wl_off rfl rfl rfl h50 (wl_off rfl rfl rfl h50 (wl_off rfl rfl rfl h50 (wl_off rfl rfl rfl h50 (wl_off rfl rfl rfl h50 (wl_pick_t rfl rfl h50 rfl (WL.nil ?_))))))
  exact fun a ha => hJ19 (true) _ hF hB47 (hS48.sel [1, 0] rfl) a (ha.sub ⟨rfl, rfl, rfl, rfl, trivial⟩)
 ·replace hF := ifN h50 hF
  refine wl_on rfl rfl h50 (wl_move rfl rfl (wl_on rfl rfl h50 (wl_field (o := 4) (off' := 4) ff_40_2 rfl rfl rfl (wl_on rfl rfl h50 (wl_load_blk (i := 1) (vs := [(.int .i64 x0.2.2)]) (v := (.int .i64 x0.2.2)) tf_3 rfl rfl hS48 rfl rfl rfl (wl_on rfl rfl h50 ?_))))))
  obtain ⟨u51, hu51, hF⟩ := bindE hF
  refine wl_call rfl Tryz.call38 (C_impl_within w45 x2 0 x0.2.2 _ hu51) rfl ?_
  rintro _ w52 ⟨rfl, hb53⟩
  refine ⟨_, rfl, ?_⟩
  have hB54 := hB47.trans (hb53.mono hB47.size)
  have hS55 := hS48.below hb53
  refine wl_on rfl rfl h50 (wl_not rfl rfl (wl_pick_f rfl rfl h50 rfl (WL.nil ?_)))
  exact fun a ha => hJ19 ((!u51)) _ hF hB54 (hS55.sel [1, 0] rfl) a (ha.sub ⟨rfl, rfl, rfl, rfl, trivial⟩)
theorem C_impl_IsSheet (w0 : World) (x0 : (Int × (Int × Int) × (List (Int × (Int × Int))))) (v0_0 : Value) (h0_0 : rdS ty_101 (· < w0.heap.size) w0 v0_0 x0.2.2) (r : Bool) (hF : F_impl_IsSheet x0 = some r) :
  Calls Tryz.prog 44 [(.agg #[(.int .i64 x0.1), (.int .i64 x0.2.1.1), (.int .i64 x0.2.1.2), v0_0])].toArray w0 fun e w' => e = .returned (.bool r) ∧ Below w0.heap.size w0 w' := by
 refine calls_mk' Tryz.func44 rfl Tryz.ntmps44 rfl rfl fun Q hQ hP => ?_
 have hB : Below w0.heap.size w0 w0 := Below.refl _ _
 have hS : Sep w0.heap.size w0 [] := Sep.nil _ _
 unfold F_impl_IsSheet at hF
 refine W.seq fun K1 hK1 => W.region (wl_box (cs := [(.int .i64 x0.1), (.int .i64 x0.2.1.1), (.int .i64 x0.2.1.2), v0_0]) rfl rfl rfl hB hS ?_)
 intro b2 w3 hb4 hB5 hS6
 refine wl_assign rfl rfl (WL.nil (fun a ha => hK1 _ _ (W.seq fun K7 hK7 => (W.seq fun K8 hK8 => ?_)) a ha))
 obtain ⟨k13, hk13, hF⟩ := jE1 hF
 have hJ14 : ∀ (y12 : Bool) (w9 : World) (_ : k13 y12 = some r) (_ : Below w0.heap.size w0 w9) (_ : Sep w0.heap.size w9 [R.blk b2 48 [(.int .i64 x0.1), (.int .i64 x0.2.1.1), (.int .i64 x0.2.1.2), v0_0]]), ∀ a, St 39 [(1, (.pointer (some ⟨b2, 0, none⟩))), (20, (.bool y12))] a → K8 a w9 := by
  intro y12 w9 hF hB10 hS11
  subst hk13
  refine fun a ha => hK8 _ _ (W.cond rfl (fun h15 => ?_) (fun h15 => ?_)) a ha
  ·replace hF := ifP h15 hF
   refine W.seq fun K16 hK16 => W.region (wl_assign rfl rfl (WL.nil (fun a ha => hK16 _ _ (W.ret ?_) a ha)))
   have hr := Option.some.inj hF
   subst hr
   exact rets (vs := [(.bool false)]) hQ rfl ⟨rv_tmp rfl, trivial⟩ ⟨rfl, hB10⟩
  ·replace hF := ifN h15 hF
   refine W.skip fun a ha => hK7 _ _ (W.seq fun K17 hK17 => (W.seq fun K18 hK18 => (W.region (wl_field (o := 3) (off' := 3) ff_48_2 rfl rfl rfl (wl_load_blk (i := 0) (vs := [v0_0]) (v := v0_0) tf_46 rfl rfl hS11 rfl rfl rfl (wl_lenr (e := ty_101) (l := x0.2.2) Tryz.underlying46 rfl rfl h0_0 (wl_move rfl rfl (WL.nil (fun a ha => hK18 _ _ (W.block (W.loopk (fun m a w19 => ∃ (y22 : Int), St 39 [(22, v0_0), (23, (.int .i64 (List.length x0.2.2 : Int))), (24, (.int .i64 y22))] a ∧ Below w0.heap.size w0 w19 ∧ Sep w0.heap.size w19 [] ∧ F_impl_IsSheet_L1 x0 m y22 = some r) FU ?_ ?_)) a ha))))))))) a ha
   ·
    exact fun a ha => ⟨0, ha.sub ⟨rfl, rfl, rfl, trivial⟩, hB10, (hS11.sel [] rfl), hF⟩
   ·
    rintro m25 a w19 ⟨y22, ha, hB20, hS21, hF⟩ KL24 hKL24
    refine W.at ?_ ha
    cases m25 with
    | zero => exact noneE hF
    | succ m25 =>
     obtain ⟨nx23, hnx23⟩ : ∃ k, k = F_impl_IsSheet_L1 x0 m25 := ⟨_, rfl⟩
     rw [F_impl_IsSheet_L1, ← hnx23] at hF
     refine W.seq fun K26 hK26 => W.region (wl_lss rfl rfl rfl (WL.nil (fun a ha => hK26 _ _ (W.seq fun K27 hK27 => (W.cond rfl (fun h28 => ?_) (fun h28 => ?_))) a ha)))
     ·replace hF := ifP h28 hF
      refine W.skip fun a ha => hK27 _ _ (W.seq fun K29 hK29 => (W.block (W.seq fun K30 hK30 => (W.region ?_)))) a ha
      obtain ⟨u31, hu31, hF⟩ := bindE hF
      refine wl_index (e := ty_101) Tryz.underlying46 rfl rfl rfl h0_0 hu31 ?_
      rintro p32 _ rfl hp33
      refine wl_load_p (vs := [(.int .i64 u31.1), (.int .i64 u31.2.1), (.int .i64 u31.2.2)]) (v := (.agg #[(.int .i64 u31.1), (.int .i64 u31.2.1), (.int .i64 u31.2.2)])) tf_101 rfl rfl (hp33.ro hB20) rfl rfl (wl_alloc (cs := [(.int .i64 0), (.int .i64 0), (.int .i64 0)]) tf_101 rfl rfl hB20 hS21 ?_)
      intro b34 w35 hb36 hB37 hS38
      refine wl_store_blk (i := 0) (vs := [(.int .i64 u31.1), (.int .i64 u31.2.1), (.int .i64 u31.2.2)]) (cs' := [(.int .i64 u31.1), (.int .i64 u31.2.1), (.int .i64 u31.2.2)]) tf_101 rfl rfl rfl rfl hB37 hS38 rfl rfl ⟨rfl, rfl, rfl, trivial⟩ rfl ?_
      intro w39 hk42 hB40 hS41
      refine WL.nil fun a ha => hK30 _ _ (W.seq fun K43 hK43 => ?_) a ha
      obtain ⟨k48, hk48, hF⟩ := jE1 hF
      have hJ49 : ∀ (y47 : Bool) (w44 : World) (_ : k48 y47 = some r) (_ : Below w0.heap.size w0 w44) (_ : Sep w0.heap.size w44 []), ∀ a, St 39 [(22, v0_0), (23, (.int .i64 (List.length x0.2.2 : Int))), (24, (.int .i64 y22)), (37, (.bool y47))] a → K43 a w44 := by
       intro y47 w44 hF hB45 hS46
       subst hk48
       refine fun a ha => hK43 _ _ (W.cond rfl (fun h50 => ?_) (fun h50 => ?_)) a ha
       ·replace hF := ifP h50 hF
        refine W.seq fun K51 hK51 => W.region (wl_assign rfl rfl (WL.nil (fun a ha => hK51 _ _ (W.ret ?_) a ha)))
        have hr := Option.some.inj hF
        subst hr
        exact rets (vs := [(.bool false)]) hQ rfl ⟨rv_tmp rfl, trivial⟩ ⟨rfl, hB45⟩
       ·replace hF := ifN h50 hF
        refine W.skip fun a ha => hK29 _ _ (W.region (wl_add rfl rfl rfl (wl_move rfl rfl (WL.nil ?_)))) a ha
        rw [hnx23] at hF
        exact fun a ha => hKL24 a _ m25 (Nat.lt_succ_self m25) ⟨(w64 (y22 + 1)), ha.sub ⟨rfl, rfl, rfl, trivial⟩, hB45, (hS46.sel [] rfl), hF⟩
      refine W.region (wl_field (o := 0) (off' := 0) ff_101_0 rfl rfl rfl (wl_load_blk (i := 0) (vs := [(.int .i64 u31.1)]) (v := (.int .i64 u31.1)) tf_3 rfl rfl hS41 rfl rfl rfl ?_))
      obtain ⟨u52, hu52, hF⟩ := bindE hF
      refine wl_call rfl Tryz.call38 (C_impl_within w39 u31.1 1 64 _ hu52) rfl ?_
      rintro _ w53 ⟨rfl, hb54⟩
      refine ⟨_, rfl, ?_⟩
      have hB55 := hB40.trans (hb54.mono hB40.size)
      have hS56 := hS41.below hb54
      refine wl_not rfl rfl (wl_move rfl rfl ?_)
      rcases bE (!u52) with h58 | h58
      ·replace hF := ifP h58 hF
       refine wl_off rfl rfl rfl h58 (wl_off rfl rfl rfl h58 (wl_off rfl rfl rfl h58 (wl_off rfl rfl rfl h58 (wl_pick_t rfl rfl h58 rfl (WL.nil ?_)))))
       exact fun a ha => hJ49 (true) _ hF hB55 (hS56.sel [] rfl) a (ha.sub ⟨rfl, rfl, rfl, rfl, trivial⟩)
      ·replace hF := ifN h58 hF
       refine wl_on rfl rfl h58 (wl_field (o := 1) (off' := 1) ff_101_1 rfl rfl rfl (wl_on rfl rfl h58 (wl_load_blk (i := 0) (vs := [(.int .i64 u31.2.1), (.int .i64 u31.2.2)]) (v := (.agg #[(.int .i64 u31.2.1), (.int .i64 u31.2.2)])) tf_38 rfl rfl hS56 rfl rfl rfl (wl_on rfl rfl h58 ?_))))
       obtain ⟨u59, hu59, hF⟩ := bindE hF
       refine wl_call rfl Tryz.call77 (C_impl_IsSpot w53 u31.2 _ hu59) rfl ?_
       rintro _ w60 ⟨rfl, hb61⟩
       refine ⟨_, rfl, ?_⟩
       have hB62 := hB55.trans (hb61.mono hB55.size)
       have hS63 := hS56.below hb61
       refine wl_on rfl rfl h58 (wl_not rfl rfl (wl_pick_f rfl rfl h58 rfl (WL.nil ?_)))
       exact fun a ha => hJ49 ((!u59)) _ hF hB62 (hS63.sel [] rfl) a (ha.sub ⟨rfl, rfl, rfl, rfl, trivial⟩)
     ·replace hF := ifN h28 hF
      refine W.exit fun a ha => hK17 _ _ (W.seq fun K65 hK65 => (W.region (wl_assign rfl rfl (WL.nil (fun a ha => hK65 _ _ (W.ret ?_) a ha))))) a ha
      have hr := Option.some.inj hF
      subst hr
      exact rets (vs := [(.bool true)]) hQ rfl ⟨rv_tmp rfl, trivial⟩ ⟨rfl, hB20⟩
 refine W.region (wl_field (o := 0) (off' := 0) ff_48_0 rfl rfl rfl (wl_load_blk (i := 0) (vs := [(.int .i64 x0.1)]) (v := (.int .i64 x0.1)) tf_3 rfl rfl hS6 rfl rfl rfl ?_))
 obtain ⟨u66, hu66, hF⟩ := bindE hF
 refine wl_call rfl Tryz.call38 (C_impl_within w3 x0.1 0 11 _ hu66) rfl ?_
 rintro _ w67 ⟨rfl, hb68⟩
 refine ⟨_, rfl, ?_⟩
 have hB69 := hB5.trans (hb68.mono hB5.size)
 have hS70 := hS6.below hb68
 refine wl_not rfl rfl (wl_move rfl rfl ?_)
 rcases bE (!u66) with h72 | h72
 ·replace hF := ifP h72 hF
  refine wl_off rfl rfl rfl h72 (wl_off rfl rfl rfl h72 (wl_off rfl rfl rfl h72 (wl_off rfl rfl rfl h72 (wl_pick_t rfl rfl h72 rfl (wl_move rfl rfl (wl_off rfl rfl rfl rfl (wl_off rfl rfl rfl rfl (wl_off rfl rfl rfl rfl (wl_off rfl rfl rfl rfl (wl_pick_t rfl rfl rfl rfl (WL.nil ?_)))))))))))
  exact fun a ha => hJ14 (true) _ hF hB69 (hS70.sel [0] rfl) a (ha.sub ⟨rfl, rfl, trivial⟩)
 ·replace hF := ifN h72 hF
  refine wl_on rfl rfl h72 (wl_field (o := 1) (off' := 1) ff_48_1 rfl rfl rfl (wl_on rfl rfl h72 (wl_load_blk (i := 0) (vs := [(.int .i64 x0.2.1.1), (.int .i64 x0.2.1.2)]) (v := (.agg #[(.int .i64 x0.2.1.1), (.int .i64 x0.2.1.2)])) tf_38 rfl rfl hS70 rfl rfl rfl (wl_on rfl rfl h72 ?_))))
  obtain ⟨u73, hu73, hF⟩ := bindE hF
  refine wl_call rfl Tryz.call77 (C_impl_IsSpot w67 x0.2.1 _ hu73) rfl ?_
  rintro _ w74 ⟨rfl, hb75⟩
  refine ⟨_, rfl, ?_⟩
  have hB76 := hB69.trans (hb75.mono hB69.size)
  have hS77 := hS70.below hb75
  refine wl_on rfl rfl h72 (wl_not rfl rfl (wl_pick_f rfl rfl h72 rfl (wl_move rfl rfl ?_)))
  rcases bE (!u73) with h79 | h79
  ·replace hF := ifP h79 hF
   refine wl_off rfl rfl rfl h79 (wl_off rfl rfl rfl h79 (wl_off rfl rfl rfl h79 (wl_off rfl rfl rfl h79 (wl_pick_t rfl rfl h79 rfl (WL.nil ?_)))))
   exact fun a ha => hJ14 (true) _ hF hB76 (hS77.sel [0] rfl) a (ha.sub ⟨rfl, rfl, trivial⟩)
  ·replace hF := ifN h79 hF
   refine wl_on rfl rfl h79 (wl_field (o := 3) (off' := 3) ff_48_2 rfl rfl rfl (wl_on rfl rfl h79 (wl_load_blk (i := 0) (vs := [v0_0]) (v := v0_0) tf_46 rfl rfl hS77 rfl rfl rfl (wl_on rfl rfl h79 (wl_lenr (e := ty_101) (l := x0.2.2) Tryz.underlying46 rfl rfl h0_0 (wl_on rfl rfl h79 (wl_gtr rfl rfl rfl (wl_pick_f rfl rfl h79 rfl (WL.nil ?_)))))))))
   exact fun a ha => hJ14 ((decide (8 < (List.length x0.2.2 : Int)))) _ hF hB76 (hS77.sel [0] rfl) a (ha.sub ⟨rfl, rfl, trivial⟩)
theorem C_impl_sheetMoves (w0 : World) (x0 : (Int × (Int × Int) × (List (Int × (Int × Int))))) (v0_0 : Value) (h0_0 : rdS ty_101 (· < w0.heap.size) w0 v0_0 x0.2.2) (r : (List ((Int × Int) × (Int × Int) × Int))) (hF : F_impl_sheetMoves x0 = some r) :
  Calls Tryz.prog 45 [(.agg #[(.int .i64 x0.1), (.int .i64 x0.2.1.1), (.int .i64 x0.2.1.2), v0_0])].toArray w0 fun e w' => ∃ (q0 : Value) (G0 : List Nat), e = .returned q0 ∧ Below w0.heap.size w0 w' ∧ Sep w0.heap.size w' [R.own ty_40 G0 q0 r] := by
 refine calls_mk' Tryz.func45 rfl Tryz.ntmps45 rfl rfl fun Q hQ hP => ?_
 have hB : Below w0.heap.size w0 w0 := Below.refl _ _
 have hS : Sep w0.heap.size w0 [] := Sep.nil _ _
 unfold F_impl_sheetMoves at hF
 refine W.seq fun K1 hK1 => W.region (wl_box (cs := [(.int .i64 x0.1), (.int .i64 x0.2.1.1), (.int .i64 x0.2.1.2), v0_0]) rfl rfl rfl hB hS ?_)
 intro b2 w3 hb4 hB5 hS6
 refine wl_assign rfl rfl (WL.nil (fun a ha => hK1 _ _ (W.seq fun K7 hK7 => ?_) a ha))
 obtain ⟨k17, hk17, hF⟩ := jE3 hF
 have hJ18 : ∀ (l11 : (List ((Int × Int) × (Int × Int) × Int))) (y15 : Int) (y16 : Int) (v12 : Value) (F13 : List Nat) (b14 : Nat) (w8 : World) (_ : k17 l11 y15 y16 = some r) (_ : Below w0.heap.size w0 w8) (_ : Sep w0.heap.size w8 [R.blk b2 48 [(.int .i64 x0.1), (.int .i64 x0.2.1.1), (.int .i64 x0.2.1.2), v0_0], R.own ty_40 F13 v12 l11, R.blk b14 38 [(.int .i64 y15), (.int .i64 y16)]]), ∀ a, St 30 [(1, (.pointer (some ⟨b2, 0, none⟩))), (3, v12), (4, (.pointer (some ⟨b14, 0, none⟩)))] a → K7 a w8 := by
  intro l11 y15 y16 v12 F13 b14 w8 hF hB9 hS10
  subst hk17
  refine fun a ha => hK7 _ _ (W.seq fun K19 hK19 => (W.seq fun K20 hK20 => (W.region (wl_field (o := 3) (off' := 3) ff_48_2 rfl rfl rfl (wl_load_blk (i := 0) (vs := [v0_0]) (v := v0_0) tf_46 rfl rfl hS10 rfl rfl rfl (wl_lenr (e := ty_101) (l := x0.2.2) Tryz.underlying46 rfl rfl h0_0 (wl_move rfl rfl (WL.nil (fun a ha => hK20 _ _ (W.block (W.loopk (fun m a w21 => ∃ (l24 : (List ((Int × Int) × (Int × Int) × Int))) (y27 : Int) (y28 : Int) (y29 : Int) (v25 : Value) (F26 : List Nat), St 30 [(3, v25), (4, (.pointer (some ⟨b14, 0, none⟩))), (11, v0_0), (12, (.int .i64 (List.length x0.2.2 : Int))), (13, (.int .i64 y29))] a ∧ Below w0.heap.size w0 w21 ∧ Sep w0.heap.size w21 [R.own ty_40 F26 v25 l24, R.blk b14 38 [(.int .i64 y27), (.int .i64 y28)]] ∧ F_impl_sheetMoves_L1 x0 m l24 y27 y28 y29 = some r) FU ?_ ?_)) a ha))))))))) a ha
  ·
   exact fun a ha => ⟨l11, y15, y16, 0, v12, F13, ha.sub ⟨rfl, rfl, rfl, rfl, rfl, trivial⟩, hB9, (hS10.sel [1, 2] rfl), hF⟩
  ·
   rintro m32 a w21 ⟨l24, y27, y28, y29, v25, F26, ha, hB22, hS23, hF⟩ KL31 hKL31
   refine W.at ?_ ha
   cases m32 with
   | zero => exact noneE hF
   | succ m32 =>
    obtain ⟨nx30, hnx30⟩ : ∃ k, k = F_impl_sheetMoves_L1 x0 m32 := ⟨_, rfl⟩
    rw [F_impl_sheetMoves_L1, ← hnx30] at hF
    refine W.seq fun K33 hK33 => W.region (wl_lss rfl rfl rfl (WL.nil (fun a ha => hK33 _ _ (W.seq fun K34 hK34 => (W.cond rfl (fun h35 => ?_) (fun h35 => ?_))) a ha)))
    ·replace hF := ifP h35 hF
     refine W.skip fun a ha => hK34 _ _ (W.seq fun K36 hK36 => (W.block (W.seq fun K37 hK37 => (W.region ?_)))) a ha
     obtain ⟨u38, hu38, hF⟩ := bindE hF
     refine wl_index (e := ty_101) Tryz.underlying46 rfl rfl rfl h0_0 hu38 ?_
     rintro p39 _ rfl hp40
     refine wl_load_p (vs := [(.int .i64 u38.1), (.int .i64 u38.2.1), (.int .i64 u38.2.2)]) (v := (.agg #[(.int .i64 u38.1), (.int .i64 u38.2.1), (.int .i64 u38.2.2)])) tf_101 rfl rfl (hp40.ro hB22) rfl rfl (wl_alloc (cs := [(.int .i64 0), (.int .i64 0), (.int .i64 0)]) tf_101 rfl rfl hB22 hS23 ?_)
     intro b41 w42 hb43 hB44 hS45
     refine wl_store_blk (i := 0) (vs := [(.int .i64 u38.1), (.int .i64 u38.2.1), (.int .i64 u38.2.2)]) (cs' := [(.int .i64 u38.1), (.int .i64 u38.2.1), (.int .i64 u38.2.2)]) tf_101 rfl rfl rfl rfl hB44 hS45 rfl rfl ⟨rfl, rfl, rfl, trivial⟩ rfl ?_
     intro w46 hk49 hB47 hS48
     refine WL.nil fun a ha => hK37 _ _ (W.seq fun K50 hK50 => (W.region (wl_move rfl rfl (wl_load_blk (i := 2) (vs := [(.int .i64 y27), (.int .i64 y28)]) (v := (.agg #[(.int .i64 y27), (.int .i64 y28)])) tf_38 rfl rfl hS48 rfl rfl rfl (wl_field (o := 1) (off' := 1) ff_101_1 rfl rfl rfl (wl_load_blk (i := 0) (vs := [(.int .i64 u38.2.1), (.int .i64 u38.2.2)]) (v := (.agg #[(.int .i64 u38.2.1), (.int .i64 u38.2.2)])) tf_38 rfl rfl hS48 rfl rfl rfl (wl_field (o := 0) (off' := 0) ff_101_0 rfl rfl rfl (wl_load_blk (i := 0) (vs := [(.int .i64 u38.1)]) (v := (.int .i64 u38.1)) tf_3 rfl rfl hS48 rfl rfl rfl ?_)))))))) a ha
     refine wl_build (zs := [(.int .i64 0), (.int .i64 0), (.int .i64 0), (.int .i64 0), (.int .i64 0)]) (out := [(.int .i64 y27), (.int .i64 y28), (.int .i64 u38.2.1), (.int .i64 u38.2.2), (.int .i64 u38.1)]) (vs := [(.agg #[(.int .i64 y27), (.int .i64 y28)]), (.agg #[(.int .i64 u38.2.1), (.int .i64 u38.2.2)]), (.int .i64 u38.1)]) (css := [[(.int .i64 y27), (.int .i64 y28)], [(.int .i64 u38.2.1), (.int .i64 u38.2.2)], [(.int .i64 u38.1)]]) tf_40 pl_40 rfl rfl rfl rfl rfl (wl_lit (vs := [(.agg #[(.int .i64 y27), (.int .i64 y28), (.int .i64 u38.2.1), (.int .i64 u38.2.2), (.int .i64 u38.1)])]) (l := [((y27, y28), u38.2, u38.1)]) fl_40 Tryz.underlying33 rfl rfl rfl rfl rfl rfl hB47 hS48 ?_)
     intro v51 F52 w53 hb54 hB55 hS56
     obtain ⟨u57, hu57, hF⟩ := bindE hF
     refine wl_append (i := 2) (S := (· < w53.heap.size)) fl_40 Tryz.underlying33 rfl rfl rfl hB55 hS56 rfl (hS56.own_ro (i := 0) rfl) hu57 ?_
     intro v58 F59 w60 hk61 hB62 hS63
     refine wl_assign rfl rfl (WL.nil (fun a ha => hK50 _ _ (W.region (wl_field (o := 1) (off' := 1) ff_101_1 rfl rfl rfl (wl_load_blk (i := 1) (vs := [(.int .i64 u38.2.1), (.int .i64 u38.2.2)]) (v := (.agg #[(.int .i64 u38.2.1), (.int .i64 u38.2.2)])) tf_38 rfl rfl hS63 rfl rfl rfl (wl_store_blk (i := 3) (vs := [(.int .i64 u38.2.1), (.int .i64 u38.2.2)]) (cs' := [(.int .i64 u38.2.1), (.int .i64 u38.2.2)]) tf_38 rfl rfl rfl rfl hB62 hS63 rfl rfl ⟨rfl, rfl, trivial⟩ rfl ?_)))) a ha))
     intro w65 hk68 hB66 hS67
     refine WL.nil fun a ha => hK36 _ _ (W.region (wl_add rfl rfl rfl (wl_move rfl rfl (WL.nil ?_)))) a ha
     rw [hnx30] at hF
     exact fun a ha => hKL31 a _ m32 (Nat.lt_succ_self m32) ⟨u57, u38.2.1, u38.2.2, (w64 (y29 + 1)), v58, F59, ha.sub ⟨rfl, rfl, rfl, rfl, rfl, trivial⟩, hB66, (hS67.sel [2, 3] rfl), hF⟩
    ·replace hF := ifN h35 hF
     refine W.exit fun a ha => hK19 _ _ (W.seq fun K69 hK69 => (W.region (wl_move rfl rfl (wl_assign rfl rfl (WL.nil (fun a ha => hK69 _ _ (W.ret ?_) a ha)))))) a ha
     have hr := Option.some.inj hF
     subst hr
     exact rets (vs := [v25]) hQ rfl ⟨rv_tmp rfl, trivial⟩ ⟨v25, F26, rfl, hB22, hS23.sel [0] rfl⟩
 refine W.regionH mixed_ [] hB5 hS6 ?_
 intro w70 hb71 hB72 hS73
 have hSW74 := KeepX.refl w70 []
 refine WH.tk 1 rfl hP hSW74 (pr_field (o := 1) (off' := 1) ff_48_1 rfl rfl rfl (WH.tk 2 rfl hP hSW74 (pr_load_blk (i := 0) (vs := [(.int .i64 x0.2.1.1), (.int .i64 x0.2.1.2)]) (v := (.agg #[(.int .i64 x0.2.1.1), (.int .i64 x0.2.1.2)])) tf_38 rfl rfl hS73 rfl rfl rfl (by simp) (WH.many (is := [0, 3]) (by kernel_rfl) rfl (List.forall_mem_cons.2 ⟨⟨_, rfl, ?_⟩, List.forall_mem_cons.2 ⟨⟨_, rfl, ?_⟩, fun _ h => by cases h⟩⟩)))))
 ·
  refine wl_lit (vs := []) (l := []) fl_40 Tryz.underlying33 rfl rfl rfl rfl rfl rfl (Below.self w70) (Sep.nil _ _) ?_
  intro v75 F76 w77 hb78 hB81 hM82
  have hB79 := hB72.trans (hb78.mono hB72.size)
  have hS80 := hS73.join hb78 hM82 hB72.size
  have hSW84 := hSW74.ext hb78
  refine WL.nil (WH.ret hSW84 (WH.on1 3 rfl (wl_alloc (cs := [(.int .i64 0), (.int .i64 0)]) tf_38 rfl rfl (Below.self w77) (Sep.nil _ _) ?_)))
  intro b85 w86 hb87 hB90 hM91
  have hB88 := hB79.trans (hb87.mono hB79.size)
  have hS89 := hS80.join hb87 hM91 hB79.size
  have hn92 : ∀ b ∈ [b85], w70.heap.size ≤ b := fun b hb => Nat.le_trans hSW84.size ((hM91.1 _ (List.mem_cons_self ..)).2.1 b hb).1
  have hSW93 := hSW84.ext hb87
  refine WL.nil (WH.ret hSW93 (WH.tk 4 rfl hP hSW93 (pr_assign rfl rfl (WH.on1 5 rfl (wl_store_blk (i := 0) (vs := [(.int .i64 x0.2.1.1), (.int .i64 x0.2.1.2)]) (cs' := [(.int .i64 x0.2.1.1), (.int .i64 x0.2.1.2)]) tf_38 rfl rfl rfl rfl hB88 hS89 rfl rfl ⟨rfl, rfl, trivial⟩ rfl ?_)))))
  intro w94 hk97 hB95 hS96
  have hSW98 := hSW93.wr' hk97.1 hk97.2.1 (fun b hlt hb => absurd hlt (Nat.not_lt.2 (hn92 b hb)))
  refine WL.nil (WH.ret hSW98 (WH.done (by kernel_rfl) ?_))
  exact fun a ha => hJ18 ([]) (x0.2.1.1) (x0.2.1.2) (v75) (F76) (b85) _ hF hB95 (hS96.sel [2, 1, 0] rfl) a (ha.sub ⟨rfl, rfl, rfl, trivial⟩)
 ·
  refine wl_alloc (cs := [(.int .i64 0), (.int .i64 0)]) tf_38 rfl rfl (Below.self w70) (Sep.nil _ _) ?_
  intro b100 w101 hb102 hB105 hM106
  have hB103 := hB72.trans (hb102.mono hB72.size)
  have hS104 := hS73.join hb102 hM106 hB72.size
  have hn107 : ∀ b ∈ [b100], w70.heap.size ≤ b := fun b hb => Nat.le_trans hSW74.size ((hM106.1 _ (List.mem_cons_self ..)).2.1 b hb).1
  have hSW108 := hSW74.ext hb102
  refine WL.nil (WH.ret hSW108 (WH.on1 0 rfl (wl_lit (vs := []) (l := []) fl_40 Tryz.underlying33 rfl rfl rfl rfl rfl rfl (Below.self w101) (Sep.nil _ _) ?_)))
  intro v109 F110 w111 hb112 hB115 hM116
  have hB113 := hB103.trans (hb112.mono hB103.size)
  have hS114 := hS104.join hb112 hM116 hB103.size
  have hSW118 := hSW108.ext hb112
  refine WL.nil (WH.ret hSW118 (WH.tk 4 rfl hP hSW118 (pr_assign rfl rfl (WH.on1 5 rfl (wl_store_blk (i := 1) (vs := [(.int .i64 x0.2.1.1), (.int .i64 x0.2.1.2)]) (cs' := [(.int .i64 x0.2.1.1), (.int .i64 x0.2.1.2)]) tf_38 rfl rfl rfl rfl hB113 hS114 rfl rfl ⟨rfl, rfl, trivial⟩ rfl ?_)))))
  intro w119 hk122 hB120 hS121
  have hSW123 := hSW118.wr' hk122.1 hk122.2.1 (fun b hlt hb => absurd hlt (Nat.not_lt.2 (hn107 b hb)))
  refine WL.nil (WH.ret hSW123 (WH.done (by kernel_rfl) ?_))
  exact fun a ha => hJ18 ([]) (x0.2.1.1) (x0.2.1.2) (v109) (F110) (b100) _ hF hB120 (hS121.sel [2, 0, 1] rfl) a (ha.sub ⟨rfl, rfl, rfl, trivial⟩)
theorem C_impl_floorDiv (w0 : World) (x0 : Int) (x1 : Int) (r : Int) (hF : F_impl_floorDiv x0 x1 = some r) :
  Calls Tryz.prog 102 [(.int .i64 x0), (.int .i64 x1)].toArray w0 fun e w' => e = .returned (.int .i64 r) ∧ Below w0.heap.size w0 w' := by
 refine calls_mk' Tryz.func102 rfl Tryz.ntmps102 rfl rfl fun Q hQ hP => ?_
 have hB : Below w0.heap.size w0 w0 := Below.refl _ _
 have hS : Sep w0.heap.size w0 [] := Sep.nil _ _
 unfold F_impl_floorDiv at hF
 refine W.seq fun K1 hK1 => W.region (wl_assign rfl rfl (WL.nil (fun a ha => hK1 _ _ (W.seq fun K2 hK2 => (W.region (wl_move rfl rfl (wl_move rfl rfl ?_)))) a ha)))
 have h3 : x1 ≠ 0 := fun h3 => noneE (ifP h3 hF)
 replace hF := ifNP h3 hF
 refine wl_quo rfl rfl rfl h3 (wl_assign rfl rfl (WL.nil (fun a ha => hK2 _ _ (W.seq fun K4 hK4 => ?_) a ha)))
 obtain ⟨k9, hk9, hF⟩ := jE1 hF
 have hJ10 : ∀ (y8 : Int) (w5 : World) (_ : k9 y8 = some r) (_ : Below w0.heap.size w0 w5) (_ : Sep w0.heap.size w5 []), ∀ a, St 16 [(5, (.int .i64 y8))] a → K4 a w5 := by
  intro y8 w5 hF hB6 hS7
  subst hk9
  refine fun a ha => hK4 _ _ (W.seq fun K11 hK11 => (W.region (wl_move rfl rfl (wl_assign rfl rfl (WL.nil (fun a ha => hK11 _ _ (W.ret ?_) a ha)))))) a ha
  have hr := Option.some.inj hF
  subst hr
  exact rets (vs := [(.int .i64 y8)]) hQ rfl ⟨rv_tmp rfl, trivial⟩ ⟨rfl, hB6⟩
 refine W.seq fun K12 hK12 => W.region (wl_move rfl rfl (wl_move rfl rfl ?_))
 have h13 : x1 ≠ 0 := fun h13 => noneE (ifP h13 hF)
 replace hF := ifNP h13 hF
 refine wl_rem rfl rfl rfl h13 (wl_lss rfl rfl rfl (WL.nil (fun a ha => hK12 _ _ (W.cond rfl (fun h14 => ?_) (fun h14 => ?_)) a ha)))
 ·replace hF := ifP h14 hF
  refine W.region (wl_move rfl rfl (wl_sub rfl rfl rfl (wl_assign rfl rfl (WL.nil ?_))))
  exact fun a ha => hJ10 ((w64 ((w64 (Int.tdiv x0 x1)) - 1))) _ hF hB (hS.sel [] rfl) a (ha.sub ⟨rfl, trivial⟩)
 ·replace hF := ifN h14 hF
  refine W.skip ?_
  exact fun a ha => hJ10 ((w64 (Int.tdiv x0 x1))) _ hF hB (hS.sel [] rfl) a (ha.sub ⟨rfl, trivial⟩)
theorem C_impl_roundDiv (w0 : World) (x0 : Int) (x1 : Int) (r : Int) (hF : F_impl_roundDiv x0 x1 = some r) :
  Calls Tryz.prog 81 [(.int .i64 x0), (.int .i64 x1)].toArray w0 fun e w' => e = .returned (.int .i64 r) ∧ Below w0.heap.size w0 w' := by
 refine calls_mk' Tryz.func81 rfl Tryz.ntmps81 rfl rfl fun Q hQ hP => ?_
 have hB : Below w0.heap.size w0 w0 := Below.refl _ _
 unfold F_impl_roundDiv at hF
 refine W.seq fun K1 hK1 => W.region (wl_assign rfl rfl (WL.nil (fun a ha => hK1 _ _ (W.seq fun K2 hK2 => (W.region (wl_move rfl rfl (wl_mul rfl rfl rfl (wl_move rfl rfl (wl_add rfl rfl rfl (wl_move rfl rfl (wl_mul rfl rfl rfl ?_)))))))) a ha)))
 obtain ⟨u3, hu3, hF⟩ := bindE hF
 refine wl_call rfl Tryz.call102 (C_impl_floorDiv w0 (w64 ((w64 (2 * x0)) + x1)) (w64 (2 * x1)) _ hu3) rfl ?_
 rintro _ w4 ⟨rfl, hb5⟩
 refine ⟨_, rfl, ?_⟩
 have hB6 := hB.trans (hb5.mono hB.size)
 refine wl_assign rfl rfl (WL.nil (fun a ha => hK2 _ _ (W.ret ?_) a ha))
 have hr := Option.some.inj hF
 subst hr
 exact rets (vs := [(.int .i64 u3)]) hQ rfl ⟨rv_tmp rfl, trivial⟩ ⟨rfl, hB6⟩
theorem C_impl_roundedAt (w0 : World) (x0 : ((Int × Int) × (Int × Int) × Int)) (x1 : Int) (r : (Int × Int)) (hF : F_impl_roundedAt x0 x1 = some r) :
  Calls Tryz.prog 46 [(.agg #[(.int .i64 x0.1.1), (.int .i64 x0.1.2), (.int .i64 x0.2.1.1), (.int .i64 x0.2.1.2), (.int .i64 x0.2.2)]), (.int .i64 x1)].toArray w0 fun e w' => e = .returned (.agg #[(.int .i64 r.1), (.int .i64 r.2)]) ∧ Below w0.heap.size w0 w' := by
 refine calls_mk' Tryz.func46 rfl Tryz.ntmps46 rfl rfl fun Q hQ hP => ?_
 have hB : Below w0.heap.size w0 w0 := Below.refl _ _
 have hS : Sep w0.heap.size w0 [] := Sep.nil _ _
 unfold F_impl_roundedAt at hF
 refine W.seq fun K1 hK1 => W.region (wl_box (cs := [(.int .i64 x0.1.1), (.int .i64 x0.1.2), (.int .i64 x0.2.1.1), (.int .i64 x0.2.1.2), (.int .i64 x0.2.2)]) rfl rfl rfl hB hS ?_)
 intro b2 w3 hb4 hB5 hS6
 refine wl_alloc (cs := [(.int .i64 0), (.int .i64 0)]) tf_38 rfl rfl hB5 hS6 ?_
 intro b7 w8 hb9 hB10 hS11
 refine WL.nil fun a ha => hK1 _ _ (W.seq fun K12 hK12 => (W.region (wl_load_blk (i := 1) (vs := [(.int .i64 x0.1.1), (.int .i64 x0.1.2), (.int .i64 x0.2.1.1), (.int .i64 x0.2.1.2), (.int .i64 x0.2.2)]) (v := (.agg #[(.int .i64 x0.1.1), (.int .i64 x0.1.2), (.int .i64 x0.2.1.1), (.int .i64 x0.2.1.2), (.int .i64 x0.2.2)])) tf_40 rfl rfl hS11 rfl rfl rfl (wl_move rfl rfl ?_)))) a ha
 obtain ⟨u13, hu13, hF⟩ := bindE hF
 refine wl_call rfl Tryz.call42 (C_impl_placeAt w8 x0 x1 _ hu13) rfl ?_
 rintro _ w14 ⟨rfl, hb15⟩
 refine ⟨_, rfl, ?_⟩
 have hB16 := hB10.trans (hb15.mono hB10.size)
 have hS17 := hS11.below hb15
 refine wl_move rfl rfl (wl_extract rfl rfl rfl (wl_extract rfl rfl rfl (wl_assign rfl rfl (wl_assign rfl rfl (WL.nil (fun a ha => hK12 _ _ (W.seq fun K19 hK19 => (W.regionH mixed_ [b7] hB16 hS17 ?_)) a ha))))))
 intro w20 hb21 hB22 hS23
 have hSW24 := KeepX.refl w20 [b7]
 refine WH.tk 0 rfl hP hSW24 (pr_move rfl rfl (WH.tk 1 rfl hP hSW24 (pr_field (o := 4) (off' := 4) ff_40_2 rfl rfl rfl (WH.tk 2 rfl hP hSW24 (pr_load_blk (i := 1) (vs := [(.int .i64 x0.2.2)]) (v := (.int .i64 x0.2.2)) tf_3 rfl rfl hS23 rfl rfl rfl (hS23.disj (i := 1) (j := 0) rfl rfl rfl b2 (by simp [R.blk])) (WH.tk 4 rfl hP hSW24 (pr_move rfl rfl (WH.tk 5 rfl hP hSW24 (pr_field (o := 4) (off' := 4) ff_40_2 rfl rfl rfl (WH.tk 6 rfl hP hSW24 (pr_load_blk (i := 1) (vs := [(.int .i64 x0.2.2)]) (v := (.int .i64 x0.2.2)) tf_3 rfl rfl hS23 rfl rfl rfl (hS23.disj (i := 1) (j := 0) rfl rfl rfl b2 (by simp [R.blk])) (WH.on1 3 rfl ?_))))))))))))
 obtain ⟨u25, hu25, hF⟩ := bindE hF
 refine wl_call rfl Tryz.call81 (C_impl_roundDiv w20 u13.1 x0.2.2 _ hu25) rfl ?_
 rintro _ w26 ⟨rfl, hb27⟩
 refine ⟨_, rfl, ?_⟩
 have hB28 := hB22.trans (hb27.mono hB22.size)
 have hS29 := hS23.below hb27
 have hSW31 := hSW24.ext hb27
 refine WL.nil (WH.ret hSW31 (WH.on1 7 rfl ?_))
 obtain ⟨u33, hu33, hF⟩ := bindE hF
 refine wl_call rfl Tryz.call81 (C_impl_roundDiv w26 u13.2 x0.2.2 _ hu33) rfl ?_
 rintro _ w34 ⟨rfl, hb35⟩
 refine ⟨_, rfl, ?_⟩
 have hB36 := hB28.trans (hb35.mono hB28.size)
 have hS37 := hS29.below hb35
 have hSW39 := hSW31.ext hb35
 refine WL.nil (WH.ret hSW39 (WH.tk 8 rfl hP hSW39 (pr_build (zs := [(.int .i64 0), (.int .i64 0)]) (out := [(.int .i64 u25), (.int .i64 u33)]) (vs := [(.int .i64 u25), (.int .i64 u33)]) (css := [[(.int .i64 u25)], [(.int .i64 u33)]]) tf_38 pl_38 rfl rfl rfl rfl rfl (WH.on1 9 rfl (wl_store_blk (i := 0) (vs := [(.int .i64 u25), (.int .i64 u33)]) (cs' := [(.int .i64 u25), (.int .i64 u33)]) tf_38 rfl rfl rfl rfl hB36 hS37 rfl rfl ⟨rfl, rfl, trivial⟩ rfl ?_)))))
 intro w41 hk44 hB42 hS43
 have hSW45 := hSW39.wr' hk44.1 hk44.2.1 (fun _ _ h => h)
 refine WL.nil (WH.ret hSW45 (WH.done (by kernel_rfl) (fun a ha => hK19 _ _ (W.ret ?_) a ha)))
 have hr := Option.some.inj hF
 subst hr
 exact rets (vs := [(.agg #[(.int .i64 u25), (.int .i64 u33)])]) hQ rfl ⟨rv_cell (i := 0) tf_38 rfl hS43 rfl rfl rfl, trivial⟩ ⟨rfl, hB42⟩
theorem C_impl_SpotAfter (w0 : World) (x0 : (Int × (Int × Int) × (List (Int × (Int × Int))))) (v0_0 : Value) (h0_0 : rdS ty_101 (· < w0.heap.size) w0 v0_0 x0.2.2) (x1 : Int) (r : ((Int × Int) × Bool)) (hF : F_impl_SpotAfter x0 x1 = some r) :
  Calls Tryz.prog 15 [(.agg #[(.int .i64 x0.1), (.int .i64 x0.2.1.1), (.int .i64 x0.2.1.2), v0_0]), (.int .i64 x1)].toArray w0 fun e w' => e = .returned (.tuple #[(.agg #[(.int .i64 r.1.1), (.int .i64 r.1.2)]), (.bool r.2)]) ∧ Below w0.heap.size w0 w' := by
 refine calls_mk' Tryz.func15 rfl Tryz.ntmps15 rfl rfl fun Q hQ hP => ?_
 have hB : Below w0.heap.size w0 w0 := Below.refl _ _
 have hS : Sep w0.heap.size w0 [] := Sep.nil _ _
 unfold F_impl_SpotAfter at hF
 refine W.seq fun K1 hK1 => W.region (wl_box (cs := [(.int .i64 x0.1), (.int .i64 x0.2.1.1), (.int .i64 x0.2.1.2), v0_0]) rfl rfl rfl hB hS ?_)
 intro b2 w3 hb4 hB5 hS6
 refine wl_alloc (cs := [(.int .i64 0), (.int .i64 0)]) tf_38 rfl rfl hB5 hS6 ?_
 intro b7 w8 hb9 hB10 hS11
 refine wl_assign rfl rfl (WL.nil (fun a ha => hK1 _ _ (W.seq fun K12 hK12 => (W.seq fun K13 hK13 => ?_)) a ha))
 obtain ⟨k18, hk18, hF⟩ := jE1 hF
 have hJ19 : ∀ (y17 : Bool) (w14 : World) (_ : k18 y17 = some r) (_ : Below w0.heap.size w0 w14) (_ : Sep w0.heap.size w14 [R.blk b2 48 [(.int .i64 x0.1), (.int .i64 x0.2.1.1), (.int .i64 x0.2.1.2), v0_0], R.blk b7 38 [(.int .i64 0), (.int .i64 0)]]), ∀ a, St 40 [(1, (.int .i64 x1)), (2, (.pointer (some ⟨b2, 0, none⟩))), (4, (.pointer (some ⟨b7, 0, none⟩))), (14, (.bool y17))] a → K13 a w14 := by
  intro y17 w14 hF hB15 hS16
  subst hk18
  refine fun a ha => hK13 _ _ (W.cond rfl (fun h20 => ?_) (fun h20 => ?_)) a ha
  ·replace hF := ifP h20 hF
   refine W.seq fun K21 hK21 => W.region (wl_build (zs := [(.int .i64 0), (.int .i64 0)]) (out := [(.int .i64 0), (.int .i64 0)]) (vs := []) (css := []) tf_38 pl_38 rfl rfl rfl rfl rfl (wl_store_blk (i := 1) (vs := [(.int .i64 0), (.int .i64 0)]) (cs' := [(.int .i64 0), (.int .i64 0)]) tf_38 rfl rfl rfl rfl hB15 hS16 rfl rfl ⟨rfl, rfl, trivial⟩ rfl ?_))
   intro w22 hk25 hB23 hS24
   refine wl_assign rfl rfl (WL.nil (fun a ha => hK21 _ _ (W.ret ?_) a ha))
   have hr := Option.some.inj hF
   subst hr
   exact rets (vs := [(.agg #[(.int .i64 0), (.int .i64 0)]), (.bool false)]) hQ rfl ⟨rv_cell (i := 1) tf_38 rfl hS24 rfl rfl rfl, rv_tmp rfl, trivial⟩ ⟨rfl, hB23⟩
  ·replace hF := ifN h20 hF
   refine W.skip fun a ha => hK12 _ _ (W.seq fun K26 hK26 => (W.seq fun K27 hK27 => (W.region (wl_load_blk (i := 0) (vs := [(.int .i64 x0.1), (.int .i64 x0.2.1.1), (.int .i64 x0.2.1.2), v0_0]) (v := (.agg #[(.int .i64 x0.1), (.int .i64 x0.2.1.1), (.int .i64 x0.2.1.2), v0_0])) tf_48 rfl rfl hS16 rfl rfl rfl ?_)))) a ha
   obtain ⟨u28, hu28, hF⟩ := bindE hF
   refine wl_call rfl Tryz.call45 (C_impl_sheetMoves w14 x0 v0_0 (h0_0.ro hB15) _ hu28) rfl ?_
   rintro _ w31 ⟨v29, F30, rfl, hb32, hM35⟩
   refine ⟨_, rfl, ?_⟩
   have hB33 := hB15.trans (hb32.mono hB15.size)
   have hS34 := hS16.join hb32 hM35 hB15.size
   refine wl_lenr (e := ty_40) (l := u28) Tryz.underlying33 rfl rfl (hS34.own_ro (i := 0) rfl) (wl_move rfl rfl (WL.nil (fun a ha => hK27 _ _ (W.block (W.loopk (fun m a w36 => ∃ (y39 : Int) (y40 : Int), St 40 [(1, (.int .i64 y39)), (2, (.pointer (some ⟨b2, 0, none⟩))), (4, (.pointer (some ⟨b7, 0, none⟩))), (17, v29), (18, (.int .i64 (List.length u28 : Int))), (19, (.int .i64 y40))] a ∧ Below w0.heap.size w0 w36 ∧ Sep w0.heap.size w36 [R.blk b2 48 [(.int .i64 x0.1), (.int .i64 x0.2.1.1), (.int .i64 x0.2.1.2), v0_0], R.blk b7 38 [(.int .i64 0), (.int .i64 0)], R.own ty_40 F30 v29 u28] ∧ F_impl_SpotAfter_L1 u28 x0 m y39 y40 = some r) FU ?_ ?_)) a ha)))
   ·
    exact fun a ha => ⟨x1, 0, ha.sub ⟨rfl, rfl, rfl, rfl, rfl, rfl, trivial⟩, hB33, (hS34.sel [1, 2, 0] rfl), hF⟩
   ·
    rintro m43 a w36 ⟨y39, y40, ha, hB37, hS38, hF⟩ KL42 hKL42
    refine W.at ?_ ha
    cases m43 with
    | zero => exact noneE hF
    | succ m43 =>
     obtain ⟨nx41, hnx41⟩ : ∃ k, k = F_impl_SpotAfter_L1 u28 x0 m43 := ⟨_, rfl⟩
     rw [F_impl_SpotAfter_L1, ← hnx41] at hF
     refine W.seq fun K44 hK44 => W.region (wl_lss rfl rfl rfl (WL.nil (fun a ha => hK44 _ _ (W.seq fun K45 hK45 => (W.cond rfl (fun h46 => ?_) (fun h46 => ?_))) a ha)))
     ·replace hF := ifP h46 hF
      refine W.skip fun a ha => hK45 _ _ (W.seq fun K47 hK47 => (W.block (W.seq fun K48 hK48 => (W.region ?_)))) a ha
      obtain ⟨u49, hu49, hF⟩ := bindE hF
      refine wl_indexo (e := ty_40) (i := 2) Tryz.underlying33 rfl rfl rfl hS38 rfl hu49 ?_
      rintro p50 _ rfl hp51 ho52
      refine wl_load_p (vs := [(.int .i64 u49.1.1), (.int .i64 u49.1.2), (.int .i64 u49.2.1.1), (.int .i64 u49.2.1.2), (.int .i64 u49.2.2)]) (v := (.agg #[(.int .i64 u49.1.1), (.int .i64 u49.1.2), (.int .i64 u49.2.1.1), (.int .i64 u49.2.1.2), (.int .i64 u49.2.2)])) tf_40 rfl rfl hp51 rfl rfl (wl_alloc (cs := [(.int .i64 0), (.int .i64 0), (.int .i64 0), (.int .i64 0), (.int .i64 0)]) tf_40 rfl rfl hB37 hS38 ?_)
      intro b53 w54 hb55 hB56 hS57
      refine wl_store_blk (i := 0) (vs := [(.int .i64 u49.1.1), (.int .i64 u49.1.2), (.int .i64 u49.2.1.1), (.int .i64 u49.2.1.2), (.int .i64 u49.2.2)]) (cs' := [(.int .i64 u49.1.1), (.int .i64 u49.1.2), (.int .i64 u49.2.1.1), (.int .i64 u49.2.1.2), (.int .i64 u49.2.2)]) tf_40 rfl rfl rfl rfl hB56 hS57 rfl rfl ⟨rfl, rfl, rfl, rfl, rfl, trivial⟩ rfl ?_
      intro w58 hk61 hB59 hS60
      refine WL.nil fun a ha => hK48 _ _ (W.seq fun K62 hK62 => (W.seq fun K63 hK63 => (W.region (wl_move rfl rfl (wl_field (o := 4) (off' := 4) ff_40_2 rfl rfl rfl (wl_load_blk (i := 0) (vs := [(.int .i64 u49.2.2)]) (v := (.int .i64 u49.2.2)) tf_3 rfl rfl hS60 rfl rfl rfl (wl_leq rfl rfl rfl (WL.nil (fun a ha => hK63 _ _ (W.cond rfl (fun h64 => ?_) (fun h64 => ?_)) a ha))))))))) a ha
      ·replace hF := ifP h64 hF
       refine W.seq fun K65 hK65 => W.region (wl_load_blk (i := 0) (vs := [(.int .i64 u49.1.1), (.int .i64 u49.1.2), (.int .i64 u49.2.1.1), (.int .i64 u49.2.1.2), (.int .i64 u49.2.2)]) (v := (.agg #[(.int .i64 u49.1.1), (.int .i64 u49.1.2), (.int .i64 u49.2.1.1), (.int .i64 u49.2.1.2), (.int .i64 u49.2.2)])) tf_40 rfl rfl hS60 rfl rfl rfl (wl_move rfl rfl ?_))
       obtain ⟨u66, hu66, hF⟩ := bindE hF
       refine wl_call rfl Tryz.call46 (C_impl_roundedAt w58 u49 y39 _ hu66) rfl ?_
       rintro _ w67 ⟨rfl, hb68⟩
       refine ⟨_, rfl, ?_⟩
       have hB69 := hB59.trans (hb68.mono hB59.size)
       have hS70 := hS60.below hb68
       refine wl_store_blk (i := 2) (vs := [(.int .i64 u66.1), (.int .i64 u66.2)]) (cs' := [(.int .i64 u66.1), (.int .i64 u66.2)]) tf_38 rfl rfl rfl rfl hB69 hS70 rfl rfl ⟨rfl, rfl, trivial⟩ rfl ?_
       intro w72 hk75 hB73 hS74
       refine wl_assign rfl rfl (WL.nil (fun a ha => hK65 _ _ (W.ret ?_) a ha))
       have hr := Option.some.inj hF
       subst hr
       exact rets (vs := [(.agg #[(.int .i64 u66.1), (.int .i64 u66.2)]), (.bool true)]) hQ rfl ⟨rv_cell (i := 2) tf_38 rfl hS74 rfl rfl rfl, rv_tmp rfl, trivial⟩ ⟨rfl, hB73⟩
      ·replace hF := ifN h64 hF
       refine W.skip fun a ha => hK62 _ _ (W.region (wl_move rfl rfl (wl_field (o := 4) (off' := 4) ff_40_2 rfl rfl rfl (wl_load_blk (i := 0) (vs := [(.int .i64 u49.2.2)]) (v := (.int .i64 u49.2.2)) tf_3 rfl rfl hS60 rfl rfl rfl (wl_sub rfl rfl rfl (wl_assign rfl rfl (WL.nil (fun a ha => hK47 _ _ (W.region (wl_add rfl rfl rfl (wl_move rfl rfl (WL.nil ?_)))) a ha)))))))) a ha
       rw [hnx41] at hF
       exact fun a ha => hKL42 a _ m43 (Nat.lt_succ_self m43) ⟨(w64 (y39 - u49.2.2)), (w64 (y40 + 1)), ha.sub ⟨rfl, rfl, rfl, rfl, rfl, rfl, trivial⟩, hB59, (hS60.sel [1, 2, 3] rfl), hF⟩
     ·replace hF := ifN h46 hF
      refine W.exit fun a ha => hK26 _ _ (W.seq fun K76 hK76 => (W.seq fun K77 hK77 => (W.region (wl_move rfl rfl (wl_gtr rfl rfl rfl (WL.nil (fun a ha => hK77 _ _ (W.cond rfl (fun h78 => ?_) (fun h78 => ?_)) a ha))))))) a ha
      ·replace hF := ifP h78 hF
       refine W.seq fun K79 hK79 => W.region (wl_build (zs := [(.int .i64 0), (.int .i64 0)]) (out := [(.int .i64 0), (.int .i64 0)]) (vs := []) (css := []) tf_38 pl_38 rfl rfl rfl rfl rfl (wl_store_blk (i := 1) (vs := [(.int .i64 0), (.int .i64 0)]) (cs' := [(.int .i64 0), (.int .i64 0)]) tf_38 rfl rfl rfl rfl hB37 hS38 rfl rfl ⟨rfl, rfl, trivial⟩ rfl ?_))
       intro w80 hk83 hB81 hS82
       refine wl_assign rfl rfl (WL.nil (fun a ha => hK79 _ _ (W.ret ?_) a ha))
       have hr := Option.some.inj hF
       subst hr
       exact rets (vs := [(.agg #[(.int .i64 0), (.int .i64 0)]), (.bool false)]) hQ rfl ⟨rv_cell (i := 1) tf_38 rfl hS82 rfl rfl rfl, rv_tmp rfl, trivial⟩ ⟨rfl, hB81⟩
      ·replace hF := ifN h78 hF
       refine W.skip fun a ha => hK76 _ _ (W.seq fun K84 hK84 => (W.region (wl_field (o := 1) (off' := 1) ff_48_1 rfl rfl rfl (wl_load_blk (i := 0) (vs := [(.int .i64 x0.2.1.1), (.int .i64 x0.2.1.2)]) (v := (.agg #[(.int .i64 x0.2.1.1), (.int .i64 x0.2.1.2)])) tf_38 rfl rfl hS38 rfl rfl rfl (wl_store_blk (i := 1) (vs := [(.int .i64 x0.2.1.1), (.int .i64 x0.2.1.2)]) (cs' := [(.int .i64 x0.2.1.1), (.int .i64 x0.2.1.2)]) tf_38 rfl rfl rfl rfl hB37 hS38 rfl rfl ⟨rfl, rfl, trivial⟩ rfl ?_))))) a ha
       intro w85 hk88 hB86 hS87
       refine wl_assign rfl rfl (WL.nil (fun a ha => hK84 _ _ (W.ret ?_) a ha))
       have hr := Option.some.inj hF
       subst hr
       exact rets (vs := [(.agg #[(.int .i64 x0.2.1.1), (.int .i64 x0.2.1.2)]), (.bool true)]) hQ rfl ⟨rv_cell (i := 1) tf_38 rfl hS87 rfl rfl rfl, rv_tmp rfl, trivial⟩ ⟨rfl, hB86⟩
 refine W.region (wl_load_blk (i := 1) (vs := [(.int .i64 x0.1), (.int .i64 x0.2.1.1), (.int .i64 x0.2.1.2), v0_0]) (v := (.agg #[(.int .i64 x0.1), (.int .i64 x0.2.1.1), (.int .i64 x0.2.1.2), v0_0])) tf_48 rfl rfl hS11 rfl rfl rfl ?_)
 obtain ⟨u89, hu89, hF⟩ := bindE hF
 refine wl_call rfl Tryz.call44 (C_impl_IsSheet w8 x0 v0_0 (h0_0.ro hB10) _ hu89) rfl ?_
 rintro _ w90 ⟨rfl, hb91⟩
 refine ⟨_, rfl, ?_⟩
 have hB92 := hB10.trans (hb91.mono hB10.size)
 have hS93 := hS11.below hb91
 refine wl_not rfl rfl (wl_move rfl rfl ?_)
 rcases bE (!u89) with h95 | h95
 ·replace hF := ifP h95 hF
  refine wl_off rfl rfl rfl h95 (wl_off rfl rfl rfl h95 (wl_pick_t rfl rfl h95 rfl (WL.nil ?_)))
  exact fun a ha => hJ19 (true) _ hF hB92 (hS93.sel [1, 0] rfl) a (ha.sub ⟨rfl, rfl, rfl, rfl, trivial⟩)
 ·replace hF := ifN h95 hF
  refine wl_on rfl rfl h95 (wl_move rfl rfl (wl_on rfl rfl h95 (wl_lss rfl rfl rfl (wl_pick_f rfl rfl h95 rfl (WL.nil ?_)))))
  exact fun a ha => hJ19 ((decide (x1 < 0))) _ hF hB92 (hS93.sel [1, 0] rfl) a (ha.sub ⟨rfl, rfl, rfl, rfl, trivial⟩)
theorem C_impl_stepsText (w0 : World) (hT : Tab w0) (x0 : Int) (r : (List UInt8)) (hF : F_impl_stepsText x0 = some r) :
  Calls Tryz.prog 103 [(.int .i64 x0)].toArray w0 fun e w' => e = .returned (.string (mkS r)) ∧ Below w0.heap.size w0 w' := by
 refine calls_mk' Tryz.func103 rfl Tryz.ntmps103 rfl rfl fun Q hQ hP => ?_
 have hB : Below w0.heap.size w0 w0 := Below.refl _ _
 have hS : Sep w0.heap.size w0 [] := Sep.nil _ _
 unfold F_impl_stepsText at hF
 refine W.seq fun K1 hK1 => W.region (wl_assign rfl rfl (WL.nil (fun a ha => hK1 _ _ (W.seq fun K2 hK2 => (W.region (wl_move rfl rfl (wl_quo rfl rfl rfl (by decide) ?_)))) a ha)))
 obtain ⟨u3, hu3, hF⟩ := bindE hF
 refine wl_call rfl Tryz.call84 (C_strconv_Itoa w0 (hT.st hB) (w64 (Int.tdiv x0 8)) _ hu3) rfl ?_
 rintro _ w4 ⟨rfl, hb5⟩
 refine ⟨_, rfl, ?_⟩
 have hB6 := hB.trans (hb5.mono hB.size)
 have hS7 := hS.below hb5
 refine wl_assign rfl rfl (WL.nil (fun a ha => hK2 _ _ (W.seq fun K9 hK9 => ?_) a ha))
 obtain ⟨k14, hk14, hF⟩ := jE1 hF
 have hJ15 : ∀ (y13 : (List UInt8)) (w10 : World) (_ : k14 y13 = some r) (_ : Below w0.heap.size w0 w10) (_ : Sep w0.heap.size w10 []), ∀ a, St 17 [(3, (.string (mkS y13)))] a → K9 a w10 := by
  intro y13 w10 hF hB11 hS12
  subst hk14
  refine fun a ha => hK9 _ _ (W.seq fun K16 hK16 => (W.region (wl_move rfl rfl (wl_assign rfl rfl (WL.nil (fun a ha => hK16 _ _ (W.ret ?_) a ha)))))) a ha
  have hr := Option.some.inj hF
  subst hr
  exact rets (vs := [(.string (mkS y13))]) hQ rfl ⟨rv_tmp rfl, trivial⟩ ⟨rfl, hB11⟩
 refine W.seq fun K17 hK17 => W.region (wl_move rfl rfl (wl_rem rfl rfl rfl (by decide) (wl_gtr rfl rfl rfl (WL.nil (fun a ha => hK17 _ _ (W.cond rfl (fun h18 => ?_) (fun h18 => ?_)) a ha)))))
 ·replace hF := ifP h18 hF
  refine W.region (wl_move rfl rfl (wl_move rfl rfl (wl_rem rfl rfl rfl (by decide) ?_)))
  obtain ⟨u19, hu19, hF⟩ := bindE hF
  refine wl_call rfl Tryz.call84 (C_strconv_Itoa w4 (hT.st hB6) (Int.tmod x0 8) _ hu19) rfl ?_
  rintro _ w20 ⟨rfl, hb21⟩
  refine ⟨_, rfl, ?_⟩
  have hB22 := hB6.trans (hb21.mono hB6.size)
  have hS23 := hS7.below hb21
  obtain ⟨u25, hu25, hF⟩ := bindE hF
  refine wl_stradd rfl rfl rfl hu25 ?_
  obtain ⟨u26, hu26, hF⟩ := bindE hF
  refine wl_stradd rfl rfl rfl hu26 (wl_assign rfl rfl (WL.nil ?_))
  exact fun a ha => hJ15 (u26) _ hF hB22 (hS23.sel [] rfl) a (ha.sub ⟨rfl, trivial⟩)
 ·replace hF := ifN h18 hF
  refine W.skip ?_
  exact fun a ha => hJ15 (u3) _ hF hB6 (hS7.sel [] rfl) a (ha.sub ⟨rfl, trivial⟩)
theorem C_impl_SpotText (w0 : World) (hT : Tab w0) (x0 : (Int × Int)) (r : ((List UInt8) × Bool)) (hF : F_impl_SpotText x0 = some r) :
  Calls Tryz.prog 82 [(.agg #[(.int .i64 x0.1), (.int .i64 x0.2)])].toArray w0 fun e w' => e = .returned (.tuple #[(.string (mkS r.1)), (.bool r.2)]) ∧ Below w0.heap.size w0 w' := by
 refine calls_mk' Tryz.func82 rfl Tryz.ntmps82 rfl rfl fun Q hQ hP => ?_
 have hB : Below w0.heap.size w0 w0 := Below.refl _ _
 have hS : Sep w0.heap.size w0 [] := Sep.nil _ _
 unfold F_impl_SpotText at hF
 refine W.seq fun K1 hK1 => W.region (wl_box (cs := [(.int .i64 x0.1), (.int .i64 x0.2)]) rfl rfl rfl hB hS ?_)
 intro b2 w3 hb4 hB5 hS6
 refine wl_assign rfl rfl (wl_assign rfl rfl (WL.nil (fun a ha => hK1 _ _ (W.seq fun K7 hK7 => (W.seq fun K8 hK8 => (W.region (wl_load_blk (i := 0) (vs := [(.int .i64 x0.1), (.int .i64 x0.2)]) (v := (.agg #[(.int .i64 x0.1), (.int .i64 x0.2)])) tf_38 rfl rfl hS6 rfl rfl rfl ?_)))) a ha)))
 obtain ⟨u9, hu9, hF⟩ := bindE hF
 refine wl_call rfl Tryz.call77 (C_impl_IsSpot w3 x0 _ hu9) rfl ?_
 rintro _ w10 ⟨rfl, hb11⟩
 refine ⟨_, rfl, ?_⟩
 have hB12 := hB5.trans (hb11.mono hB5.size)
 have hS13 := hS6.below hb11
 refine wl_not rfl rfl (WL.nil (fun a ha => hK8 _ _ (W.cond rfl (fun h15 => ?_) (fun h15 => ?_)) a ha))
 ·replace hF := ifP h15 hF
  refine W.seq fun K16 hK16 => W.region (wl_assign rfl rfl (wl_assign rfl rfl (WL.nil (fun a ha => hK16 _ _ (W.ret ?_) a ha))))
  have hr := Option.some.inj hF
  subst hr
  exact rets (vs := [(.string (mkS [])), (.bool false)]) hQ rfl ⟨rv_tmp rfl, rv_tmp rfl, trivial⟩ ⟨rfl, hB12⟩
 ·replace hF := ifN h15 hF
  refine W.skip fun a ha => hK7 _ _ (W.seq fun K17 hK17 => (W.regionH mixed_ [] hB12 hS13 ?_)) a ha
  intro w18 hb19 hB20 hS21
  have hSW22 := KeepX.refl w18 []
  refine WH.tk 0 rfl hP hSW22 (pr_field (o := 0) (off' := 0) ff_38_0 rfl rfl rfl (WH.tk 1 rfl hP hSW22 (pr_load_blk (i := 0) (vs := [(.int .i64 x0.1)]) (v := (.int .i64 x0.1)) tf_3 rfl rfl hS21 rfl rfl rfl (by simp) (WH.tk 4 rfl hP hSW22 (pr_field (o := 1) (off' := 1) ff_38_1 rfl rfl rfl (WH.tk 5 rfl hP hSW22 (pr_load_blk (i := 0) (vs := [(.int .i64 x0.2)]) (v := (.int .i64 x0.2)) tf_3 rfl rfl hS21 rfl rfl rfl (by simp) (WH.on1 2 rfl ?_))))))))
  obtain ⟨u23, hu23, hF⟩ := bindE hF
  refine wl_call rfl Tryz.call103 (C_impl_stepsText w18 (hT.st hB20) x0.1 _ hu23) rfl ?_
  rintro _ w24 ⟨rfl, hb25⟩
  refine ⟨_, rfl, ?_⟩
  have hB26 := hB20.trans (hb25.mono hB20.size)
  have hSW29 := hSW22.ext hb25
  refine WL.nil (WH.ret hSW29 ?_)
  obtain ⟨u30, hu30, hF⟩ := bindE hF
  refine WH.tk 3 rfl hP hSW29 (pr_stradd rfl rfl rfl hu30 (WH.on1 6 rfl ?_))
  obtain ⟨u31, hu31, hF⟩ := bindE hF
  refine wl_call rfl Tryz.call103 (C_impl_stepsText w24 (hT.st hB26) x0.2 _ hu31) rfl ?_
  rintro _ w32 ⟨rfl, hb33⟩
  refine ⟨_, rfl, ?_⟩
  have hB34 := hB26.trans (hb33.mono hB26.size)
  have hSW37 := hSW29.ext hb33
  refine WL.nil (WH.ret hSW37 ?_)
  obtain ⟨u38, hu38, hF⟩ := bindE hF
  refine WH.tk 7 rfl hP hSW37 (pr_stradd rfl rfl rfl hu38 (WH.tk 8 rfl hP hSW37 (pr_assign rfl rfl (WH.tk 9 rfl hP hSW37 (pr_assign rfl rfl (WH.done (by kernel_rfl) (fun a ha => hK17 _ _ (W.ret ?_) a ha)))))))
  have hr := Option.some.inj hF
  subst hr
  exact rets (vs := [(.string (mkS u38)), (.bool true)]) hQ rfl ⟨rv_tmp rfl, rv_tmp rfl, trivial⟩ ⟨rfl, hB34⟩
theorem C_impl_sheetText (w0 : World) (hT : Tab w0) (x0 : (Int × (Int × Int) × (List (Int × (Int × Int))))) (v0_0 : Value) (h0_0 : rdS ty_101 (· < w0.heap.size) w0 v0_0 x0.2.2) (r : (List UInt8)) (hF : F_impl_sheetText x0 = some r) :
  Calls Tryz.prog 47 [(.agg #[(.int .i64 x0.1), (.int .i64 x0.2.1.1), (.int .i64 x0.2.1.2), v0_0])].toArray w0 fun e w' => e = .returned (.string (mkS r)) ∧ Below w0.heap.size w0 w' := by
 refine calls_mk' Tryz.func47 rfl Tryz.ntmps47 rfl rfl fun Q hQ hP => ?_
 have hB : Below w0.heap.size w0 w0 := Below.refl _ _
 have hS : Sep w0.heap.size w0 [] := Sep.nil _ _
 unfold F_impl_sheetText at hF
 refine W.seq fun K1 hK1 => W.region (wl_box (cs := [(.int .i64 x0.1), (.int .i64 x0.2.1.1), (.int .i64 x0.2.1.2), v0_0]) rfl rfl rfl hB hS ?_)
 intro b2 w3 hb4 hB5 hS6
 refine wl_assign rfl rfl (WL.nil (fun a ha => hK1 _ _ (W.seq fun K7 hK7 => (W.region (wl_alloc (cs := [(.pointer none), (.slice none 0 0)]) tf_127 rfl rfl hB5 hS6 ?_))) a ha))
 intro b8 w9 hb10 hB11 hS12
 refine WL.nil fun a ha => hK7 _ _ (W.seq fun K13 hK13 => (W.region (wl_field (o := 1) (off' := 1) ff_48_1 rfl rfl rfl (wl_load_blk (i := 1) (vs := [(.int .i64 x0.2.1.1), (.int .i64 x0.2.1.2)]) (v := (.agg #[(.int .i64 x0.2.1.1), (.int .i64 x0.2.1.2)])) tf_38 rfl rfl hS12 rfl rfl rfl ?_)))) a ha
 obtain ⟨u14, hu14, hF⟩ := bindE hF
 refine wl_call rfl Tryz.call82 (C_impl_SpotText w9 (hT.st hB11) x0.2.1 _ hu14) rfl ?_
 rintro _ w15 ⟨rfl, hb16⟩
 refine ⟨_, rfl, ?_⟩
 have hB17 := hB11.trans (hb16.mono hB11.size)
 have hS18 := hS12.below hb16
 refine wl_move rfl rfl (wl_extract rfl rfl rfl (wl_extract rfl rfl rfl (wl_assign rfl rfl (wl_assign rfl rfl (WL.nil (fun a ha => hK13 _ _ (W.seq fun K20 hK20 => (W.region (wl_field (o := 0) (off' := 0) ff_48_0 rfl rfl rfl (wl_load_blk (i := 1) (vs := [(.int .i64 x0.1)]) (v := (.int .i64 x0.1)) tf_3 rfl rfl hS18 rfl rfl rfl ?_)))) a ha))))))
 obtain ⟨u21, hu21, hF⟩ := bindE hF
 refine wl_call rfl Tryz.call84 (C_strconv_Itoa w15 (hT.st hB17) x0.1 _ hu21) rfl ?_
 rintro _ w22 ⟨rfl, hb23⟩
 refine ⟨_, rfl, ?_⟩
 have hB24 := hB17.trans (hb23.mono hB17.size)
 have hS25 := hS18.below hb23
 obtain ⟨u27, hu27, hF⟩ := bindE hF
 refine wl_stradd rfl rfl rfl hu27 ?_
 obtain ⟨u28, hu28, hF⟩ := bindE hF
 refine wl_stradd rfl rfl rfl hu28 (wl_move rfl rfl ?_)
 obtain ⟨u29, hu29, hF⟩ := bindE hF
 refine wl_stradd rfl rfl rfl hu29 ?_
 obtain ⟨u30, hu30, hF⟩ := bindE hF
 refine wl_stradd rfl rfl rfl hu30 ?_
 have hS31 := hS25.push0 (r := R.own ty_5 [] (.slice none 0 0) []) rfl fun _ => .inl ⟨rfl, rfl, rfl⟩
 obtain ⟨u32, hu32, hF⟩ := bindE hF
 refine wl_call rfl Tryz.call83 (C_Builder_WriteString w22 b8 (.pointer none) (.slice none 0 0) (.inl rfl) [] [] u30 (hS31.sel [1, 0] rfl).base0 _ hu32) rfl ?_
 rintro _ w33 ⟨rfl, hE34, v38, F39, hM35⟩
 refine ⟨_, rfl, ?_⟩
 have hB36 := hS31.takeB [1, 0] rfl (M := [R.blk b8 127 [(.pointer none), (.slice none 0 0)], R.own ty_5 [] (.slice none 0 0) []]) rfl hB24 hE34 hM35
 have hS37 : Sep w0.heap.size w33 [R.blk b8 127 [(.pointer (some ⟨b8, 0, none⟩)), v38], R.own ty_5 F39 v38 u32, R.blk b2 48 [(.int .i64 x0.1), (.int .i64 x0.2.1.1), (.int .i64 x0.2.1.2), v0_0]] := hS31.take [1, 0] [2] rfl (M := [R.blk b8 127 [(.pointer none), (.slice none 0 0)], R.own ty_5 [] (.slice none 0 0) []]) rfl hM35 hB24.size
 refine WL.nil fun a ha => hK20 _ _ (W.seq fun K40 hK40 => (W.seq fun K41 hK41 => (W.region (wl_field (o := 3) (off' := 3) ff_48_2 rfl rfl rfl (wl_load_blk (i := 2) (vs := [v0_0]) (v := v0_0) tf_46 rfl rfl hS37 rfl rfl rfl (wl_lenr (e := ty_101) (l := x0.2.2) Tryz.underlying46 rfl rfl h0_0 (wl_move rfl rfl (WL.nil (fun a ha => hK41 _ _ (W.block (W.loopk (fun m a w42 => ∃ (l45 : (List Int)) (y48 : Int) (v46 : Value) (F47 : List Nat), St 48 [(3, (.pointer (some ⟨b8, 0, none⟩))), (26, v0_0), (27, (.int .i64 (List.length x0.2.2 : Int))), (28, (.int .i64 y48))] a ∧ Below w0.heap.size w0 w42 ∧ Sep w0.heap.size w42 [R.own ty_5 F47 v46 l45, R.blk b8 127 [(.pointer (some ⟨b8, 0, none⟩)), v46]] ∧ F_impl_sheetText_L1 x0 m l45 y48 = some r) FU ?_ ?_)) a ha))))))))) a ha
 ·
  exact fun a ha => ⟨u32, 0, v38, F39, ha.sub ⟨rfl, rfl, rfl, rfl, trivial⟩, hB36, (hS37.sel [1, 0] rfl), hF⟩
 ·
  rintro m51 a w42 ⟨l45, y48, v46, F47, ha, hB43, hS44, hF⟩ KL50 hKL50
  refine W.at ?_ ha
  cases m51 with
  | zero => exact noneE hF
  | succ m51 =>
   obtain ⟨nx49, hnx49⟩ : ∃ k, k = F_impl_sheetText_L1 x0 m51 := ⟨_, rfl⟩
   rw [F_impl_sheetText_L1, ← hnx49] at hF
   refine W.seq fun K52 hK52 => W.region (wl_lss rfl rfl rfl (WL.nil (fun a ha => hK52 _ _ (W.seq fun K53 hK53 => (W.cond rfl (fun h54 => ?_) (fun h54 => ?_))) a ha)))
   ·replace hF := ifP h54 hF
    refine W.skip fun a ha => hK53 _ _ (W.seq fun K55 hK55 => (W.block (W.seq fun K56 hK56 => (W.region ?_)))) a ha
    obtain ⟨u57, hu57, hF⟩ := bindE hF
    refine wl_index (e := ty_101) Tryz.underlying46 rfl rfl rfl h0_0 hu57 ?_
    rintro p58 _ rfl hp59
    refine wl_load_p (vs := [(.int .i64 u57.1), (.int .i64 u57.2.1), (.int .i64 u57.2.2)]) (v := (.agg #[(.int .i64 u57.1), (.int .i64 u57.2.1), (.int .i64 u57.2.2)])) tf_101 rfl rfl (hp59.ro hB43) rfl rfl (wl_alloc (cs := [(.int .i64 0), (.int .i64 0), (.int .i64 0)]) tf_101 rfl rfl hB43 hS44 ?_)
    intro b60 w61 hb62 hB63 hS64
    refine wl_store_blk (i := 0) (vs := [(.int .i64 u57.1), (.int .i64 u57.2.1), (.int .i64 u57.2.2)]) (cs' := [(.int .i64 u57.1), (.int .i64 u57.2.1), (.int .i64 u57.2.2)]) tf_101 rfl rfl rfl rfl hB63 hS64 rfl rfl ⟨rfl, rfl, rfl, trivial⟩ rfl ?_
    intro w65 hk68 hB66 hS67
    refine WL.nil fun a ha => hK56 _ _ (W.seq fun K69 hK69 => (W.region (wl_field (o := 1) (off' := 1) ff_101_1 rfl rfl rfl (wl_load_blk (i := 0) (vs := [(.int .i64 u57.2.1), (.int .i64 u57.2.2)]) (v := (.agg #[(.int .i64 u57.2.1), (.int .i64 u57.2.2)])) tf_38 rfl rfl hS67 rfl rfl rfl ?_)))) a ha
    obtain ⟨u70, hu70, hF⟩ := bindE hF
    refine wl_call rfl Tryz.call82 (C_impl_SpotText w65 (hT.st hB66) u57.2 _ hu70) rfl ?_
    rintro _ w71 ⟨rfl, hb72⟩
    refine ⟨_, rfl, ?_⟩
    have hB73 := hB66.trans (hb72.mono hB66.size)
    have hS74 := hS67.below hb72
    refine wl_move rfl rfl (wl_extract rfl rfl rfl (wl_extract rfl rfl rfl (wl_assign rfl rfl (wl_assign rfl rfl (WL.nil (fun a ha => hK69 _ _ (W.region (wl_field (o := 0) (off' := 0) ff_101_0 rfl rfl rfl (wl_load_blk (i := 0) (vs := [(.int .i64 u57.1)]) (v := (.int .i64 u57.1)) tf_3 rfl rfl hS74 rfl rfl rfl ?_))) a ha))))))
    obtain ⟨u76, hu76, hF⟩ := bindE hF
    refine wl_call rfl Tryz.call84 (C_strconv_Itoa w71 (hT.st hB73) u57.1 _ hu76) rfl ?_
    rintro _ w77 ⟨rfl, hb78⟩
    refine ⟨_, rfl, ?_⟩
    have hB79 := hB73.trans (hb78.mono hB73.size)
    have hS80 := hS74.below hb78
    obtain ⟨u82, hu82, hF⟩ := bindE hF
    refine wl_stradd rfl rfl rfl hu82 (wl_move rfl rfl ?_)
    obtain ⟨u83, hu83, hF⟩ := bindE hF
    refine wl_stradd rfl rfl rfl hu83 ?_
    obtain ⟨u84, hu84, hF⟩ := bindE hF
    refine wl_stradd rfl rfl rfl hu84 ?_
    obtain ⟨u85, hu85, hF⟩ := bindE hF
    refine wl_call rfl Tryz.call83 (C_Builder_WriteString w77 b8 (.pointer (some ⟨b8, 0, none⟩)) v46 (.inr rfl) F47 l45 u84 (hS80.sel [2, 1] rfl).base0 _ hu85) rfl ?_
    rintro _ w86 ⟨rfl, hE87, v91, F92, hM88⟩
    refine ⟨_, rfl, ?_⟩
    have hB89 := hS80.takeB [2, 1] rfl (M := [R.blk b8 127 [(.pointer (some ⟨b8, 0, none⟩)), v46], R.own ty_5 F47 v46 l45]) rfl hB79 hE87 hM88
    have hS90 : Sep w0.heap.size w86 [R.blk b8 127 [(.pointer (some ⟨b8, 0, none⟩)), v91], R.own ty_5 F92 v91 u85, R.blk b60 101 [(.int .i64 u57.1), (.int .i64 u57.2.1), (.int .i64 u57.2.2)]] := hS80.take [2, 1] [0] rfl (M := [R.blk b8 127 [(.pointer (some ⟨b8, 0, none⟩)), v46], R.own ty_5 F47 v46 l45]) rfl hM88 hB79.size
    refine WL.nil fun a ha => hK55 _ _ (W.region (wl_add rfl rfl rfl (wl_move rfl rfl (WL.nil ?_)))) a ha
    rw [hnx49] at hF
    exact fun a ha => hKL50 a _ m51 (Nat.lt_succ_self m51) ⟨u85, (w64 (y48 + 1)), v91, F92, ha.sub ⟨rfl, rfl, rfl, rfl, trivial⟩, hB89, (hS90.sel [1, 0] rfl), hF⟩
   ·replace hF := ifN h54 hF
    refine W.exit fun a ha => hK40 _ _ (W.seq fun K93 hK93 => (W.region ?_)) a ha
    obtain ⟨u94, hu94, hF⟩ := bindE hF
    refine wl_call rfl Tryz.call85 (C_Builder_String w0 w42 b8 (.pointer (some ⟨b8, 0, none⟩)) v46 (.inr rfl) F47 l45 hB43 (hS44.sel [1, 0] rfl) _ hu94) rfl ?_
    rintro _ w95 ⟨rfl, hB96⟩
    refine ⟨_, rfl, (wl_assign rfl rfl (WL.nil (fun a ha => hK93 _ _ (W.ret ?_) a ha)))⟩
    have hr := Option.some.inj hF
    subst hr
    exact rets (vs := [(.string (mkS u94))]) hQ rfl ⟨rv_tmp rfl, trivial⟩ ⟨rfl, hB96⟩
theorem C_impl_SheetText (w0 : World) (hT : Tab w0) (x0 : (Int × (Int × Int) × (List (Int × (Int × Int))))) (v0_0 : Value) (h0_0 : rdS ty_101 (· < w0.heap.size) w0 v0_0 x0.2.2) (r : ((List UInt8) × Bool)) (hF : F_impl_SheetText x0 = some r) :
  Calls Tryz.prog 16 [(.agg #[(.int .i64 x0.1), (.int .i64 x0.2.1.1), (.int .i64 x0.2.1.2), v0_0])].toArray w0 fun e w' => e = .returned (.tuple #[(.string (mkS r.1)), (.bool r.2)]) ∧ Below w0.heap.size w0 w' := by
 refine calls_mk' Tryz.func16 rfl Tryz.ntmps16 rfl rfl fun Q hQ hP => ?_
 have hB : Below w0.heap.size w0 w0 := Below.refl _ _
 have hS : Sep w0.heap.size w0 [] := Sep.nil _ _
 unfold F_impl_SheetText at hF
 refine W.seq fun K1 hK1 => W.region (wl_box (cs := [(.int .i64 x0.1), (.int .i64 x0.2.1.1), (.int .i64 x0.2.1.2), v0_0]) rfl rfl rfl hB hS ?_)
 intro b2 w3 hb4 hB5 hS6
 refine wl_assign rfl rfl (wl_assign rfl rfl (WL.nil (fun a ha => hK1 _ _ (W.seq fun K7 hK7 => (W.seq fun K8 hK8 => (W.region (wl_load_blk (i := 0) (vs := [(.int .i64 x0.1), (.int .i64 x0.2.1.1), (.int .i64 x0.2.1.2), v0_0]) (v := (.agg #[(.int .i64 x0.1), (.int .i64 x0.2.1.1), (.int .i64 x0.2.1.2), v0_0])) tf_48 rfl rfl hS6 rfl rfl rfl ?_)))) a ha)))
 obtain ⟨u9, hu9, hF⟩ := bindE hF
 refine wl_call rfl Tryz.call44 (C_impl_IsSheet w3 x0 v0_0 (h0_0.ro hB5) _ hu9) rfl ?_
 rintro _ w10 ⟨rfl, hb11⟩
 refine ⟨_, rfl, ?_⟩
 have hB12 := hB5.trans (hb11.mono hB5.size)
 have hS13 := hS6.below hb11
 refine wl_not rfl rfl (WL.nil (fun a ha => hK8 _ _ (W.cond rfl (fun h15 => ?_) (fun h15 => ?_)) a ha))
 ·replace hF := ifP h15 hF
  refine W.seq fun K16 hK16 => W.region (wl_assign rfl rfl (wl_assign rfl rfl (WL.nil (fun a ha => hK16 _ _ (W.ret ?_) a ha))))
  have hr := Option.some.inj hF
  subst hr
  exact rets (vs := [(.string (mkS [])), (.bool false)]) hQ rfl ⟨rv_tmp rfl, rv_tmp rfl, trivial⟩ ⟨rfl, hB12⟩
 ·replace hF := ifN h15 hF
  refine W.skip fun a ha => hK7 _ _ (W.seq fun K17 hK17 => (W.region (wl_load_blk (i := 0) (vs := [(.int .i64 x0.1), (.int .i64 x0.2.1.1), (.int .i64 x0.2.1.2), v0_0]) (v := (.agg #[(.int .i64 x0.1), (.int .i64 x0.2.1.1), (.int .i64 x0.2.1.2), v0_0])) tf_48 rfl rfl hS13 rfl rfl rfl ?_))) a ha
  obtain ⟨u18, hu18, hF⟩ := bindE hF
  refine wl_call rfl Tryz.call47 (C_impl_sheetText w10 (hT.st hB12) x0 v0_0 (h0_0.ro hB12) _ hu18) rfl ?_
  rintro _ w19 ⟨rfl, hb20⟩
  refine ⟨_, rfl, ?_⟩
  have hB21 := hB12.trans (hb20.mono hB12.size)
  refine wl_assign rfl rfl (wl_assign rfl rfl (WL.nil (fun a ha => hK17 _ _ (W.ret ?_) a ha)))
  have hr := Option.some.inj hF
  subst hr
  exact rets (vs := [(.string (mkS u18)), (.bool true)]) hQ rfl ⟨rv_tmp rfl, rv_tmp rfl, trivial⟩ ⟨rfl, hB21⟩
theorem C_stringslite_IndexByte (w0 : World) (x0 : (List UInt8)) (x1 : Int) (r : Int) (hF : F_stringslite_IndexByte x0 x1 = some r) :
  Calls Tryz.prog 118 [(.string (mkS x0)), (.int .u8 x1)].toArray w0 fun e w' => e = .returned (.int .i64 r) ∧ Below w0.heap.size w0 w' := by
 refine calls_mk' Tryz.func118 rfl Tryz.ntmps118 rfl rfl fun Q hQ hP => ?_
 have hB : Below w0.heap.size w0 w0 := Below.refl _ _
 unfold F_stringslite_IndexByte at hF
 refine W.seq fun K1 hK1 => W.region (wl_assign rfl rfl (WL.nil (fun a ha => hK1 _ _ (W.seq fun K2 hK2 => (W.region (wl_move rfl rfl (wl_move rfl rfl (wl_ext (vs := [(.string (mkS x0)), (.int .u8 x1)]) rfl Tryz.func131 rfl rfl (by kernel_rfl) (by kernel_rfl) rfl (run_idxB x0 x1) (wl_assign rfl rfl (WL.nil (fun a ha => hK2 _ _ (W.ret ?_) a ha)))))))) a ha)))
 have hr := Option.some.inj hF
 subst hr
 exact rets (vs := [(.int .i64 (idxB x0 x1))]) hQ rfl ⟨rv_tmp rfl, trivial⟩ ⟨rfl, hB⟩
theorem C_stringslite_Index (w0 : World) (x0 : (List UInt8)) (x1 : (List UInt8)) (r : Int) (hF : F_stringslite_Index x0 x1 = some r) :
  Calls Tryz.prog 109 [(.string (mkS x0)), (.string (mkS x1))].toArray w0 fun e w' => e = .returned (.int .i64 r) ∧ Below w0.heap.size w0 w' := by
 refine calls_mk' Tryz.func109 rfl Tryz.ntmps109 rfl rfl fun Q hQ hP => ?_
 have hB : Below w0.heap.size w0 w0 := Below.refl _ _
 have hS : Sep w0.heap.size w0 [] := Sep.nil _ _
 unfold F_stringslite_Index at hF
 refine W.seq fun K1 hK1 => W.region (wl_assign rfl rfl (WL.nil (fun a ha => hK1 _ _ (W.seq fun K2 hK2 => (W.region (wl_move rfl rfl (wl_strlen Tryz.underlying9 rfl rfl (wl_assign rfl rfl (WL.nil (fun a ha => hK2 _ _ (W.seq fun K3 hK3 => (W.block ?_)) a ha))))))) a ha)))
 refine W.seq fun K4 hK4 => ?_
 obtain ⟨k9, hk9, hF⟩ := jE1 hF
 have hJ10 : ∀ (y8 : Bool) (w5 : World) (_ : k9 y8 = some r) (_ : Below w0.heap.size w0 w5) (_ : Sep w0.heap.size w5 []), ∀ a, St 143 [(0, (.string (mkS x0))), (1, (.string (mkS x1))), (5, (.int .i64 (List.length x1 : Int))), (16, (.bool y8))] a → K4 a w5 := by
  intro y8 w5 hF hB6 hS7
  subst hk9
  refine fun a ha => hK4 _ _ (W.cond rfl (fun h11 => ?_) (fun h11 => ?_)) a ha
  ·replace hF := ifP h11 hF
   refine W.seq fun K12 hK12 => W.region (wl_assign rfl rfl (WL.nil (fun a ha => hK12 _ _ (W.ret ?_) a ha)))
   have hr := Option.some.inj hF
   subst hr
   exact rets (vs := [(.int .i64 0)]) hQ rfl ⟨rv_tmp rfl, trivial⟩ ⟨rfl, hB6⟩
  ·replace hF := ifN h11 hF
   refine W.seq fun K13 hK13 => W.region (wl_move rfl rfl (wl_eql rfl rfl rfl (wl_assign rfl rfl (WL.nil (fun a ha => hK13 _ _ (W.cond rfl (fun h14 => ?_) (fun h14 => ?_)) a ha)))))
   ·replace hF := ifP h14 hF
    refine W.seq fun K15 hK15 => W.region (wl_move rfl rfl (wl_move rfl rfl ?_))
    obtain ⟨u16, hu16, hF⟩ := bindE hF
    refine wl_strindex Tryz.underlying9 rfl rfl rfl hu16 ?_
    obtain ⟨u17, hu17, hF⟩ := bindE hF
    refine wl_call rfl Tryz.call118 (C_stringslite_IndexByte w5 x0 (UInt8.toNat u16 : Int) _ hu17) rfl ?_
    rintro _ w18 ⟨rfl, hb19⟩
    refine ⟨_, rfl, ?_⟩
    have hB20 := hB6.trans (hb19.mono hB6.size)
    refine wl_assign rfl rfl (WL.nil (fun a ha => hK15 _ _ (W.ret ?_) a ha))
    have hr := Option.some.inj hF
    subst hr
    exact rets (vs := [(.int .i64 u17)]) hQ rfl ⟨rv_tmp rfl, trivial⟩ ⟨rfl, hB20⟩
   ·replace hF := ifN h14 hF
    refine W.seq fun K23 hK23 => W.region (wl_move rfl rfl (wl_move rfl rfl (wl_strlen Tryz.underlying9 rfl rfl (wl_geq rfl rfl rfl (wl_assign rfl rfl (WL.nil (fun a ha => hK23 _ _ (W.cond rfl (fun h24 => ?_) (fun h24 => ?_)) a ha)))))))
    ·replace hF := ifP h24 hF
     refine W.seq fun K25 hK25 => W.region (wl_assign rfl rfl (WL.nil (fun a ha => hK25 _ _ (W.ret ?_) a ha)))
     have hr := Option.some.inj hF
     subst hr
     exact rets (vs := [(.int .i64 (-1))]) hQ rfl ⟨rv_tmp rfl, trivial⟩ ⟨rfl, hB6⟩
    ·replace hF := ifN h24 hF
     exact noneE hF
 refine W.region (wl_move rfl rfl (wl_eql rfl rfl rfl (wl_move rfl rfl ?_)))
 rcases bE ((List.length x1 : Int) == 0) with h27 | h27
 ·replace hF := ifP h27 hF
  refine wl_off rfl rfl rfl h27 (wl_off rfl rfl rfl h27 (wl_off rfl rfl rfl h27 (wl_pick_t rfl rfl h27 rfl (wl_assign rfl rfl (WL.nil ?_)))))
  exact fun a ha => hJ10 (true) _ hF hB (hS.sel [] rfl) a (ha.sub ⟨rfl, rfl, rfl, rfl, trivial⟩)
 ·replace hF := ifN h27 hF
  refine wl_on rfl rfl h27 (wl_move rfl rfl (wl_on rfl rfl h27 (wl_move rfl rfl (wl_on rfl rfl h27 (wl_streql rfl rfl rfl (wl_pick_f rfl rfl h27 rfl (wl_assign rfl rfl (WL.nil ?_))))))))
  exact fun a ha => hJ10 ((x1 == x0)) _ hF hB (hS.sel [] rfl) a (ha.sub ⟨rfl, rfl, rfl, rfl, trivial⟩)
theorem C_strings_Index (w0 : World) (x0 : (List UInt8)) (x1 : (List UInt8)) (r : Int) (hF : F_strings_Index x0 x1 = some r) :
  Calls Tryz.prog 108 [(.string (mkS x0)), (.string (mkS x1))].toArray w0 fun e w' => e = .returned (.int .i64 r) ∧ Below w0.heap.size w0 w' := by
 refine calls_mk' Tryz.func108 rfl Tryz.ntmps108 rfl rfl fun Q hQ hP => ?_
 have hB : Below w0.heap.size w0 w0 := Below.refl _ _
 unfold F_strings_Index at hF
 refine W.seq fun K1 hK1 => W.region (wl_assign rfl rfl (WL.nil (fun a ha => hK1 _ _ (W.seq fun K2 hK2 => (W.region (wl_move rfl rfl (wl_move rfl rfl ?_)))) a ha)))
 obtain ⟨u3, hu3, hF⟩ := bindE hF
 refine wl_call rfl Tryz.call109 (C_stringslite_Index w0 x0 x1 _ hu3) rfl ?_
 rintro _ w4 ⟨rfl, hb5⟩
 refine ⟨_, rfl, ?_⟩
 have hB6 := hB.trans (hb5.mono hB.size)
 refine wl_assign rfl rfl (WL.nil (fun a ha => hK2 _ _ (W.ret ?_) a ha))
 have hr := Option.some.inj hF
 subst hr
 exact rets (vs := [(.int .i64 u3)]) hQ rfl ⟨rv_tmp rfl, trivial⟩ ⟨rfl, hB6⟩
theorem C_strings_Count (w0 : World) (x0 : (List UInt8)) (x1 : (List UInt8)) (r : Int) (hF : F_strings_Count x0 x1 = some r) :
  Calls Tryz.prog 107 [(.string (mkS x0)), (.string (mkS x1))].toArray w0 fun e w' => e = .returned (.int .i64 r) ∧ Below w0.heap.size w0 w' := by
 refine calls_mk' Tryz.func107 rfl Tryz.ntmps107 rfl rfl fun Q hQ hP => ?_
 have hB : Below w0.heap.size w0 w0 := Below.refl _ _
 have hS : Sep w0.heap.size w0 [] := Sep.nil _ _
 unfold F_strings_Count at hF
 refine W.seq fun K1 hK1 => W.region (wl_assign rfl rfl (WL.nil (fun a ha => hK1 _ _ (W.seq fun K2 hK2 => (W.seq fun K3 hK3 => (W.region (wl_move rfl rfl (wl_strlen Tryz.underlying9 rfl rfl (wl_eql rfl rfl rfl (WL.nil (fun a ha => hK3 _ _ (W.cond rfl (fun h4 => ?_) (fun h4 => ?_)) a ha)))))))) a ha)))
 ·replace hF := ifP h4 hF
  exact noneE hF
 ·replace hF := ifN h4 hF
  refine W.skip fun a ha => hK2 _ _ (W.seq fun K6 hK6 => (W.seq fun K7 hK7 => (W.region (wl_move rfl rfl (wl_strlen Tryz.underlying9 rfl rfl (wl_eql rfl rfl rfl (WL.nil (fun a ha => hK7 _ _ (W.cond rfl (fun h8 => ?_) (fun h8 => ?_)) a ha)))))))) a ha
  ·replace hF := ifP h8 hF
   refine W.seq fun K9 hK9 => W.region (wl_move rfl rfl (wl_move rfl rfl ?_))
   obtain ⟨u10, hu10, hF⟩ := bindE hF
   refine wl_strindex Tryz.underlying9 rfl rfl rfl hu10 (wl_ext (vs := [(.string (mkS x0)), (.int .u8 (UInt8.toNat u10 : Int))]) rfl Tryz.func117 rfl rfl (by kernel_rfl) (by kernel_rfl) rfl (run_cntB x0 (UInt8.toNat u10 : Int)) (wl_assign rfl rfl (WL.nil (fun a ha => hK9 _ _ (W.ret ?_) a ha))))
   have hr := Option.some.inj hF
   subst hr
   exact rets (vs := [(.int .i64 (cntB x0 (UInt8.toNat u10 : Int)))]) hQ rfl ⟨rv_tmp rfl, trivial⟩ ⟨rfl, hB⟩
  ·replace hF := ifN h8 hF
   refine W.skip fun a ha => hK6 _ _ (W.seq fun K11 hK11 => (W.region (wl_assign rfl rfl (WL.nil (fun a ha => hK11 _ _ (W.block (W.loopk (fun m a w12 => ∃ (y15 : (List UInt8)) (y16 : Int), St 34 [(0, (.string (mkS y15))), (1, (.string (mkS x1))), (5, (.int .i64 y16))] a ∧ Below w0.heap.size w0 w12 ∧ Sep w0.heap.size w12 [] ∧ F_strings_Count_L1 x1 m y15 y16 = some r) FU ?_ ?_)) a ha))))) a ha
   ·
    exact fun a ha => ⟨x0, 0, ha.sub ⟨rfl, rfl, rfl, trivial⟩, hB, (hS.sel [] rfl), hF⟩
   ·
    rintro m19 a w12 ⟨y15, y16, ha, hB13, hS14, hF⟩ KL18 hKL18
    refine W.at ?_ ha
    cases m19 with
    | zero => exact noneE hF
    | succ m19 =>
     obtain ⟨nx17, hnx17⟩ : ∃ k, k = F_strings_Count_L1 x1 m19 := ⟨_, rfl⟩
     rw [F_strings_Count_L1] at hF; try rw [← hnx17] at hF
     refine W.block (W.seq fun K20 hK20 => (W.region (wl_move rfl rfl (wl_move rfl rfl ?_))))
     obtain ⟨u21, hu21, hF⟩ := bindE hF
     refine wl_call rfl Tryz.call108 (C_strings_Index w12 y15 x1 _ hu21) rfl ?_
     rintro _ w22 ⟨rfl, hb23⟩
     refine ⟨_, rfl, ?_⟩
     have hB24 := hB13.trans (hb23.mono hB13.size)
     have hS25 := hS14.below hb23
     refine wl_assign rfl rfl (WL.nil (fun a ha => hK20 _ _ (W.seq fun K27 hK27 => (W.seq fun K28 hK28 => (W.region (wl_move rfl rfl (wl_eql rfl rfl rfl (WL.nil (fun a ha => hK28 _ _ (W.cond rfl (fun h29 => ?_) (fun h29 => ?_)) a ha))))))) a ha))
     ·replace hF := ifP h29 hF
      refine W.seq fun K30 hK30 => W.region (wl_move rfl rfl (wl_assign rfl rfl (WL.nil (fun a ha => hK30 _ _ (W.ret ?_) a ha))))
      have hr := Option.some.inj hF
      subst hr
      exact rets (vs := [(.int .i64 y16)]) hQ rfl ⟨rv_tmp rfl, trivial⟩ ⟨rfl, hB24⟩
     ·replace hF := ifN h29 hF
      refine W.skip fun a ha => hK27 _ _ (W.seq fun K31 hK31 => (W.region (wl_move rfl rfl (wl_add rfl rfl rfl (wl_assign rfl rfl (WL.nil (fun a ha => hK31 _ _ (W.region (wl_move rfl rfl (wl_move rfl rfl (wl_move rfl rfl (wl_strlen Tryz.underlying9 rfl rfl ?_))))) a ha))))))) a ha
      refine wl_add rfl rfl rfl ?_
      obtain ⟨u32, hu32, hF⟩ := bindE hF
      refine wl_strslice Tryz.underlying9 rfl rfl hu32 (.inr ⟨_, _, rfl, rfl⟩) (.inl ⟨rfl, rfl⟩) (wl_assign rfl rfl (WL.nil ?_))
      rw [hnx17] at hF
      exact fun a ha => hKL18 a _ m19 (Nat.lt_succ_self m19) ⟨u32, (w64 (y16 + 1)), ha.sub ⟨rfl, rfl, rfl, trivial⟩, hB24, (hS25.sel [] rfl), hF⟩
theorem C_strings_genSplit (w0 : World) (x0 : (List UInt8)) (x1 : (List UInt8)) (x2 : Int) (x3 : Int) (r : (List (List UInt8))) (hF : F_strings_genSplit x0 x1 x2 x3 = some r) :
  Calls Tryz.prog 86 [(.string (mkS x0)), (.string (mkS x1)), (.int .i64 x2), (.int .i64 x3)].toArray w0 fun e w' => ∃ (q0 : Value) (G0 : List Nat), e = .returned q0 ∧ Below w0.heap.size w0 w' ∧ Sep w0.heap.size w' [R.own ty_9 G0 q0 r] := by
 refine calls_mk' Tryz.func86 rfl Tryz.ntmps86 rfl rfl fun Q hQ hP => ?_
 have hB : Below w0.heap.size w0 w0 := Below.refl _ _
 have hS : Sep w0.heap.size w0 [] := Sep.nil _ _
 unfold F_strings_genSplit at hF
 refine W.seq fun K1 hK1 => W.region (wl_assign rfl rfl (WL.nil (fun a ha => hK1 _ _ (W.seq fun K2 hK2 => (W.seq fun K3 hK3 => (W.region (wl_move rfl rfl (wl_eql rfl rfl rfl (WL.nil (fun a ha => hK3 _ _ (W.cond rfl (fun h4 => ?_) (fun h4 => ?_)) a ha))))))) a ha)))
 ·replace hF := ifP h4 hF
  refine W.seq fun K5 hK5 => W.region (wl_assign rfl rfl (WL.nil (fun a ha => hK5 _ _ (W.ret ?_) a ha)))
  have hS6 := hS.push0 (r := R.own ty_9 [] (.slice none 0 0) []) rfl fun _ => .inl ⟨rfl, rfl, rfl⟩
  have hr := Option.some.inj hF
  subst hr
  exact rets (vs := [(.slice none 0 0)]) hQ rfl ⟨rv_tmp rfl, trivial⟩ ⟨(.slice none 0 0), [], rfl, hB, hS6.sel [0] rfl⟩
 ·replace hF := ifN h4 hF
  refine W.skip fun a ha => hK2 _ _ (W.seq fun K7 hK7 => (W.seq fun K8 hK8 => (W.region (wl_move rfl rfl (wl_streql rfl rfl rfl (WL.nil (fun a ha => hK8 _ _ (W.cond rfl (fun h9 => ?_) (fun h9 => ?_)) a ha))))))) a ha
  ·replace hF := ifP h9 hF
   exact noneE hF
  ·replace hF := ifN h9 hF
   refine W.skip fun a ha => hK7 _ _ (W.seq fun K11 hK11 => ?_) a ha
   obtain ⟨k16, hk16, hF⟩ := jE1 hF
   have hJ17 : ∀ (y15 : Int) (w12 : World) (_ : k16 y15 = some r) (_ : Below w0.heap.size w0 w12) (_ : Sep w0.heap.size w12 []), ∀ a, St 66 [(0, (.string (mkS x0))), (1, (.string (mkS x1))), (2, (.int .i64 x2)), (3, (.int .i64 y15))] a → K11 a w12 := by
    intro y15 w12 hF hB13 hS14
    subst hk16
    refine fun a ha => hK11 _ _ (W.seq fun K18 hK18 => (W.region (wl_move rfl rfl (wl_move rfl rfl (wl_strlen Tryz.underlying9 rfl rfl (wl_add rfl rfl rfl (wl_min rfl rfl rfl (wl_assign rfl rfl (WL.nil (fun a ha => hK18 _ _ (W.seq fun K19 hK19 => (W.region (wl_move rfl rfl ?_))) a ha)))))))))) a ha
    obtain ⟨u20, hu20, hF⟩ := bindE hF
    refine wl_make (e := ty_9) Tryz.underlying92 rfl rfl hu20 hB13 hS14 ?_
    intro v21 F22 w23 hb24 hB25 hS26
    refine wl_assign rfl rfl (WL.nil (fun a ha => hK19 _ _ (W.seq fun K27 hK27 => (W.region (wl_move rfl rfl (wl_sub rfl rfl rfl (wl_assign rfl rfl (WL.nil (fun a ha => hK27 _ _ (W.seq fun K28 hK28 => (W.region (wl_assign rfl rfl (WL.nil ?_)))) a ha))))))) a ha))
    refine fun a ha => hK28 _ _ (W.seq fun K29 hK29 => ?_) a ha
    obtain ⟨k38, hk38, hF⟩ := jE3 hF
    have hJ39 : ∀ (y33 : (List UInt8)) (l34 : (List (List UInt8))) (y37 : Int) (v35 : Value) (F36 : List Nat) (w30 : World) (_ : k38 y33 l34 y37 = some r) (_ : Below w0.heap.size w0 w30) (_ : Sep w0.heap.size w30 [R.own ty_9 F36 v35 l34]), ∀ a, St 66 [(0, (.string (mkS y33))), (9, v35), (10, (.int .i64 y37))] a → K29 a w30 := by
     intro y33 l34 y37 v35 F36 w30 hF hB31 hS32
     subst hk38
     refine fun a ha => hK29 _ _ (W.seq fun K40 hK40 => (W.region (wl_move rfl rfl (wl_move rfl rfl (wl_move rfl rfl ?_))))) a ha
     obtain ⟨u41, hu41, hF⟩ := bindE hF
     refine wl_indexo (e := ty_9) (i := 0) Tryz.underlying92 rfl rfl rfl hS32 rfl hu41 ?_
     rintro p42 _ rfl hp43 ho44
     refine wl_storeo (i := 0) (o := 0) (vs := [(.string (mkS y33))]) (u' := y33) fl_9 tf_9 rfl rfl rfl rfl ho44 hu41 hB31 hS32 rfl rfl ⟨rfl, trivial⟩ rfl ?_
     intro w45 hk48 hB46 hS47
     refine WL.nil fun a ha => hK40 _ _ (W.seq fun K49 hK49 => (W.region (wl_move rfl rfl (wl_move rfl rfl (wl_add rfl rfl rfl ?_))))) a ha
     obtain ⟨u50, hu50, hF⟩ := bindE hF
     refine wl_sliceof (e := ty_9) Tryz.underlying92 rfl rfl (hS47.ok (i := 0) rfl : ownS ty_9 _ _ _ _).rd hu50 (.inl ⟨rfl, rfl⟩) (.inr ⟨_, _, rfl, rfl⟩) ?_
     intro v51 hv54 hs53
     refine wl_assign rfl rfl (WL.nil (fun a ha => hK49 _ _ (W.ret ?_) a ha))
     obtain ⟨F56, hq57, hq58, hq59⟩ := own_pre (hS47.ok (i := 0) rfl : ownS ty_9 _ _ _ _) (hS47.get (i := 0) rfl).1 hs53 (sl_le hu50).1
     rw [show List.take ((w64 (y37 + 1)) : Int).toNat (seti l34 y37 y33) = u50 from (sl_le hu50).2.symm] at hq57
     have hS55 := (hS47.sel [0] rfl).shrink (r' := R.own ty_9 F56 v51 u50) hq58 hq59 fun _ hk => hq57.keep hk
     have hr := Option.some.inj hF
     subst hr
     exact rets (vs := [v51]) hQ rfl ⟨rv_tmp rfl, trivial⟩ ⟨v51, F56, rfl, hB46, hS55.sel [0] rfl⟩
    refine W.block (W.loopk (fun m a w61 => ∃ (y64 : (List UInt8)) (l65 : (List (List UInt8))) (y68 : Int) (v66 : Value) (F67 : List Nat), St 66 [(0, (.string (mkS y64))), (1, (.string (mkS x1))), (2, (.int .i64 x2)), (3, (.int .i64 (w64 ((minI y15 (w64 ((List.length x0 : Int) + 1))) - 1)))), (9, v66), (10, (.int .i64 y68))] a ∧ Below w0.heap.size w0 w61 ∧ Sep w0.heap.size w61 [R.own ty_9 F67 v66 l65] ∧ F_strings_genSplit_L1 y15 x0 x1 k38 x2 m y64 l65 y68 = some r) FU ?_ ?_)
    ·
     exact fun a ha => ⟨x0, u20, 0, v21, F22, ha.sub ⟨rfl, rfl, rfl, rfl, rfl, rfl, trivial⟩, hB25, (hS26.sel [0] rfl), hF⟩
    ·
     rintro m71 a w61 ⟨y64, l65, y68, v66, F67, ha, hB62, hS63, hF⟩ KL70 hKL70
     refine W.at ?_ ha
     cases m71 with
     | zero => exact noneE hF
     | succ m71 =>
      obtain ⟨nx69, hnx69⟩ : ∃ k, k = F_strings_genSplit_L1 y15 x0 x1 k38 x2 m71 := ⟨_, rfl⟩
      rw [F_strings_genSplit_L1] at hF; try rw [← hnx69] at hF
      refine W.seq fun K72 hK72 => W.seq fun K73 hK73 => W.region (wl_move rfl rfl (wl_move rfl rfl (wl_lss rfl rfl rfl (WL.nil (fun a ha => hK73 _ _ (W.cond rfl (fun h74 => ?_) (fun h74 => ?_)) a ha)))))
      ·replace hF := ifP h74 hF
       refine W.skip fun a ha => hK72 _ _ (W.block (W.seq fun K75 hK75 => (W.region (wl_move rfl rfl (wl_move rfl rfl ?_))))) a ha
       obtain ⟨u76, hu76, hF⟩ := bindE hF
       refine wl_call rfl Tryz.call108 (C_strings_Index w61 y64 x1 _ hu76) rfl ?_
       rintro _ w77 ⟨rfl, hb78⟩
       refine ⟨_, rfl, ?_⟩
       have hB79 := hB62.trans (hb78.mono hB62.size)
       have hS80 := hS63.below hb78
       refine wl_assign rfl rfl (WL.nil (fun a ha => hK75 _ _ (W.seq fun K82 hK82 => (W.seq fun K83 hK83 => (W.region (wl_move rfl rfl (wl_lss rfl rfl rfl (WL.nil (fun a ha => hK83 _ _ (W.cond rfl (fun h84 => ?_) (fun h84 => ?_)) a ha))))))) a ha))
       ·replace hF := ifP h84 hF
        refine W.exit ?_
        exact fun a ha => hJ39 (y64) (l65) (y68) (v66) (F67) _ hF hB79 (hS80.sel [0] rfl) a (ha.sub ⟨rfl, rfl, rfl, trivial⟩)
       ·replace hF := ifN h84 hF
        refine W.skip fun a ha => hK82 _ _ (W.seq fun K85 hK85 => (W.region (wl_move rfl rfl (wl_move rfl rfl (wl_move rfl rfl (wl_move rfl rfl (wl_move rfl rfl (wl_add rfl rfl rfl ?_)))))))) a ha
        obtain ⟨u86, hu86, hF⟩ := bindE hF
        refine wl_strslice Tryz.underlying9 rfl rfl hu86 (.inl ⟨rfl, rfl⟩) (.inr ⟨_, _, rfl, rfl⟩) ?_
        obtain ⟨u87, hu87, hF⟩ := bindE hF
        refine wl_indexo (e := ty_9) (i := 0) Tryz.underlying92 rfl rfl rfl hS80 rfl hu87 ?_
        rintro p88 _ rfl hp89 ho90
        refine wl_storeo (i := 0) (o := 0) (vs := [(.string (mkS u86))]) (u' := u86) fl_9 tf_9 rfl rfl rfl rfl ho90 hu87 hB79 hS80 rfl rfl ⟨rfl, trivial⟩ rfl ?_
        intro w91 hk94 hB92 hS93
        refine WL.nil fun a ha => hK85 _ _ (W.seq fun K95 hK95 => (W.region (wl_move rfl rfl (wl_move rfl rfl (wl_move rfl rfl (wl_strlen Tryz.underlying9 rfl rfl (wl_add rfl rfl rfl ?_))))))) a ha
        obtain ⟨u96, hu96, hF⟩ := bindE hF
        refine wl_strslice Tryz.underlying9 rfl rfl hu96 (.inr ⟨_, _, rfl, rfl⟩) (.inl ⟨rfl, rfl⟩) (wl_assign rfl rfl (WL.nil (fun a ha => hK95 _ _ (W.region (wl_move rfl rfl (wl_add rfl rfl rfl (wl_assign rfl rfl (WL.nil ?_))))) a ha)))
        rw [hnx69] at hF
        exact fun a ha => hKL70 a _ m71 (Nat.lt_succ_self m71) ⟨u96, (seti l65 y68 u86), (w64 (y68 + 1)), v66, F67, ha.sub ⟨rfl, rfl, rfl, rfl, rfl, rfl, trivial⟩, hB92, (hS93.sel [0] rfl), hF⟩
      ·replace hF := ifN h74 hF
       refine W.exit ?_
       exact fun a ha => hJ39 (y64) (l65) (y68) (v66) (F67) _ hF hB62 (hS63.sel [0] rfl) a (ha.sub ⟨rfl, rfl, rfl, trivial⟩)
   refine W.seq fun K97 hK97 => W.region (wl_move rfl rfl (wl_lss rfl rfl rfl (WL.nil (fun a ha => hK97 _ _ (W.cond rfl (fun h98 => ?_) (fun h98 => ?_)) a ha))))
   ·replace hF := ifP h98 hF
    refine W.region (wl_move rfl rfl (wl_move rfl rfl ?_))
    obtain ⟨u99, hu99, hF⟩ := bindE hF
    refine wl_call rfl Tryz.call107 (C_strings_Count w0 x0 x1 _ hu99) rfl ?_
    rintro _ w100 ⟨rfl, hb101⟩
    refine ⟨_, rfl, ?_⟩
    have hB102 := hB.trans (hb101.mono hB.size)
    have hS103 := hS.below hb101
    refine wl_add rfl rfl rfl (wl_assign rfl rfl (WL.nil ?_))
    exact fun a ha => hJ17 ((w64 (u99 + 1))) _ hF hB102 (hS103.sel [] rfl) a (ha.sub ⟨rfl, rfl, rfl, rfl, trivial⟩)
   ·replace hF := ifN h98 hF
    refine W.skip ?_
    exact fun a ha => hJ17 (x3) _ hF hB (hS.sel [] rfl) a (ha.sub ⟨rfl, rfl, rfl, rfl, trivial⟩)
theorem C_strings_Split (w0 : World) (x0 : (List UInt8)) (x1 : (List UInt8)) (r : (List (List UInt8))) (hF : F_strings_Split x0 x1 = some r) :
  Calls Tryz.prog 49 [(.string (mkS x0)), (.string (mkS x1))].toArray w0 fun e w' => ∃ (q0 : Value) (G0 : List Nat), e = .returned q0 ∧ Below w0.heap.size w0 w' ∧ Sep w0.heap.size w' [R.own ty_9 G0 q0 r] := by
 refine calls_mk' Tryz.func49 rfl Tryz.ntmps49 rfl rfl fun Q hQ hP => ?_
 have hB : Below w0.heap.size w0 w0 := Below.refl _ _
 have hS : Sep w0.heap.size w0 [] := Sep.nil _ _
 unfold F_strings_Split at hF
 refine W.seq fun K1 hK1 => W.region (wl_assign rfl rfl (WL.nil (fun a ha => hK1 _ _ (W.seq fun K2 hK2 => (W.region (wl_move rfl rfl (wl_move rfl rfl ?_)))) a ha)))
 obtain ⟨u3, hu3, hF⟩ := bindE hF
 refine wl_call rfl Tryz.call86 (C_strings_genSplit w0 x0 x1 0 (-1) _ hu3) rfl ?_
 rintro _ w6 ⟨v4, F5, rfl, hb7, hM10⟩
 refine ⟨_, rfl, ?_⟩
 have hB8 := hB.trans (hb7.mono hB.size)
 have hS9 := hS.join hb7 hM10 hB.size
 refine wl_assign rfl rfl (WL.nil (fun a ha => hK2 _ _ (W.ret ?_) a ha))
 have hr := Option.some.inj hF
 subst hr
 exact rets (vs := [v4]) hQ rfl ⟨rv_tmp rfl, trivial⟩ ⟨v4, F5, rfl, hB8, hS9.sel [0] rfl⟩
theorem C_impl_linesOf (w0 : World) (x0 : (List UInt8)) (r : ((List (List UInt8)) × Bool)) (hF : F_impl_linesOf x0 = some r) :
  Calls Tryz.prog 48 [(.string (mkS x0))].toArray w0 fun e w' => ∃ (q0 : Value) (G0 : List Nat), e = .returned (.tuple #[q0, (.bool r.2)]) ∧ Below w0.heap.size w0 w' ∧ Sep w0.heap.size w' [R.own ty_9 G0 q0 r.1] := by
 refine calls_mk' Tryz.func48 rfl Tryz.ntmps48 rfl rfl fun Q hQ hP => ?_
 have hB : Below w0.heap.size w0 w0 := Below.refl _ _
 have hS : Sep w0.heap.size w0 [] := Sep.nil _ _
 unfold F_impl_linesOf at hF
 refine W.seq fun K1 hK1 => W.region (wl_assign rfl rfl (wl_assign rfl rfl (WL.nil (fun a ha => hK1 _ _ (W.seq fun K2 hK2 => (W.seq fun K3 hK3 => (W.region (wl_move rfl rfl (wl_streql rfl rfl rfl (WL.nil (fun a ha => hK3 _ _ (W.cond rfl (fun h4 => ?_) (fun h4 => ?_)) a ha))))))) a ha))))
 ·replace hF := ifP h4 hF
  refine W.seq fun K5 hK5 => W.region (wl_lit (vs := []) (l := []) fl_9 Tryz.underlying92 rfl rfl rfl rfl rfl rfl hB hS ?_)
  intro v6 F7 w8 hb9 hB10 hS11
  refine wl_assign rfl rfl (wl_assign rfl rfl (WL.nil (fun a ha => hK5 _ _ (W.ret ?_) a ha)))
  have hr := Option.some.inj hF
  subst hr
  exact rets (vs := [v6, (.bool true)]) hQ rfl ⟨rv_tmp rfl, rv_tmp rfl, trivial⟩ ⟨v6, F7, rfl, hB10, hS11.sel [0] rfl⟩
 ·replace hF := ifN h4 hF
  refine W.skip fun a ha => hK2 _ _ (W.seq fun K12 hK12 => (W.seq fun K13 hK13 => (W.region (wl_move rfl rfl (wl_move rfl rfl (wl_strlen Tryz.underlying9 rfl rfl (wl_sub rfl rfl rfl ?_))))))) a ha
  obtain ⟨u14, hu14, hF⟩ := bindE hF
  refine wl_strindex Tryz.underlying9 rfl rfl rfl hu14 (wl_neq rfl rfl rfl (WL.nil (fun a ha => hK13 _ _ (W.cond rfl (fun h15 => ?_) (fun h15 => ?_)) a ha)))
  ·replace hF := ifP h15 hF
   refine W.seq fun K16 hK16 => W.region (wl_assign rfl rfl (wl_assign rfl rfl (WL.nil (fun a ha => hK16 _ _ (W.ret ?_) a ha))))
   have hS17 := hS.push0 (r := R.own ty_9 [] (.slice none 0 0) []) rfl fun _ => .inl ⟨rfl, rfl, rfl⟩
   have hr := Option.some.inj hF
   subst hr
   exact rets (vs := [(.slice none 0 0), (.bool false)]) hQ rfl ⟨rv_tmp rfl, rv_tmp rfl, trivial⟩ ⟨(.slice none 0 0), [], rfl, hB, hS17.sel [0] rfl⟩
  ·replace hF := ifN h15 hF
   refine W.skip fun a ha => hK12 _ _ (W.seq fun K18 hK18 => (W.region (wl_move rfl rfl (wl_move rfl rfl (wl_strlen Tryz.underlying9 rfl rfl (wl_sub rfl rfl rfl ?_)))))) a ha
   obtain ⟨u19, hu19, hF⟩ := bindE hF
   refine wl_strslice Tryz.underlying9 rfl rfl hu19 (.inl ⟨rfl, rfl⟩) (.inr ⟨_, _, rfl, rfl⟩) ?_
   obtain ⟨u20, hu20, hF⟩ := bindE hF
   refine wl_call rfl Tryz.call49 (C_strings_Split w0 u19 [10] _ hu20) rfl ?_
   rintro _ w23 ⟨v21, F22, rfl, hb24, hM27⟩
   refine ⟨_, rfl, ?_⟩
   have hB25 := hB.trans (hb24.mono hB.size)
   have hS26 := hS.join hb24 hM27 hB.size
   refine wl_assign rfl rfl (wl_assign rfl rfl (WL.nil (fun a ha => hK18 _ _ (W.ret ?_) a ha)))
   have hr := Option.some.inj hF
   subst hr
   exact rets (vs := [v21, (.bool true)]) hQ rfl ⟨rv_tmp rfl, rv_tmp rfl, trivial⟩ ⟨v21, F22, rfl, hB25, hS26.sel [0] rfl⟩
theorem C_impl_natural (w0 : World) (x0 : (List UInt8)) (r : (Int × Bool)) (hF : F_impl_natural x0 = some r) :
  Calls Tryz.prog 50 [(.string (mkS x0))].toArray w0 fun e w' => e = .returned (.tuple #[(.int .i64 r.1), (.bool r.2)]) ∧ Below w0.heap.size w0 w' := by
 refine calls_mk' Tryz.func50 rfl Tryz.ntmps50 rfl rfl fun Q hQ hP => ?_
 have hB : Below w0.heap.size w0 w0 := Below.refl _ _
 have hS : Sep w0.heap.size w0 [] := Sep.nil _ _
 unfold F_impl_natural at hF
 refine W.seq fun K1 hK1 => W.region (wl_assign rfl rfl (wl_assign rfl rfl (WL.nil (fun a ha => hK1 _ _ (W.seq fun K2 hK2 => (W.seq fun K3 hK3 => ?_)) a ha))))
 obtain ⟨k8, hk8, hF⟩ := jE1 hF
 have hJ9 : ∀ (y7 : Bool) (w4 : World) (_ : k8 y7 = some r) (_ : Below w0.heap.size w0 w4) (_ : Sep w0.heap.size w4 []), ∀ a, St 48 [(0, (.string (mkS x0))), (22, (.bool y7))] a → K3 a w4 := by
  intro y7 w4 hF hB5 hS6
  subst hk8
  refine fun a ha => hK3 _ _ (W.cond rfl (fun h10 => ?_) (fun h10 => ?_)) a ha
  ·replace hF := ifP h10 hF
   refine W.seq fun K11 hK11 => W.region (wl_assign rfl rfl (wl_assign rfl rfl (WL.nil (fun a ha => hK11 _ _ (W.ret ?_) a ha))))
   have hr := Option.some.inj hF
   subst hr
   exact rets (vs := [(.int .i64 0), (.bool false)]) hQ rfl ⟨rv_tmp rfl, rv_tmp rfl, trivial⟩ ⟨rfl, hB5⟩
  ·replace hF := ifN h10 hF
   refine W.skip fun a ha => hK2 _ _ (W.seq fun K12 hK12 => (W.region (wl_assign rfl rfl (WL.nil (fun a ha => hK12 _ _ (W.seq fun K13 hK13 => (W.seq fun K14 hK14 => (W.region (wl_assign rfl rfl (WL.nil (fun a ha => hK14 _ _ (W.block ?_) a ha)))))) a ha))))) a ha
   refine W.loopk (fun m a w15 => ∃ (y18 : Int) (y19 : Int), St 48 [(0, (.string (mkS x0))), (4, (.int .i64 y18)), (5, (.int .i64 y19))] a ∧ Below w0.heap.size w0 w15 ∧ Sep w0.heap.size w15 [] ∧ F_impl_natural_L1 x0 m y18 y19 = some r) FU ?_ ?_
   ·
    exact fun a ha => ⟨0, 0, ha.sub ⟨rfl, rfl, rfl, trivial⟩, hB5, (hS6.sel [] rfl), hF⟩
   ·
    rintro m22 a w15 ⟨y18, y19, ha, hB16, hS17, hF⟩ KL21 hKL21
    refine W.at ?_ ha
    cases m22 with
    | zero => exact noneE hF
    | succ m22 =>
     obtain ⟨nx20, hnx20⟩ : ∃ k, k = F_impl_natural_L1 x0 m22 := ⟨_, rfl⟩
     rw [F_impl_natural_L1, ← hnx20] at hF
     refine W.seq fun K23 hK23 => W.seq fun K24 hK24 => W.region (wl_move rfl rfl (wl_move rfl rfl (wl_strlen Tryz.underlying9 rfl rfl (wl_lss rfl rfl rfl (WL.nil (fun a ha => hK24 _ _ (W.cond rfl (fun h25 => ?_) (fun h25 => ?_)) a ha))))))
     ·replace hF := ifP h25 hF
      refine W.skip fun a ha => hK23 _ _ (W.seq fun K26 hK26 => (W.block (W.seq fun K27 hK27 => (W.seq fun K28 hK28 => ?_)))) a ha
      obtain ⟨k33, hk33, hF⟩ := jE1 hF
      have hJ34 : ∀ (y32 : Bool) (w29 : World) (_ : k33 y32 = some r) (_ : Below w0.heap.size w0 w29) (_ : Sep w0.heap.size w29 []), ∀ a, St 48 [(0, (.string (mkS x0))), (4, (.int .i64 y18)), (5, (.int .i64 y19)), (38, (.bool y32))] a → K28 a w29 := by
       intro y32 w29 hF hB30 hS31
       subst hk33
       refine fun a ha => hK28 _ _ (W.cond rfl (fun h35 => ?_) (fun h35 => ?_)) a ha
       ·replace hF := ifP h35 hF
        refine W.seq fun K36 hK36 => W.region (wl_assign rfl rfl (wl_assign rfl rfl (WL.nil (fun a ha => hK36 _ _ (W.ret ?_) a ha))))
        have hr := Option.some.inj hF
        subst hr
        exact rets (vs := [(.int .i64 0), (.bool false)]) hQ rfl ⟨rv_tmp rfl, rv_tmp rfl, trivial⟩ ⟨rfl, hB30⟩
       ·replace hF := ifN h35 hF
        refine W.skip fun a ha => hK27 _ _ (W.region (wl_move rfl rfl (wl_mul rfl rfl rfl (wl_move rfl rfl (wl_move rfl rfl ?_))))) a ha
        obtain ⟨u37, hu37, hF⟩ := bindE hF
        refine wl_strindex Tryz.underlying9 rfl rfl rfl hu37 (wl_sub rfl rfl rfl (wl_convi Tryz.underlying5 Tryz.underlying3 rfl rfl (wl_add rfl rfl rfl (wl_assign rfl rfl (WL.nil (fun a ha => hK26 _ _ (W.region (wl_move rfl rfl (wl_add rfl rfl rfl (wl_assign rfl rfl (WL.nil ?_))))) a ha))))))
        rw [hnx20] at hF
        exact fun a ha => hKL21 a _ m22 (Nat.lt_succ_self m22) ⟨(w64 ((w64 (10 * y18)) + (w64 (wu8 ((UInt8.toNat u37 : Int) - 48))))), (w64 (y19 + 1)), ha.sub ⟨rfl, rfl, rfl, trivial⟩, hB30, (hS31.sel [] rfl), hF⟩
      refine W.region (wl_move rfl rfl (wl_move rfl rfl ?_))
      obtain ⟨u38, hu38, hF⟩ := bindE hF
      refine wl_strindex Tryz.underlying9 rfl rfl rfl hu38 (wl_lss rfl rfl rfl (wl_move rfl rfl ?_))
      rcases bE (decide ((UInt8.toNat u38 : Int) < 48)) with h39 | h39
      ·replace hF := ifP h39 hF
       refine wl_off rfl rfl rfl h39 (wl_off rfl rfl rfl h39 (wl_off rfl rfl rfl h39 (wl_off rfl rfl rfl h39 (wl_pick_t rfl rfl h39 rfl (WL.nil ?_)))))
       exact fun a ha => hJ34 (true) _ hF hB16 (hS17.sel [] rfl) a (ha.sub ⟨rfl, rfl, rfl, rfl, trivial⟩)
      ·replace hF := ifN h39 hF
       refine wl_on rfl rfl h39 (wl_move rfl rfl (wl_on rfl rfl h39 (wl_move rfl rfl (wl_on rfl rfl h39 ?_))))
       obtain ⟨u40, hu40, hF⟩ := bindE hF
       refine wl_strindex Tryz.underlying9 rfl rfl rfl hu40 (wl_on rfl rfl h39 (wl_gtr rfl rfl rfl (wl_pick_f rfl rfl h39 rfl (WL.nil ?_))))
       exact fun a ha => hJ34 ((decide (57 < (UInt8.toNat u40 : Int)))) _ hF hB16 (hS17.sel [] rfl) a (ha.sub ⟨rfl, rfl, rfl, rfl, trivial⟩)
     ·replace hF := ifN h25 hF
      refine W.exit fun a ha => hK13 _ _ (W.seq fun K41 hK41 => (W.region (wl_move rfl rfl (wl_assign rfl rfl (wl_assign rfl rfl (WL.nil (fun a ha => hK41 _ _ (W.ret ?_) a ha))))))) a ha
      have hr := Option.some.inj hF
      subst hr
      exact rets (vs := [(.int .i64 y18), (.bool true)]) hQ rfl ⟨rv_tmp rfl, rv_tmp rfl, trivial⟩ ⟨rfl, hB16⟩
 refine W.region (wl_move rfl rfl (wl_streql rfl rfl rfl (wl_move rfl rfl ?_)))
 rcases bE (x0 == []) with h42 | h42
 ·replace hF := ifP h42 hF
  refine wl_off rfl rfl rfl h42 (wl_off rfl rfl rfl h42 (wl_off rfl rfl rfl h42 (wl_pick_t rfl rfl h42 rfl (wl_move rfl rfl (wl_off rfl rfl rfl rfl (wl_off rfl rfl rfl rfl (wl_off rfl rfl rfl rfl (wl_off rfl rfl rfl rfl (wl_offu rfl rfl rfl (wl_offu rfl rfl rfl (wl_offu rfl rfl rfl (wl_off rfl rfl rfl rfl (wl_pick_t rfl rfl rfl rfl ?_)))))))))))))
  refine WL.nil ?_
  exact fun a ha => hJ9 (true) _ hF hB (hS.sel [] rfl) a (ha.sub ⟨rfl, rfl, trivial⟩)
 ·replace hF := ifN h42 hF
  refine wl_on rfl rfl h42 (wl_move rfl rfl (wl_on rfl rfl h42 (wl_strlen Tryz.underlying9 rfl rfl (wl_on rfl rfl h42 (wl_gtr rfl rfl rfl (wl_pick_f rfl rfl h42 rfl (wl_move rfl rfl ?_)))))))
  rcases bE (decide (9 < (List.length x0 : Int))) with h43 | h43
  ·replace hF := ifP h43 hF
   refine wl_off rfl rfl rfl h43 (wl_off rfl rfl rfl h43 (wl_off rfl rfl rfl h43 (wl_off rfl rfl rfl h43 (wl_offu rfl rfl rfl (wl_offu rfl rfl rfl (wl_offu rfl rfl rfl (wl_off rfl rfl rfl h43 (wl_pick_t rfl rfl h43 rfl (WL.nil ?_)))))))))
   exact fun a ha => hJ9 (true) _ hF hB (hS.sel [] rfl) a (ha.sub ⟨rfl, rfl, trivial⟩)
  ·replace hF := ifN h43 hF
   refine wl_on rfl rfl h43 (wl_move rfl rfl (wl_on rfl rfl h43 (wl_strlen Tryz.underlying9 rfl rfl (wl_on rfl rfl h43 (wl_gtr rfl rfl rfl (wl_on rfl rfl h43 (wl_move rfl rfl ?_)))))))
   rcases bE (decide (1 < (List.length x0 : Int))) with h44 | h44
   ·replace hF := ifP h44 hF
    refine wl_on rfl rfl h44 (wl_move rfl rfl (wl_on rfl rfl h44 ?_))
    obtain ⟨u45, hu45, hF⟩ := bindE hF
    refine wl_strindex Tryz.underlying9 rfl rfl rfl hu45 (wl_on rfl rfl h44 (wl_eql rfl rfl rfl (wl_on rfl rfl h43 (wl_pick_t rfl rfl h44 rfl (wl_pick_f rfl rfl h43 rfl (WL.nil ?_))))))
    exact fun a ha => hJ9 (((UInt8.toNat u45 : Int) == 48)) _ hF hB (hS.sel [] rfl) a (ha.sub ⟨rfl, rfl, trivial⟩)
   ·replace hF := ifN h44 hF
    refine wl_off rfl rfl rfl h44 (wl_off rfl rfl rfl h44 (wl_off rfl rfl rfl h44 (wl_on rfl rfl h43 (wl_pick_f rfl rfl h44 rfl (wl_pick_f rfl rfl h43 rfl (WL.nil ?_))))))
    exact fun a ha => hJ9 (false) _ hF hB (hS.sel [] rfl) a (ha.sub ⟨rfl, rfl, trivial⟩)
theorem C_stringslite_Cut (w0 : World) (x0 : (List UInt8)) (x1 : (List UInt8)) (r : ((List UInt8) × (List UInt8) × Bool)) (hF : F_stringslite_Cut x0 x1 = some r) :
  Calls Tryz.prog 88 [(.string (mkS x0)), (.string (mkS x1))].toArray w0 fun e w' => e = .returned (.tuple #[(.string (mkS r.1)), (.string (mkS r.2.1)), (.bool r.2.2)]) ∧ Below w0.heap.size w0 w' := by
 refine calls_mk' Tryz.func88 rfl Tryz.ntmps88 rfl rfl fun Q hQ hP => ?_
 have hB : Below w0.heap.size w0 w0 := Below.refl _ _
 have hS : Sep w0.heap.size w0 [] := Sep.nil _ _
 unfold F_stringslite_Cut at hF
 refine W.seq fun K1 hK1 => W.region (wl_assign rfl rfl (wl_assign rfl rfl (wl_assign rfl rfl (WL.nil (fun a ha => hK1 _ _ (W.seq fun K2 hK2 => (W.seq fun K3 hK3 => (W.region (wl_move rfl rfl (wl_move rfl rfl ?_))))) a ha)))))
 obtain ⟨u4, hu4, hF⟩ := bindE hF
 refine wl_call rfl Tryz.call109 (C_stringslite_Index w0 x0 x1 _ hu4) rfl ?_
 rintro _ w5 ⟨rfl, hb6⟩
 refine ⟨_, rfl, ?_⟩
 have hB7 := hB.trans (hb6.mono hB.size)
 have hS8 := hS.below hb6
 refine wl_assign rfl rfl (WL.nil (fun a ha => hK3 _ _ (W.seq fun K10 hK10 => (W.region (wl_move rfl rfl (wl_geq rfl rfl rfl (WL.nil (fun a ha => hK10 _ _ (W.cond rfl (fun h11 => ?_) (fun h11 => ?_)) a ha)))))) a ha))
 ·replace hF := ifP h11 hF
  refine W.seq fun K12 hK12 => W.regionH mixed_ [] hB7 hS8 ?_
  intro w13 hb14 hB15 hS16
  have hSW17 := KeepX.refl w13 []
  refine WH.tk 0 rfl hP hSW17 (pr_move rfl rfl (WH.tk 1 rfl hP hSW17 (pr_move rfl rfl ?_)))
  obtain ⟨u18, hu18, hF⟩ := bindE hF
  refine WH.tk 2 rfl hP hSW17 (pr_strslice Tryz.underlying9 rfl rfl hu18 (.inl ⟨rfl, rfl⟩) (.inr ⟨_, _, rfl, rfl⟩) (WH.tk 3 rfl hP hSW17 (pr_move rfl rfl (WH.tk 4 rfl hP hSW17 (pr_move rfl rfl (WH.tk 5 rfl hP hSW17 (pr_move rfl rfl (WH.tk 6 rfl hP hSW17 (pr_strlen Tryz.underlying9 rfl rfl (WH.tk 7 rfl hP hSW17 (pr_add rfl rfl rfl ?_)))))))))))
  obtain ⟨u19, hu19, hF⟩ := bindE hF
  refine WH.tk 8 rfl hP hSW17 (pr_strslice Tryz.underlying9 rfl rfl hu19 (.inr ⟨_, _, rfl, rfl⟩) (.inl ⟨rfl, rfl⟩) (WH.tk 9 rfl hP hSW17 (pr_assign rfl rfl (WH.tk 10 rfl hP hSW17 (pr_assign rfl rfl (WH.tk 11 rfl hP hSW17 (pr_assign rfl rfl (WH.done (by kernel_rfl) (fun a ha => hK12 _ _ (W.ret ?_) a ha)))))))))
  have hr := Option.some.inj hF
  subst hr
  exact rets (vs := [(.string (mkS u18)), (.string (mkS u19)), (.bool true)]) hQ rfl ⟨rv_tmp rfl, rv_tmp rfl, rv_tmp rfl, trivial⟩ ⟨rfl, hB15⟩
 ·replace hF := ifN h11 hF
  refine W.skip fun a ha => hK2 _ _ (W.seq fun K20 hK20 => (W.region (wl_move rfl rfl (wl_assign rfl rfl (wl_assign rfl rfl (wl_assign rfl rfl (WL.nil (fun a ha => hK20 _ _ (W.ret ?_) a ha)))))))) a ha
  have hr := Option.some.inj hF
  subst hr
  exact rets (vs := [(.string (mkS x0)), (.string (mkS [])), (.bool false)]) hQ rfl ⟨rv_tmp rfl, rv_tmp rfl, rv_tmp rfl, trivial⟩ ⟨rfl, hB7⟩
theorem C_strings_Cut (w0 : World) (x0 : (List UInt8)) (x1 : (List UInt8)) (r : ((List UInt8) × (List UInt8) × Bool)) (hF : F_strings_Cut x0 x1 = some r) :
  Calls Tryz.prog 52 [(.string (mkS x0)), (.string (mkS x1))].toArray w0 fun e w' => e = .returned (.tuple #[(.string (mkS r.1)), (.string (mkS r.2.1)), (.bool r.2.2)]) ∧ Below w0.heap.size w0 w' := by
 refine calls_mk' Tryz.func52 rfl Tryz.ntmps52 rfl rfl fun Q hQ hP => ?_
 have hB : Below w0.heap.size w0 w0 := Below.refl _ _
 unfold F_strings_Cut at hF
 refine W.seq fun K1 hK1 => W.region (wl_assign rfl rfl (wl_assign rfl rfl (wl_assign rfl rfl (WL.nil (fun a ha => hK1 _ _ (W.seq fun K2 hK2 => (W.region (wl_move rfl rfl (wl_move rfl rfl ?_)))) a ha)))))
 obtain ⟨u3, hu3, hF⟩ := bindE hF
 refine wl_call rfl Tryz.call88 (C_stringslite_Cut w0 x0 x1 _ hu3) rfl ?_
 rintro _ w4 ⟨rfl, hb5⟩
 refine ⟨_, rfl, ?_⟩
 have hB6 := hB.trans (hb5.mono hB.size)
 refine wl_extract rfl rfl rfl (wl_extract rfl rfl rfl (wl_extract rfl rfl rfl (wl_assign rfl rfl (wl_assign rfl rfl (wl_assign rfl rfl (WL.nil (fun a ha => hK2 _ _ (W.ret ?_) a ha)))))))
 have hr := Option.some.inj hF
 subst hr
 exact rets (vs := [(.string (mkS u3.1)), (.string (mkS u3.2.1)), (.bool u3.2.2)]) hQ rfl ⟨rv_tmp rfl, rv_tmp rfl, rv_tmp rfl, trivial⟩ ⟨rfl, hB6⟩
theorem C_impl_readSteps (w0 : World) (x0 : (List UInt8)) (r : (Int × Bool)) (hF : F_impl_readSteps x0 = some r) :
  Calls Tryz.prog 87 [(.string (mkS x0))].toArray w0 fun e w' => e = .returned (.tuple #[(.int .i64 r.1), (.bool r.2)]) ∧ Below w0.heap.size w0 w' := by
 refine calls_mk' Tryz.func87 rfl Tryz.ntmps87 rfl rfl fun Q hQ hP => ?_
 have hB : Below w0.heap.size w0 w0 := Below.refl _ _
 have hS : Sep w0.heap.size w0 [] := Sep.nil _ _
 unfold F_impl_readSteps at hF
 refine W.seq fun K1 hK1 => W.region (wl_assign rfl rfl (wl_assign rfl rfl (WL.nil (fun a ha => hK1 _ _ (W.seq fun K2 hK2 => (W.region (wl_move rfl rfl ?_))) a ha))))
 obtain ⟨u3, hu3, hF⟩ := bindE hF
 refine wl_call rfl Tryz.call52 (C_strings_Cut w0 x0 [43] _ hu3) rfl ?_
 rintro _ w4 ⟨rfl, hb5⟩
 refine ⟨_, rfl, ?_⟩
 have hB6 := hB.trans (hb5.mono hB.size)
 have hS7 := hS.below hb5
 refine wl_move rfl rfl (wl_extract rfl rfl rfl (wl_extract rfl rfl rfl (wl_extract rfl rfl rfl (wl_assign rfl rfl (wl_assign rfl rfl (wl_assign rfl rfl (WL.nil (fun a ha => hK2 _ _ (W.seq fun K9 hK9 => (W.region (wl_move rfl rfl ?_))) a ha))))))))
 obtain ⟨u10, hu10, hF⟩ := bindE hF
 refine wl_call rfl Tryz.call50 (C_impl_natural w4 u3.1 _ hu10) rfl ?_
 rintro _ w11 ⟨rfl, hb12⟩
 refine ⟨_, rfl, ?_⟩
 have hB13 := hB6.trans (hb12.mono hB6.size)
 have hS14 := hS7.below hb12
 refine wl_move rfl rfl (wl_extract rfl rfl rfl (wl_extract rfl rfl rfl (wl_assign rfl rfl (wl_assign rfl rfl (WL.nil (fun a ha => hK9 _ _ (W.seq fun K16 hK16 => (W.seq fun K17 hK17 => (W.region (wl_move rfl rfl (wl_not rfl rfl (WL.nil (fun a ha => hK17 _ _ ?_ a ha))))))) a ha))))))
 refine W.cond rfl (fun h18 => ?_) (fun h18 => ?_)
 ·replace hF := ifP h18 hF
  refine W.seq fun K19 hK19 => W.region (wl_assign rfl rfl (wl_assign rfl rfl (WL.nil (fun a ha => hK19 _ _ (W.ret ?_) a ha))))
  have hr := Option.some.inj hF
  subst hr
  exact rets (vs := [(.int .i64 0), (.bool false)]) hQ rfl ⟨rv_tmp rfl, rv_tmp rfl, trivial⟩ ⟨rfl, hB13⟩
 ·replace hF := ifN h18 hF
  refine W.skip fun a ha => hK16 _ _ (W.seq fun K20 hK20 => (W.seq fun K21 hK21 => (W.region (wl_move rfl rfl (wl_not rfl rfl (WL.nil (fun a ha => hK21 _ _ (W.cond rfl (fun h22 => ?_) (fun h22 => ?_)) a ha))))))) a ha
  ·replace hF := ifP h22 hF
   refine W.seq fun K23 hK23 => W.region (wl_move rfl rfl (wl_mul rfl rfl rfl (wl_assign rfl rfl (wl_assign rfl rfl (WL.nil (fun a ha => hK23 _ _ (W.ret ?_) a ha))))))
   have hr := Option.some.inj hF
   subst hr
   exact rets (vs := [(.int .i64 (w64 (8 * u10.1))), (.bool true)]) hQ rfl ⟨rv_tmp rfl, rv_tmp rfl, trivial⟩ ⟨rfl, hB13⟩
  ·replace hF := ifN h22 hF
   refine W.skip fun a ha => hK20 _ _ (W.seq fun K24 hK24 => (W.region (wl_move rfl rfl ?_))) a ha
   obtain ⟨u25, hu25, hF⟩ := bindE hF
   refine wl_call rfl Tryz.call50 (C_impl_natural w11 u3.2.1 _ hu25) rfl ?_
   rintro _ w26 ⟨rfl, hb27⟩
   refine ⟨_, rfl, ?_⟩
   have hB28 := hB13.trans (hb27.mono hB13.size)
   have hS29 := hS14.below hb27
   refine wl_move rfl rfl (wl_extract rfl rfl rfl (wl_extract rfl rfl rfl (wl_assign rfl rfl (wl_assign rfl rfl (WL.nil (fun a ha => hK24 _ _ (W.seq fun K31 hK31 => (W.seq fun K32 hK32 => ?_)) a ha))))))
   obtain ⟨k37, hk37, hF⟩ := jE1 hF
   have hJ38 : ∀ (y36 : Bool) (w33 : World) (_ : k37 y36 = some r) (_ : Below w0.heap.size w0 w33) (_ : Sep w0.heap.size w33 []), ∀ a, St 43 [(7, (.int .i64 u10.1)), (9, (.int .i64 u25.1)), (38, (.bool y36))] a → K32 a w33 := by
    intro y36 w33 hF hB34 hS35
    subst hk37
    refine fun a ha => hK32 _ _ (W.cond rfl (fun h39 => ?_) (fun h39 => ?_)) a ha
    ·replace hF := ifP h39 hF
     refine W.seq fun K40 hK40 => W.region (wl_assign rfl rfl (wl_assign rfl rfl (WL.nil (fun a ha => hK40 _ _ (W.ret ?_) a ha))))
     have hr := Option.some.inj hF
     subst hr
     exact rets (vs := [(.int .i64 0), (.bool false)]) hQ rfl ⟨rv_tmp rfl, rv_tmp rfl, trivial⟩ ⟨rfl, hB34⟩
    ·replace hF := ifN h39 hF
     refine W.skip fun a ha => hK31 _ _ (W.seq fun K41 hK41 => (W.region (wl_move rfl rfl (wl_mul rfl rfl rfl (wl_move rfl rfl (wl_add rfl rfl rfl (wl_assign rfl rfl (wl_assign rfl rfl (WL.nil (fun a ha => hK41 _ _ (W.ret ?_) a ha)))))))))) a ha
     have hr := Option.some.inj hF
     subst hr
     exact rets (vs := [(.int .i64 (w64 ((w64 (8 * u10.1)) + u25.1))), (.bool true)]) hQ rfl ⟨rv_tmp rfl, rv_tmp rfl, trivial⟩ ⟨rfl, hB34⟩
   refine W.region (wl_move rfl rfl (wl_not rfl rfl (wl_move rfl rfl ?_)))
   rcases bE (!u25.2) with h42 | h42
   ·replace hF := ifP h42 hF
    refine wl_off rfl rfl rfl h42 (wl_off rfl rfl rfl h42 (wl_off rfl rfl rfl h42 (wl_pick_t rfl rfl h42 rfl (WL.nil ?_))))
    exact fun a ha => hJ38 (true) _ hF hB28 (hS29.sel [] rfl) a (ha.sub ⟨rfl, rfl, rfl, trivial⟩)
   ·replace hF := ifN h42 hF
    refine wl_on rfl rfl h42 (wl_move rfl rfl (wl_on rfl rfl h42 ?_))
    obtain ⟨u43, hu43, hF⟩ := bindE hF
    refine wl_call rfl Tryz.call38 (C_impl_within w26 u25.1 1 7 _ hu43) rfl ?_
    rintro _ w44 ⟨rfl, hb45⟩
    refine ⟨_, rfl, ?_⟩
    have hB46 := hB28.trans (hb45.mono hB28.size)
    have hS47 := hS29.below hb45
    refine wl_on rfl rfl h42 (wl_not rfl rfl (wl_pick_f rfl rfl h42 rfl (WL.nil ?_)))
    exact fun a ha => hJ38 ((!u43)) _ hF hB46 (hS47.sel [] rfl) a (ha.sub ⟨rfl, rfl, rfl, trivial⟩)
theorem C_impl_ParseSpot (w0 : World) (x0 : (List UInt8)) (r : ((Int × Int) × Bool)) (hF : F_impl_ParseSpot x0 = some r) :
  Calls Tryz.prog 51 [(.string (mkS x0))].toArray w0 fun e w' => e = .returned (.tuple #[(.agg #[(.int .i64 r.1.1), (.int .i64 r.1.2)]), (.bool r.2)]) ∧ Below w0.heap.size w0 w' := by
 refine calls_mk' Tryz.func51 rfl Tryz.ntmps51 rfl rfl fun Q hQ hP => ?_
 have hB : Below w0.heap.size w0 w0 := Below.refl _ _
 have hS : Sep w0.heap.size w0 [] := Sep.nil _ _
 unfold F_impl_ParseSpot at hF
 refine W.seq fun K1 hK1 => W.region (wl_alloc (cs := [(.int .i64 0), (.int .i64 0)]) tf_38 rfl rfl hB hS ?_)
 intro b2 w3 hb4 hB5 hS6
 refine wl_assign rfl rfl (WL.nil (fun a ha => hK1 _ _ (W.seq fun K7 hK7 => (W.region (wl_move rfl rfl ?_))) a ha))
 obtain ⟨u8, hu8, hF⟩ := bindE hF
 refine wl_call rfl Tryz.call52 (C_strings_Cut w3 x0 [44] _ hu8) rfl ?_
 rintro _ w9 ⟨rfl, hb10⟩
 refine ⟨_, rfl, ?_⟩
 have hB11 := hB5.trans (hb10.mono hB5.size)
 have hS12 := hS6.below hb10
 refine wl_move rfl rfl (wl_extract rfl rfl rfl (wl_extract rfl rfl rfl (wl_extract rfl rfl rfl (wl_assign rfl rfl (wl_assign rfl rfl (wl_assign rfl rfl (WL.nil (fun a ha => hK7 _ _ (W.seq fun K14 hK14 => (W.seq fun K15 hK15 => (W.region (wl_move rfl rfl (wl_not rfl rfl ?_))))) a ha))))))))
 refine WL.nil fun a ha => hK15 _ _ (W.cond rfl (fun h16 => ?_) (fun h16 => ?_)) a ha
 ·replace hF := ifP h16 hF
  refine W.seq fun K17 hK17 => W.region (wl_build (zs := [(.int .i64 0), (.int .i64 0)]) (out := [(.int .i64 0), (.int .i64 0)]) (vs := []) (css := []) tf_38 pl_38 rfl rfl rfl rfl rfl (wl_store_blk (i := 0) (vs := [(.int .i64 0), (.int .i64 0)]) (cs' := [(.int .i64 0), (.int .i64 0)]) tf_38 rfl rfl rfl rfl hB11 hS12 rfl rfl ⟨rfl, rfl, trivial⟩ rfl ?_))
  intro w18 hk21 hB19 hS20
  refine wl_assign rfl rfl (WL.nil (fun a ha => hK17 _ _ (W.ret ?_) a ha))
  have hr := Option.some.inj hF
  subst hr
  exact rets (vs := [(.agg #[(.int .i64 0), (.int .i64 0)]), (.bool false)]) hQ rfl ⟨rv_cell (i := 0) tf_38 rfl hS20 rfl rfl rfl, rv_tmp rfl, trivial⟩ ⟨rfl, hB19⟩
 ·replace hF := ifN h16 hF
  refine W.skip fun a ha => hK14 _ _ (W.seq fun K22 hK22 => (W.region (wl_move rfl rfl ?_))) a ha
  obtain ⟨u23, hu23, hF⟩ := bindE hF
  refine wl_call rfl Tryz.call87 (C_impl_readSteps w9 u8.1 _ hu23) rfl ?_
  rintro _ w24 ⟨rfl, hb25⟩
  refine ⟨_, rfl, ?_⟩
  have hB26 := hB11.trans (hb25.mono hB11.size)
  have hS27 := hS12.below hb25
  refine wl_move rfl rfl (wl_extract rfl rfl rfl (wl_extract rfl rfl rfl (wl_assign rfl rfl (wl_assign rfl rfl (WL.nil (fun a ha => hK22 _ _ (W.seq fun K29 hK29 => (W.region (wl_move rfl rfl ?_))) a ha))))))
  obtain ⟨u30, hu30, hF⟩ := bindE hF
  refine wl_call rfl Tryz.call87 (C_impl_readSteps w24 u8.2.1 _ hu30) rfl ?_
  rintro _ w31 ⟨rfl, hb32⟩
  refine ⟨_, rfl, ?_⟩
  have hB33 := hB26.trans (hb32.mono hB26.size)
  have hS34 := hS27.below hb32
  refine wl_move rfl rfl (wl_extract rfl rfl rfl (wl_extract rfl rfl rfl (wl_assign rfl rfl (wl_assign rfl rfl (WL.nil (fun a ha => hK29 _ _ (W.seq fun K36 hK36 => (W.region (wl_move rfl rfl (wl_move rfl rfl (wl_build (zs := [(.int .i64 0), (.int .i64 0)]) (out := [(.int .i64 u23.1), (.int .i64 u30.1)]) (vs := [(.int .i64 u23.1), (.int .i64 u30.1)]) (css := [[(.int .i64 u23.1)], [(.int .i64 u30.1)]]) tf_38 pl_38 rfl rfl rfl rfl rfl (wl_alloc (cs := [(.int .i64 0), (.int .i64 0)]) tf_38 rfl rfl hB33 hS34 ?_)))))) a ha))))))
  intro b37 w38 hb39 hB40 hS41
  refine wl_store_blk (i := 0) (vs := [(.int .i64 u23.1), (.int .i64 u30.1)]) (cs' := [(.int .i64 u23.1), (.int .i64 u30.1)]) tf_38 rfl rfl rfl rfl hB40 hS41 rfl rfl ⟨rfl, rfl, trivial⟩ rfl ?_
  intro w42 hk45 hB43 hS44
  refine WL.nil fun a ha => hK36 _ _ (W.seq fun K46 hK46 => (W.seq fun K47 hK47 => ?_)) a ha
  obtain ⟨k52, hk52, hF⟩ := jE1 hF
  have hJ53 : ∀ (y51 : Bool) (w48 : World) (_ : k52 y51 = some r) (_ : Below w0.heap.size w0 w48) (_ : Sep w0.heap.size w48 [R.blk b2 38 [(.int .i64 0), (.int .i64 0)], R.blk b37 38 [(.int .i64 u23.1), (.int .i64 u30.1)]]), ∀ a, St 47 [(2, (.pointer (some ⟨b2, 0, none⟩))), (11, (.pointer (some ⟨b37, 0, none⟩))), (44, (.bool y51))] a → K47 a w48 := by
   intro y51 w48 hF hB49 hS50
   subst hk52
   refine fun a ha => hK47 _ _ (W.cond rfl (fun h54 => ?_) (fun h54 => ?_)) a ha
   ·replace hF := ifP h54 hF
    refine W.seq fun K55 hK55 => W.region (wl_build (zs := [(.int .i64 0), (.int .i64 0)]) (out := [(.int .i64 0), (.int .i64 0)]) (vs := []) (css := []) tf_38 pl_38 rfl rfl rfl rfl rfl (wl_store_blk (i := 0) (vs := [(.int .i64 0), (.int .i64 0)]) (cs' := [(.int .i64 0), (.int .i64 0)]) tf_38 rfl rfl rfl rfl hB49 hS50 rfl rfl ⟨rfl, rfl, trivial⟩ rfl ?_))
    intro w56 hk59 hB57 hS58
    refine wl_assign rfl rfl (WL.nil (fun a ha => hK55 _ _ (W.ret ?_) a ha))
    have hr := Option.some.inj hF
    subst hr
    exact rets (vs := [(.agg #[(.int .i64 0), (.int .i64 0)]), (.bool false)]) hQ rfl ⟨rv_cell (i := 0) tf_38 rfl hS58 rfl rfl rfl, rv_tmp rfl, trivial⟩ ⟨rfl, hB57⟩
   ·replace hF := ifN h54 hF
    refine W.skip fun a ha => hK46 _ _ (W.seq fun K60 hK60 => (W.region (wl_load_blk (i := 1) (vs := [(.int .i64 u23.1), (.int .i64 u30.1)]) (v := (.agg #[(.int .i64 u23.1), (.int .i64 u30.1)])) tf_38 rfl rfl hS50 rfl rfl rfl (wl_store_blk (i := 0) (vs := [(.int .i64 u23.1), (.int .i64 u30.1)]) (cs' := [(.int .i64 u23.1), (.int .i64 u30.1)]) tf_38 rfl rfl rfl rfl hB49 hS50 rfl rfl ⟨rfl, rfl, trivial⟩ rfl ?_)))) a ha
    intro w61 hk64 hB62 hS63
    refine wl_assign rfl rfl (WL.nil (fun a ha => hK60 _ _ (W.ret ?_) a ha))
    have hr := Option.some.inj hF
    subst hr
    exact rets (vs := [(.agg #[(.int .i64 u23.1), (.int .i64 u30.1)]), (.bool true)]) hQ rfl ⟨rv_cell (i := 0) tf_38 rfl hS63 rfl rfl rfl, rv_tmp rfl, trivial⟩ ⟨rfl, hB62⟩
  refine W.region (wl_move rfl rfl (wl_not rfl rfl (wl_move rfl rfl ?_)))
  rcases bE (!u23.2) with h65 | h65
  ·replace hF := ifP h65 hF
   refine wl_off rfl rfl rfl h65 (wl_off rfl rfl rfl h65 (wl_pick_t rfl rfl h65 rfl (wl_move rfl rfl (wl_off rfl rfl rfl rfl (wl_off rfl rfl rfl rfl (wl_off rfl rfl rfl rfl (wl_pick_t rfl rfl rfl rfl (WL.nil ?_))))))))
   exact fun a ha => hJ53 (true) _ hF hB43 (hS44.sel [1, 0] rfl) a (ha.sub ⟨rfl, rfl, rfl, trivial⟩)
  ·replace hF := ifN h65 hF
   refine wl_on rfl rfl h65 (wl_move rfl rfl (wl_on rfl rfl h65 (wl_not rfl rfl (wl_pick_f rfl rfl h65 rfl (wl_move rfl rfl ?_)))))
   rcases bE (!u30.2) with h66 | h66
   ·replace hF := ifP h66 hF
    refine wl_off rfl rfl rfl h66 (wl_off rfl rfl rfl h66 (wl_off rfl rfl rfl h66 (wl_pick_t rfl rfl h66 rfl (WL.nil ?_))))
    exact fun a ha => hJ53 (true) _ hF hB43 (hS44.sel [1, 0] rfl) a (ha.sub ⟨rfl, rfl, rfl, trivial⟩)
   ·replace hF := ifN h66 hF
    refine wl_on rfl rfl h66 (wl_load_blk (i := 0) (vs := [(.int .i64 u23.1), (.int .i64 u30.1)]) (v := (.agg #[(.int .i64 u23.1), (.int .i64 u30.1)])) tf_38 rfl rfl hS44 rfl rfl rfl (wl_on rfl rfl h66 ?_))
    obtain ⟨u67, hu67, hF⟩ := bindE hF
    refine wl_call rfl Tryz.call77 (C_impl_IsSpot w42 (u23.1, u30.1) _ hu67) rfl ?_
    rintro _ w68 ⟨rfl, hb69⟩
    refine ⟨_, rfl, ?_⟩
    have hB70 := hB43.trans (hb69.mono hB43.size)
    have hS71 := hS44.below hb69
    refine wl_on rfl rfl h66 (wl_not rfl rfl (wl_pick_f rfl rfl h66 rfl (WL.nil ?_)))
    exact fun a ha => hJ53 ((!u67)) _ hF hB70 (hS71.sel [1, 0] rfl) a (ha.sub ⟨rfl, rfl, rfl, trivial⟩)
end Go.Proofs.YtejhnpimhjmpdaaGreatDoor
