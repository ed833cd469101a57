/-
  THE WALKS of functions of this seat, by program (gen.py, prune.py).
-/
import Derived.Test.YtmkignciedkidaaWXFnPlacesNowb
set_option linter.unusedSimpArgs false
set_option linter.unusedVariables false
set_option maxRecDepth 100000
set_option maxHeartbeats 1600000
namespace Go.Proofs.Ytmkignciedkidaa
open Go Go.RowKit
theorem C_spec_shOf (w0 : World) (x0 : (List (List (Int × Int)))) (v0_0 : Value) (h0_0 : rdS ty_63 (· < w0.heap.size) w0 v0_0 x0) (x1 : (List Int)) (v1_0 : Value) (h1_0 : rdS ty_3 (· < w0.heap.size) w0 v1_0 x1) (x2 : Int) (r : (Int × (Int × Int) × (List (Int × (Int × Int))))) (hF : F_spec_shOf x0 x1 x2 = some r) :
  Calls Try.prog 187 [v0_0, v1_0, (.int .i64 x2)].toArray w0 fun e w' => ∃ (q0 : Value) (G0 : List Nat), e = .returned (.agg #[(.int .i64 r.1), (.int .i64 r.2.1.1), (.int .i64 r.2.1.2), q0]) ∧ Below w0.heap.size w0 w' ∧ Sep w0.heap.size w' [R.own ty_169 G0 q0 r.2.2] := by
 refine calls_mk' Try.func187 rfl Try.ntmps187 rfl rfl fun Q hQ hP => ?_
 have hB : Below w0.heap.size w0 w0 := Below.refl _ _
 have hS : Sep w0.heap.size w0 [] := Sep.nil _ _
 unfold F_spec_shOf at hF
 refine W.seq fun K1 hK1 => W.region (wl_alloc (cs := [(.int .i64 0), (.int .i64 0), (.int .i64 0), (.slice none 0 0)]) tf_114 rfl rfl hB hS ?_)
 intro b2 w3 hb4 hB5 hS6
 refine WL.nil fun a ha => hK1 _ _ (W.seq fun K7 hK7 => (W.region (wl_move rfl rfl (wl_move rfl rfl ?_)))) a ha
 obtain ⟨u8, hu8, hF⟩ := bindE hF
 refine wl_index (e := ty_63) Try.underlying51 rfl rfl rfl h0_0 hu8 ?_
 rintro p9 _ ⟨v11, rfl, hv12⟩ hp10
 refine wl_load_p (vs := [v11]) (v := v11) tf_63 rfl rfl (hp10.ro hB5) rfl rfl (wl_move rfl rfl ?_)
 obtain ⟨u13, hu13, hF⟩ := bindE hF
 refine wl_index (e := ty_68) Try.underlying63 rfl rfl rfl hv12 hu13 ?_
 rintro p14 _ rfl hp15
 refine wl_load_p (vs := [(.int .i64 u13.1), (.int .i64 u13.2)]) (v := (.agg #[(.int .i64 u13.1), (.int .i64 u13.2)])) tf_68 rfl rfl (hp15.ro hB5) rfl rfl (wl_build (zs := [(.int .i64 0), (.int .i64 0), (.int .i64 0), (.slice none 0 0)]) (out := [(.int .i64 x2), (.int .i64 u13.1), (.int .i64 u13.2), (.slice none 0 0)]) (vs := [(.int .i64 x2), (.agg #[(.int .i64 u13.1), (.int .i64 u13.2)])]) (css := [[(.int .i64 x2)], [(.int .i64 u13.1), (.int .i64 u13.2)]]) tf_114 pl_114 rfl rfl rfl rfl rfl (wl_alloc (cs := [(.int .i64 0), (.int .i64 0), (.int .i64 0), (.slice none 0 0)]) tf_114 rfl rfl hB5 hS6 ?_))
 intro b16 w17 hb18 hB19 hS20
 refine wl_store_blk (i := 0) (vs := [(.int .i64 x2), (.int .i64 u13.1), (.int .i64 u13.2), (.slice none 0 0)]) (cs' := [(.int .i64 x2), (.int .i64 u13.1), (.int .i64 u13.2), (.slice none 0 0)]) tf_114 rfl rfl rfl rfl hB19 hS20 rfl rfl ⟨rfl, rfl, rfl, rfl, trivial⟩ rfl ?_
 intro w21 hk24 hB22 hS23
 refine WL.nil fun a ha => hK7 _ _ (W.seq fun K25 hK25 => (W.seq fun K26 hK26 => (W.region (wl_move rfl rfl (wl_lenr (e := ty_3) (l := x1) Try.underlying29 rfl rfl h1_0 (wl_move rfl rfl (WL.nil (fun a ha => hK26 _ _ (W.block (W.loopk (fun m a w27 => ∃ (l30 : (List (Int × (Int × Int)))) (y33 : Int) (v31 : Value) (F32 : List Nat), St 42 [(0, v0_0), (2, (.int .i64 x2)), (6, (.pointer (some ⟨b2, 0, none⟩))), (7, (.pointer (some ⟨b16, 0, none⟩))), (18, v1_0), (19, (.int .i64 (List.length x1 : Int))), (20, (.int .i64 y33))] a ∧ Below w0.heap.size w0 w27 ∧ Sep w0.heap.size w27 [R.blk b2 114 [(.int .i64 0), (.int .i64 0), (.int .i64 0), (.slice none 0 0)], R.own ty_169 F32 v31 l30, R.blk b16 114 [(.int .i64 x2), (.int .i64 u13.1), (.int .i64 u13.2), v31]] ∧ F_spec_shOf_L1 x1 x0 x2 u13 m l30 y33 = some r) FU ?_ ?_)) a ha)))))))) a ha
 ·
  have hS35 := hS23.push0 (r := R.own ty_169 [] (.slice none 0 0) []) rfl fun _ => .inl ⟨rfl, rfl, rfl⟩
  exact fun a ha => ⟨[], 0, (.slice none 0 0), [], ha.sub ⟨rfl, rfl, rfl, rfl, rfl, rfl, rfl, trivial⟩, hB22, (hS35.sel [2, 0, 1] rfl), hF⟩
 ·
  rintro m37 a w27 ⟨l30, y33, v31, F32, ha, hB28, hS29, hF⟩ KL36 hKL36
  refine W.at ?_ ha
  cases m37 with
  | zero => exact noneE hF
  | succ m37 =>
   obtain ⟨nx34, hnx34⟩ : ∃ k, k = F_spec_shOf_L1 x1 x0 x2 u13 m37 := ⟨_, rfl⟩
   rw [F_spec_shOf_L1, ← hnx34] at hF
   refine W.seq fun K38 hK38 => W.region (wl_lss rfl rfl rfl (WL.nil (fun a ha => hK38 _ _ (W.seq fun K39 hK39 => (W.cond rfl (fun h40 => ?_) (fun h40 => ?_))) a ha)))
   ·replace hF := ifP h40 hF
    refine W.skip fun a ha => hK39 _ _ (W.seq fun K41 hK41 => ?_) a ha
    obtain ⟨k48, hk48, hF⟩ := jE1 hF
    have hJ49 : ∀ (l45 : (List (Int × (Int × Int)))) (v46 : Value) (F47 : List Nat) (w42 : World) (_ : k48 l45 = some r) (_ : Below w0.heap.size w0 w42) (_ : Sep w0.heap.size w42 [R.blk b2 114 [(.int .i64 0), (.int .i64 0), (.int .i64 0), (.slice none 0 0)], R.own ty_169 F47 v46 l45, R.blk b16 114 [(.int .i64 x2), (.int .i64 u13.1), (.int .i64 u13.2), v46]]), ∀ a, St 42 [(0, v0_0), (2, (.int .i64 x2)), (6, (.pointer (some ⟨b2, 0, none⟩))), (7, (.pointer (some ⟨b16, 0, none⟩))), (18, v1_0), (19, (.int .i64 (List.length x1 : Int))), (20, (.int .i64 y33))] a → K41 a w42 := by
     intro l45 v46 F47 w42 hF hB43 hS44
     subst hk48
     refine fun a ha => hK41 _ _ (W.region (wl_add rfl rfl rfl (wl_move rfl rfl (WL.nil ?_)))) a ha
     rw [hnx34] at hF
     exact fun a ha => hKL36 a _ m37 (Nat.lt_succ_self m37) ⟨l45, (w64 (y33 + 1)), v46, F47, ha.sub ⟨rfl, rfl, rfl, rfl, rfl, rfl, rfl, trivial⟩, hB43, (hS44.sel [0, 1, 2] rfl), hF⟩
    refine W.block (W.seq fun K50 hK50 => (W.region (wl_move rfl rfl ?_)))
    obtain ⟨u51, hu51, hF⟩ := bindE hF
    refine wl_index (e := ty_3) Try.underlying29 rfl rfl rfl h1_0 hu51 ?_
    rintro p52 _ rfl hp53
    refine wl_load_p (vs := [(.int .i64 u51)]) (v := (.int .i64 u51)) tf_3 rfl rfl (hp53.ro hB28) rfl rfl (wl_assign rfl rfl (wl_assign rfl rfl (WL.nil (fun a ha => hK50 _ _ (W.regionH mixed_ (F32 ++ [b16]) hB28 hS29 ?_) a ha))))
    intro w54 hb55 hB56 hS57
    have hSW58 := KeepX.refl w54 (F32 ++ [b16])
    refine WH.takex (i := 0) rfl (by kernel_rfl) (by kernel_rfl) (by kernel_rfl) hP hSW58 (pr_field (o := 3) (off' := 3) ff_114_2 rfl rfl rfl (WH.takex (i := 2) rfl (by kernel_rfl) (by kernel_rfl) (by kernel_rfl) hP hSW58 (pr_move rfl rfl (WH.takex (i := 3) rfl (by kernel_rfl) (by kernel_rfl) (by kernel_rfl) hP hSW58 (pr_move rfl rfl (WH.takex (i := 4) rfl (by kernel_rfl) (by kernel_rfl) (by kernel_rfl) hP hSW58 (pr_move rfl rfl (WH.takex (i := 5) rfl (by kernel_rfl) (by kernel_rfl) (by kernel_rfl) hP hSW58 (pr_add rfl rfl rfl ?_)))))))))
    obtain ⟨u59, hu59, hF⟩ := bindE hF
    refine WH.takex (i := 6) rfl (by kernel_rfl) (by kernel_rfl) (by kernel_rfl) hP hSW58 (pr_index (e := ty_63) Try.underlying51 rfl rfl rfl h0_0 hu59 ?_)
    rintro p60 _ ⟨v62, rfl, hv63⟩ hp61
    refine WH.takex (i := 7) rfl (by kernel_rfl) (by kernel_rfl) (by kernel_rfl) hP hSW58 (pr_load_p (vs := [v62]) (v := v62) tf_63 rfl rfl (hp61.kx hB56 (fun b hb => ((List.mem_append.1 hb).elim (fun hb => (((hS57.get (i := 1) rfl).2.1 b hb).1)) (fun hb => (((hS57.get (i := 2) rfl).2.1 b hb).1))))) rfl rfl (WH.takex (i := 8) rfl (by kernel_rfl) (by kernel_rfl) (by kernel_rfl) hP hSW58 (pr_move rfl rfl ?_)))
    obtain ⟨u64, hu64, hF⟩ := bindE hF
    refine WH.takex (i := 9) rfl (by kernel_rfl) (by kernel_rfl) (by kernel_rfl) hP hSW58 (pr_index (e := ty_68) Try.underlying63 rfl rfl rfl hv63 hu64 ?_)
    rintro p65 _ rfl hp66
    refine WH.takex (i := 10) rfl (by kernel_rfl) (by kernel_rfl) (by kernel_rfl) hP hSW58 (pr_load_p (vs := [(.int .i64 u64.1), (.int .i64 u64.2)]) (v := (.agg #[(.int .i64 u64.1), (.int .i64 u64.2)])) tf_68 rfl rfl (hp66.kx hB56 (fun b hb => ((List.mem_append.1 hb).elim (fun hb => (((hS57.get (i := 1) rfl).2.1 b hb).1)) (fun hb => (((hS57.get (i := 2) rfl).2.1 b hb).1))))) rfl rfl (WH.takex (i := 11) rfl (by kernel_rfl) (by kernel_rfl) (by kernel_rfl) hP hSW58 (pr_build (zs := [(.int .i64 0), (.int .i64 0), (.int .i64 0)]) (out := [(.int .i64 u51), (.int .i64 u64.1), (.int .i64 u64.2)]) (vs := [(.int .i64 u51), (.agg #[(.int .i64 u64.1), (.int .i64 u64.2)])]) (css := [[(.int .i64 u51)], [(.int .i64 u64.1), (.int .i64 u64.2)]]) tf_169 pl_169 rfl rfl rfl rfl rfl (WH.many (is := [1, 12]) (by kernel_rfl) rfl ?_))))
    refine List.forall_mem_cons.2 ⟨⟨_, rfl, ?_⟩, List.forall_mem_cons.2 ⟨⟨_, rfl, ?_⟩, fun _ h => by cases h⟩⟩
    ·
     refine wl_load_blk (i := 2) (vs := [v31]) (v := v31) tf_112 rfl rfl hS57 rfl rfl rfl (WL.nil (WH.ret hSW58 (WH.one (i := 12) (by kernel_rfl) rfl (wl_lit (vs := [(.agg #[(.int .i64 u51), (.int .i64 u64.1), (.int .i64 u64.2)])]) (l := [(u51, u64)]) fl_169 Try.underlying112 rfl rfl rfl rfl rfl rfl (Below.self w54) (Sep.nil _ _) ?_))))
     intro v67 F68 w69 hb70 hB73 hM74
     have hB71 := hB56.trans (hb70.mono hB56.size)
     have hS72 := hS57.join hb70 hM74 hB56.size
     have hn75 : ∀ b ∈ F68, w54.heap.size ≤ b := fun b hb => Nat.le_trans hSW58.size ((hM74.1 _ (List.mem_cons_self ..)).2.1 b hb).1
     have hSW76 := hSW58.ext hb70
     have hbS77 : Below w54.heap.size w54 w69 := hb70
     refine WL.nil (WH.ret hSW76 (WH.one (i := 13) (by kernel_rfl) rfl ?_))
     obtain ⟨u78, hu78, hF⟩ := bindE hF
     refine wl_append (i := 2) (S := (· < w69.heap.size)) fl_169 Try.underlying112 rfl rfl rfl hB71 hS72 rfl (hS72.own_ro (i := 0) rfl) hu78 ?_
     intro v79 F80 w81 hk82 hB83 hS84
     have hSW85 := hSW76.wr' hk82.1 hk82.2.1 (fun _ _ h => List.mem_append_left _ (h))
     have hbs86 : ∀ b, b < w54.heap.size → b ∈ F80 → b ∈ (F32 ++ [b16]) := fun b hlt hb => (hk82.2.2 b hb).elim ((fun _ _ h => List.mem_append_left _ (h)) b hlt) (fun h => absurd hlt (Nat.not_lt.2 (Nat.le_trans hSW76.size h)))
     refine WL.nil (WH.ret hSW85 (WH.takex (i := 14) rfl (by kernel_rfl) (by kernel_rfl) (by kernel_rfl) hP hSW85 (pr_field (o := 3) (off' := 3) ff_114_2 rfl rfl rfl (WH.one (i := 15) (by kernel_rfl) rfl (wl_store_blk (i := 3) (vs := [v79]) (cs' := [(.int .i64 x2), (.int .i64 u13.1), (.int .i64 u13.2), v79]) tf_112 rfl rfl (cells_one (hS84.own_ro (i := 2) rfl).one) rfl hB83 hS84 rfl rfl ⟨(hS84.own_ro (i := 2) rfl).one, trivial⟩ rfl ?_)))))
     intro w87 hk90 hB88 hS89
     have hSW91 := hSW85.wr' hk90.1 hk90.2.1 (fun _ _ h => List.mem_append_right _ h)
     have hbs92 : ∀ b, b < w54.heap.size → b ∈ [b16] → b ∈ (F32 ++ [b16]) := fun b hlt hb => (hk90.2.2 b hb).elim ((fun _ _ h => List.mem_append_right _ h) b hlt) (fun h => absurd hlt (Nat.not_lt.2 (Nat.le_trans hSW85.size h)))
     refine WL.nil (WH.ret hSW91 (WH.done (by kernel_rfl) ?_))
     exact fun a ha => hJ49 (u78) (v79) (F80) _ hF hB88 (hS89.sel [1, 2, 3] rfl) a (ha.sub ⟨rfl, rfl, rfl, rfl, rfl, rfl, rfl, trivial⟩)
    ·
     refine wl_lit (vs := [(.agg #[(.int .i64 u51), (.int .i64 u64.1), (.int .i64 u64.2)])]) (l := [(u51, u64)]) fl_169 Try.underlying112 rfl rfl rfl rfl rfl rfl (Below.self w54) (Sep.nil _ _) ?_
     intro v93 F94 w95 hb96 hB99 hM100
     have hB97 := hB56.trans (hb96.mono hB56.size)
     have hS98 := hS57.join hb96 hM100 hB56.size
     have hn101 : ∀ b ∈ F94, w54.heap.size ≤ b := fun b hb => Nat.le_trans hSW58.size ((hM100.1 _ (List.mem_cons_self ..)).2.1 b hb).1
     have hSW102 := hSW58.ext hb96
     have hbS103 : Below w54.heap.size w54 w95 := hb96
     refine WL.nil (WH.ret hSW102 (WH.one (i := 1) (by kernel_rfl) rfl (wl_load_blk (i := 3) (vs := [v31]) (v := v31) tf_112 rfl rfl hS98 rfl rfl rfl (WL.nil (WH.ret hSW102 (WH.one (i := 13) (by kernel_rfl) rfl ?_))))))
     obtain ⟨u104, hu104, hF⟩ := bindE hF
     refine wl_append (i := 2) (S := (· < w95.heap.size)) fl_169 Try.underlying112 rfl rfl rfl hB97 hS98 rfl (hS98.own_ro (i := 0) rfl) hu104 ?_
     intro v105 F106 w107 hk108 hB109 hS110
     have hSW111 := hSW102.wr' hk108.1 hk108.2.1 (fun _ _ h => List.mem_append_left _ (h))
     have hbs112 : ∀ b, b < w54.heap.size → b ∈ F106 → b ∈ (F32 ++ [b16]) := fun b hlt hb => (hk108.2.2 b hb).elim ((fun _ _ h => List.mem_append_left _ (h)) b hlt) (fun h => absurd hlt (Nat.not_lt.2 (Nat.le_trans hSW102.size h)))
     refine WL.nil (WH.ret hSW111 (WH.takex (i := 14) rfl (by kernel_rfl) (by kernel_rfl) (by kernel_rfl) hP hSW111 (pr_field (o := 3) (off' := 3) ff_114_2 rfl rfl rfl (WH.one (i := 15) (by kernel_rfl) rfl (wl_store_blk (i := 3) (vs := [v105]) (cs' := [(.int .i64 x2), (.int .i64 u13.1), (.int .i64 u13.2), v105]) tf_112 rfl rfl (cells_one (hS110.own_ro (i := 2) rfl).one) rfl hB109 hS110 rfl rfl ⟨(hS110.own_ro (i := 2) rfl).one, trivial⟩ rfl ?_)))))
     intro w113 hk116 hB114 hS115
     have hSW117 := hSW111.wr' hk116.1 hk116.2.1 (fun _ _ h => List.mem_append_right _ h)
     have hbs118 : ∀ b, b < w54.heap.size → b ∈ [b16] → b ∈ (F32 ++ [b16]) := fun b hlt hb => (hk116.2.2 b hb).elim ((fun _ _ h => List.mem_append_right _ h) b hlt) (fun h => absurd hlt (Nat.not_lt.2 (Nat.le_trans hSW111.size h)))
     refine WL.nil (WH.ret hSW117 (WH.done (by kernel_rfl) ?_))
     exact fun a ha => hJ49 (u104) (v105) (F106) _ hF hB114 (hS115.sel [1, 2, 3] rfl) a (ha.sub ⟨rfl, rfl, rfl, rfl, rfl, rfl, rfl, trivial⟩)
   ·replace hF := ifN h40 hF
    refine W.exit fun a ha => hK25 _ _ (W.seq fun K119 hK119 => (W.region (wl_load_blk (i := 2) (vs := [(.int .i64 x2), (.int .i64 u13.1), (.int .i64 u13.2), v31]) (v := (.agg #[(.int .i64 x2), (.int .i64 u13.1), (.int .i64 u13.2), v31])) tf_114 rfl rfl hS29 rfl rfl rfl (wl_store_blk (i := 0) (vs := [(.int .i64 x2), (.int .i64 u13.1), (.int .i64 u13.2), v31]) (cs' := [(.int .i64 x2), (.int .i64 u13.1), (.int .i64 u13.2), v31]) tf_114 rfl rfl rfl rfl hB28 hS29 rfl rfl ⟨rfl, rfl, rfl, (hS29.own_ro (i := 1) rfl).one, trivial⟩ rfl ?_)))) a ha
    intro w120 hk123 hB121 hS122
    refine WL.nil fun a ha => hK119 _ _ (W.ret ?_) a ha
    have hr := Option.some.inj hF
    subst hr
    exact rets (vs := [(.agg #[(.int .i64 x2), (.int .i64 u13.1), (.int .i64 u13.2), v31])]) hQ rfl ⟨rv_cell (i := 0) tf_114 rfl hS122 rfl rfl rfl, trivial⟩ ⟨v31, F32, rfl, hB121, hS122.sel [1] rfl⟩
theorem C_spec_swTotal (w0 : World) (x0 : ((List (List (Int × Int))) × (List Int) × Int × Int)) (v0_0 : Value) (h0_0 : rdS ty_63 (· < w0.heap.size) w0 v0_0 x0.1) (v0_1 : Value) (h0_1 : rdS ty_3 (· < w0.heap.size) w0 v0_1 x0.2.1) (r : Int) (hF : F_spec_swTotal x0 = some r) :
  Calls Try.prog 188 [(.agg #[v0_0, v0_1, (.int .i64 x0.2.2.1), (.int .i64 x0.2.2.2)])].toArray w0 fun e w' => e = .returned (.int .i64 r) ∧ Below w0.heap.size w0 w' := by
 refine calls_mk' Try.func188 rfl Try.ntmps188 rfl rfl fun Q hQ hP => ?_
 have hB : Below w0.heap.size w0 w0 := Below.refl _ _
 have hS : Sep w0.heap.size w0 [] := Sep.nil _ _
 unfold F_spec_swTotal at hF
 refine W.seq fun K1 hK1 => W.region (wl_box (cs := [v0_0, v0_1, (.int .i64 x0.2.2.1), (.int .i64 x0.2.2.2)]) rfl rfl rfl hB hS ?_)
 intro b2 w3 hb4 hB5 hS6
 refine wl_assign rfl rfl (WL.nil (fun a ha => hK1 _ _ (W.seq fun K7 hK7 => (W.region (wl_assign rfl rfl (WL.nil (fun a ha => hK7 _ _ (W.seq fun K8 hK8 => (W.seq fun K9 hK9 => (W.region (wl_field (o := 1) (off' := 1) ff_53_1 rfl rfl rfl (wl_load_blk (i := 0) (vs := [v0_1]) (v := v0_1) tf_29 rfl rfl hS6 rfl rfl rfl (wl_lenr (e := ty_3) (l := x0.2.1) Try.underlying29 rfl rfl h0_1 ?_)))))) a ha))))) a ha))
 refine wl_move rfl rfl (WL.nil (fun a ha => hK9 _ _ (W.block (W.loopk (fun m a w10 => ∃ (y13 : Int) (y14 : Int), St 18 [(3, (.int .i64 y13)), (7, v0_1), (8, (.int .i64 (List.length x0.2.1 : Int))), (9, (.int .i64 y14))] a ∧ Below w0.heap.size w0 w10 ∧ Sep w0.heap.size w10 [] ∧ F_spec_swTotal_L1 x0 m y13 y14 = some r) FU ?_ ?_)) a ha))
 ·
  exact fun a ha => ⟨0, 0, ha.sub ⟨rfl, rfl, rfl, rfl, trivial⟩, hB5, (hS6.sel [] rfl), hF⟩
 ·
  rintro m17 a w10 ⟨y13, y14, ha, hB11, hS12, hF⟩ KL16 hKL16
  refine W.at ?_ ha
  cases m17 with
  | zero => exact noneE hF
  | succ m17 =>
   obtain ⟨nx15, hnx15⟩ : ∃ k, k = F_spec_swTotal_L1 x0 m17 := ⟨_, rfl⟩
   rw [F_spec_swTotal_L1, ← hnx15] at hF
   refine W.seq fun K18 hK18 => W.region (wl_lss rfl rfl rfl (WL.nil (fun a ha => hK18 _ _ (W.seq fun K19 hK19 => (W.cond rfl (fun h20 => ?_) (fun h20 => ?_))) a ha)))
   ·replace hF := ifP h20 hF
    refine W.skip fun a ha => hK19 _ _ (W.seq fun K21 hK21 => (W.block (W.seq fun K22 hK22 => (W.region ?_)))) a ha
    obtain ⟨u23, hu23, hF⟩ := bindE hF
    refine wl_index (e := ty_3) Try.underlying29 rfl rfl rfl h0_1 hu23 ?_
    rintro p24 _ rfl hp25
    refine wl_load_p (vs := [(.int .i64 u23)]) (v := (.int .i64 u23)) tf_3 rfl rfl (hp25.ro hB11) rfl rfl (wl_assign rfl rfl (WL.nil (fun a ha => hK22 _ _ (W.region (wl_move rfl rfl (wl_move rfl rfl (wl_add rfl rfl rfl (wl_assign rfl rfl (WL.nil (fun a ha => hK21 _ _ (W.region (wl_add rfl rfl rfl (wl_move rfl rfl ?_))) a ha))))))) a ha)))
    refine WL.nil ?_
    rw [hnx15] at hF
    exact fun a ha => hKL16 a _ m17 (Nat.lt_succ_self m17) ⟨(w64 (y13 + u23)), (w64 (y14 + 1)), ha.sub ⟨rfl, rfl, rfl, rfl, trivial⟩, hB11, (hS12.sel [] rfl), hF⟩
   ·replace hF := ifN h20 hF
    refine W.exit fun a ha => hK8 _ _ (W.seq fun K26 hK26 => (W.region (wl_move rfl rfl (wl_assign rfl rfl (WL.nil (fun a ha => hK26 _ _ (W.ret ?_) a ha)))))) a ha
    have hr := Option.some.inj hF
    subst hr
    exact rets (vs := [(.int .i64 y13)]) hQ rfl ⟨rv_tmp rfl, trivial⟩ ⟨rfl, hB11⟩
theorem C_spec_TotalCounts (w0 : World) (x0 : ((List (List (Int × Int))) × (List Int) × Int × Int)) (v0_0 : Value) (h0_0 : rdS ty_63 (· < w0.heap.size) w0 v0_0 x0.1) (v0_1 : Value) (h0_1 : rdS ty_3 (· < w0.heap.size) w0 v0_1 x0.2.1) (r : (Int × Bool)) (hF : F_spec_TotalCounts x0 = some r) :
  Calls Try.prog 80 [(.agg #[v0_0, v0_1, (.int .i64 x0.2.2.1), (.int .i64 x0.2.2.2)])].toArray w0 fun e w' => e = .returned (.tuple #[(.int .i64 r.1), (.bool r.2)]) ∧ Below w0.heap.size w0 w' := by
 refine calls_mk' Try.func80 rfl Try.ntmps80 rfl rfl fun Q hQ hP => ?_
 have hB : Below w0.heap.size w0 w0 := Below.refl _ _
 have hS : Sep w0.heap.size w0 [] := Sep.nil _ _
 unfold F_spec_TotalCounts at hF
 refine W.seq fun K1 hK1 => W.region (wl_box (cs := [v0_0, v0_1, (.int .i64 x0.2.2.1), (.int .i64 x0.2.2.2)]) rfl rfl rfl hB hS ?_)
 intro b2 w3 hb4 hB5 hS6
 refine wl_assign rfl rfl (wl_assign rfl rfl (WL.nil (fun a ha => hK1 _ _ (W.seq fun K7 hK7 => (W.seq fun K8 hK8 => (W.region (wl_load_blk (i := 0) (vs := [v0_0, v0_1, (.int .i64 x0.2.2.1), (.int .i64 x0.2.2.2)]) (v := (.agg #[v0_0, v0_1, (.int .i64 x0.2.2.1), (.int .i64 x0.2.2.2)])) tf_53 rfl rfl hS6 rfl rfl rfl ?_)))) a ha)))
 obtain ⟨u9, hu9, hF⟩ := bindE hF
 refine wl_call rfl Try.call145 (C_spec_swGood w3 x0 v0_0 (h0_0.ro hB5) v0_1 (h0_1.ro hB5) _ hu9) rfl ?_
 rintro _ w10 ⟨rfl, hb11⟩
 refine ⟨_, rfl, ?_⟩
 have hB12 := hB5.trans (hb11.mono hB5.size)
 have hS13 := hS6.below hb11
 refine wl_not rfl rfl (WL.nil (fun a ha => hK8 _ _ (W.cond rfl (fun h15 => ?_) (fun h15 => ?_)) a ha))
 ·replace hF := ifP h15 hF
  refine W.seq fun K16 hK16 => W.region (wl_assign rfl rfl (wl_assign rfl rfl (WL.nil (fun a ha => hK16 _ _ (W.ret ?_) a ha))))
  have hr := Option.some.inj hF
  subst hr
  exact rets (vs := [(.int .i64 0), (.bool false)]) hQ rfl ⟨rv_tmp rfl, rv_tmp rfl, trivial⟩ ⟨rfl, hB12⟩
 ·replace hF := ifN h15 hF
  refine W.skip fun a ha => hK7 _ _ (W.seq fun K17 hK17 => (W.region (wl_load_blk (i := 0) (vs := [v0_0, v0_1, (.int .i64 x0.2.2.1), (.int .i64 x0.2.2.2)]) (v := (.agg #[v0_0, v0_1, (.int .i64 x0.2.2.1), (.int .i64 x0.2.2.2)])) tf_53 rfl rfl hS13 rfl rfl rfl ?_))) a ha
  obtain ⟨u18, hu18, hF⟩ := bindE hF
  refine wl_call rfl Try.call188 (C_spec_swTotal w10 x0 v0_0 (h0_0.ro hB12) v0_1 (h0_1.ro hB12) _ hu18) rfl ?_
  rintro _ w19 ⟨rfl, hb20⟩
  refine ⟨_, rfl, ?_⟩
  have hB21 := hB12.trans (hb20.mono hB12.size)
  have hS22 := hS13.below hb20
  refine wl_assign rfl rfl (wl_assign rfl rfl (WL.nil (fun a ha => hK17 _ _ (W.ret ?_) a ha)))
  have hr := Option.some.inj hF
  subst hr
  exact rets (vs := [(.int .i64 u18), (.bool true)]) hQ rfl ⟨rv_tmp rfl, rv_tmp rfl, trivial⟩ ⟨rfl, hB21⟩
theorem C_impl_IsSheet (w0 : World) (x0 : (Int × (Int × Int) × (List (Int × (Int × Int))))) (v0_0 : Value) (h0_0 : rdS ty_169 (· < w0.heap.size) w0 v0_0 x0.2.2) (r : Bool) (hF : F_impl_IsSheet x0 = some r) :
  Calls Try.prog 192 [(.agg #[(.int .i64 x0.1), (.int .i64 x0.2.1.1), (.int .i64 x0.2.1.2), v0_0])].toArray w0 fun e w' => e = .returned (.bool r) ∧ Below w0.heap.size w0 w' := by
 refine calls_mk' Try.func192 rfl Try.ntmps192 rfl rfl fun Q hQ hP => ?_
 have hB : Below w0.heap.size w0 w0 := Below.refl _ _
 have hS : Sep w0.heap.size w0 [] := Sep.nil _ _
 unfold F_impl_IsSheet at hF
 refine W.seq fun K1 hK1 => W.region (wl_box (cs := [(.int .i64 x0.1), (.int .i64 x0.2.1.1), (.int .i64 x0.2.1.2), v0_0]) rfl rfl rfl hB hS ?_)
 intro b2 w3 hb4 hB5 hS6
 refine wl_assign rfl rfl (WL.nil (fun a ha => hK1 _ _ (W.seq fun K7 hK7 => (W.seq fun K8 hK8 => ?_)) a ha))
 obtain ⟨k13, hk13, hF⟩ := jE1 hF
 have hJ14 : ∀ (y12 : Bool) (w9 : World) (_ : k13 y12 = some r) (_ : Below w0.heap.size w0 w9) (_ : Sep w0.heap.size w9 [R.blk b2 114 [(.int .i64 x0.1), (.int .i64 x0.2.1.1), (.int .i64 x0.2.1.2), v0_0]]), ∀ a, St 39 [(1, (.pointer (some ⟨b2, 0, none⟩))), (20, (.bool y12))] a → K8 a w9 := by
  intro y12 w9 hF hB10 hS11
  subst hk13
  refine fun a ha => hK8 _ _ (W.cond rfl (fun h15 => ?_) (fun h15 => ?_)) a ha
  ·replace hF := ifP h15 hF
   refine W.seq fun K16 hK16 => W.region (wl_assign rfl rfl (WL.nil (fun a ha => hK16 _ _ (W.ret ?_) a ha)))
   have hr := Option.some.inj hF
   subst hr
   exact rets (vs := [(.bool false)]) hQ rfl ⟨rv_tmp rfl, trivial⟩ ⟨rfl, hB10⟩
  ·replace hF := ifN h15 hF
   refine W.skip fun a ha => hK7 _ _ (W.seq fun K17 hK17 => (W.seq fun K18 hK18 => (W.region (wl_field (o := 3) (off' := 3) ff_114_2 rfl rfl rfl (wl_load_blk (i := 0) (vs := [v0_0]) (v := v0_0) tf_112 rfl rfl hS11 rfl rfl rfl (wl_lenr (e := ty_169) (l := x0.2.2) Try.underlying112 rfl rfl h0_0 (wl_move rfl rfl (WL.nil (fun a ha => hK18 _ _ (W.block (W.loopk (fun m a w19 => ∃ (y22 : Int), St 39 [(22, v0_0), (23, (.int .i64 (List.length x0.2.2 : Int))), (24, (.int .i64 y22))] a ∧ Below w0.heap.size w0 w19 ∧ Sep w0.heap.size w19 [] ∧ F_impl_IsSheet_L1 x0 m y22 = some r) FU ?_ ?_)) a ha))))))))) a ha
   ·
    exact fun a ha => ⟨0, ha.sub ⟨rfl, rfl, rfl, trivial⟩, hB10, (hS11.sel [] rfl), hF⟩
   ·
    rintro m25 a w19 ⟨y22, ha, hB20, hS21, hF⟩ KL24 hKL24
    refine W.at ?_ ha
    cases m25 with
    | zero => exact noneE hF
    | succ m25 =>
     obtain ⟨nx23, hnx23⟩ : ∃ k, k = F_impl_IsSheet_L1 x0 m25 := ⟨_, rfl⟩
     rw [F_impl_IsSheet_L1, ← hnx23] at hF
     refine W.seq fun K26 hK26 => W.region (wl_lss rfl rfl rfl (WL.nil (fun a ha => hK26 _ _ (W.seq fun K27 hK27 => (W.cond rfl (fun h28 => ?_) (fun h28 => ?_))) a ha)))
     ·replace hF := ifP h28 hF
      refine W.skip fun a ha => hK27 _ _ (W.seq fun K29 hK29 => (W.block (W.seq fun K30 hK30 => (W.region ?_)))) a ha
      obtain ⟨u31, hu31, hF⟩ := bindE hF
      refine wl_index (e := ty_169) Try.underlying112 rfl rfl rfl h0_0 hu31 ?_
      rintro p32 _ rfl hp33
      refine wl_load_p (vs := [(.int .i64 u31.1), (.int .i64 u31.2.1), (.int .i64 u31.2.2)]) (v := (.agg #[(.int .i64 u31.1), (.int .i64 u31.2.1), (.int .i64 u31.2.2)])) tf_169 rfl rfl (hp33.ro hB20) rfl rfl (wl_alloc (cs := [(.int .i64 0), (.int .i64 0), (.int .i64 0)]) tf_169 rfl rfl hB20 hS21 ?_)
      intro b34 w35 hb36 hB37 hS38
      refine wl_store_blk (i := 0) (vs := [(.int .i64 u31.1), (.int .i64 u31.2.1), (.int .i64 u31.2.2)]) (cs' := [(.int .i64 u31.1), (.int .i64 u31.2.1), (.int .i64 u31.2.2)]) tf_169 rfl rfl rfl rfl hB37 hS38 rfl rfl ⟨rfl, rfl, rfl, trivial⟩ rfl ?_
      intro w39 hk42 hB40 hS41
      refine WL.nil fun a ha => hK30 _ _ (W.seq fun K43 hK43 => ?_) a ha
      obtain ⟨k48, hk48, hF⟩ := jE1 hF
      have hJ49 : ∀ (y47 : Bool) (w44 : World) (_ : k48 y47 = some r) (_ : Below w0.heap.size w0 w44) (_ : Sep w0.heap.size w44 []), ∀ a, St 39 [(22, v0_0), (23, (.int .i64 (List.length x0.2.2 : Int))), (24, (.int .i64 y22)), (37, (.bool y47))] a → K43 a w44 := by
       intro y47 w44 hF hB45 hS46
       subst hk48
       refine fun a ha => hK43 _ _ (W.cond rfl (fun h50 => ?_) (fun h50 => ?_)) a ha
       ·replace hF := ifP h50 hF
        refine W.seq fun K51 hK51 => W.region (wl_assign rfl rfl (WL.nil (fun a ha => hK51 _ _ (W.ret ?_) a ha)))
        have hr := Option.some.inj hF
        subst hr
        exact rets (vs := [(.bool false)]) hQ rfl ⟨rv_tmp rfl, trivial⟩ ⟨rfl, hB45⟩
       ·replace hF := ifN h50 hF
        refine W.skip fun a ha => hK29 _ _ (W.region (wl_add rfl rfl rfl (wl_move rfl rfl (WL.nil ?_)))) a ha
        rw [hnx23] at hF
        exact fun a ha => hKL24 a _ m25 (Nat.lt_succ_self m25) ⟨(w64 (y22 + 1)), ha.sub ⟨rfl, rfl, rfl, trivial⟩, hB45, (hS46.sel [] rfl), hF⟩
      refine W.region (wl_field (o := 0) (off' := 0) ff_169_0 rfl rfl rfl (wl_load_blk (i := 0) (vs := [(.int .i64 u31.1)]) (v := (.int .i64 u31.1)) tf_3 rfl rfl hS41 rfl rfl rfl ?_))
      obtain ⟨u52, hu52, hF⟩ := bindE hF
      refine wl_call rfl Try.call128 (C_impl_within w39 u31.1 1 64 _ hu52) rfl ?_
      rintro _ w53 ⟨rfl, hb54⟩
      refine ⟨_, rfl, ?_⟩
      have hB55 := hB40.trans (hb54.mono hB40.size)
      have hS56 := hS41.below hb54
      refine wl_not rfl rfl (wl_move rfl rfl ?_)
      rcases bE (!u52) with h58 | h58
      ·replace hF := ifP h58 hF
       refine wl_off rfl rfl rfl h58 (wl_off rfl rfl rfl h58 (wl_off rfl rfl rfl h58 (wl_off rfl rfl rfl h58 (wl_pick_t rfl rfl h58 rfl (WL.nil ?_)))))
       exact fun a ha => hJ49 (true) _ hF hB55 (hS56.sel [] rfl) a (ha.sub ⟨rfl, rfl, rfl, rfl, trivial⟩)
      ·replace hF := ifN h58 hF
       refine wl_on rfl rfl h58 (wl_field (o := 1) (off' := 1) ff_169_1 rfl rfl rfl (wl_on rfl rfl h58 (wl_load_blk (i := 0) (vs := [(.int .i64 u31.2.1), (.int .i64 u31.2.2)]) (v := (.agg #[(.int .i64 u31.2.1), (.int .i64 u31.2.2)])) tf_68 rfl rfl hS56 rfl rfl rfl (wl_on rfl rfl h58 ?_))))
       obtain ⟨u59, hu59, hF⟩ := bindE hF
       refine wl_call rfl Try.call164 (C_impl_IsSpot w53 u31.2 _ hu59) rfl ?_
       rintro _ w60 ⟨rfl, hb61⟩
       refine ⟨_, rfl, ?_⟩
       have hB62 := hB55.trans (hb61.mono hB55.size)
       have hS63 := hS56.below hb61
       refine wl_on rfl rfl h58 (wl_not rfl rfl (wl_pick_f rfl rfl h58 rfl (WL.nil ?_)))
       exact fun a ha => hJ49 ((!u59)) _ hF hB62 (hS63.sel [] rfl) a (ha.sub ⟨rfl, rfl, rfl, rfl, trivial⟩)
     ·replace hF := ifN h28 hF
      refine W.exit fun a ha => hK17 _ _ (W.seq fun K65 hK65 => (W.region (wl_assign rfl rfl (WL.nil (fun a ha => hK65 _ _ (W.ret ?_) a ha))))) a ha
      have hr := Option.some.inj hF
      subst hr
      exact rets (vs := [(.bool true)]) hQ rfl ⟨rv_tmp rfl, trivial⟩ ⟨rfl, hB20⟩
 refine W.region (wl_field (o := 0) (off' := 0) ff_114_0 rfl rfl rfl (wl_load_blk (i := 0) (vs := [(.int .i64 x0.1)]) (v := (.int .i64 x0.1)) tf_3 rfl rfl hS6 rfl rfl rfl ?_))
 obtain ⟨u66, hu66, hF⟩ := bindE hF
 refine wl_call rfl Try.call128 (C_impl_within w3 x0.1 0 11 _ hu66) rfl ?_
 rintro _ w67 ⟨rfl, hb68⟩
 refine ⟨_, rfl, ?_⟩
 have hB69 := hB5.trans (hb68.mono hB5.size)
 have hS70 := hS6.below hb68
 refine wl_not rfl rfl (wl_move rfl rfl ?_)
 rcases bE (!u66) with h72 | h72
 ·replace hF := ifP h72 hF
  refine wl_off rfl rfl rfl h72 (wl_off rfl rfl rfl h72 (wl_off rfl rfl rfl h72 (wl_off rfl rfl rfl h72 (wl_pick_t rfl rfl h72 rfl (wl_move rfl rfl (wl_off rfl rfl rfl rfl (wl_off rfl rfl rfl rfl (wl_off rfl rfl rfl rfl (wl_off rfl rfl rfl rfl (wl_pick_t rfl rfl rfl rfl (WL.nil ?_)))))))))))
  exact fun a ha => hJ14 (true) _ hF hB69 (hS70.sel [0] rfl) a (ha.sub ⟨rfl, rfl, trivial⟩)
 ·replace hF := ifN h72 hF
  refine wl_on rfl rfl h72 (wl_field (o := 1) (off' := 1) ff_114_1 rfl rfl rfl (wl_on rfl rfl h72 (wl_load_blk (i := 0) (vs := [(.int .i64 x0.2.1.1), (.int .i64 x0.2.1.2)]) (v := (.agg #[(.int .i64 x0.2.1.1), (.int .i64 x0.2.1.2)])) tf_68 rfl rfl hS70 rfl rfl rfl (wl_on rfl rfl h72 ?_))))
  obtain ⟨u73, hu73, hF⟩ := bindE hF
  refine wl_call rfl Try.call164 (C_impl_IsSpot w67 x0.2.1 _ hu73) rfl ?_
  rintro _ w74 ⟨rfl, hb75⟩
  refine ⟨_, rfl, ?_⟩
  have hB76 := hB69.trans (hb75.mono hB69.size)
  have hS77 := hS70.below hb75
  refine wl_on rfl rfl h72 (wl_not rfl rfl (wl_pick_f rfl rfl h72 rfl (wl_move rfl rfl ?_)))
  rcases bE (!u73) with h79 | h79
  ·replace hF := ifP h79 hF
   refine wl_off rfl rfl rfl h79 (wl_off rfl rfl rfl h79 (wl_off rfl rfl rfl h79 (wl_off rfl rfl rfl h79 (wl_pick_t rfl rfl h79 rfl (WL.nil ?_)))))
   exact fun a ha => hJ14 (true) _ hF hB76 (hS77.sel [0] rfl) a (ha.sub ⟨rfl, rfl, trivial⟩)
  ·replace hF := ifN h79 hF
   refine wl_on rfl rfl h79 (wl_field (o := 3) (off' := 3) ff_114_2 rfl rfl rfl (wl_on rfl rfl h79 (wl_load_blk (i := 0) (vs := [v0_0]) (v := v0_0) tf_112 rfl rfl hS77 rfl rfl rfl (wl_on rfl rfl h79 (wl_lenr (e := ty_169) (l := x0.2.2) Try.underlying112 rfl rfl h0_0 (wl_on rfl rfl h79 (wl_gtr rfl rfl rfl (wl_pick_f rfl rfl h79 rfl (WL.nil ?_)))))))))
   exact fun a ha => hJ14 ((decide (8 < (List.length x0.2.2 : Int)))) _ hF hB76 (hS77.sel [0] rfl) a (ha.sub ⟨rfl, rfl, trivial⟩)
theorem C_spec_NewMarch (w0 : World) (x0 : ((List (List (Int × Int))) × (List Int) × Int × Int)) (v0_0 : Value) (h0_0 : rdS ty_63 (· < w0.heap.size) w0 v0_0 x0.1) (v0_1 : Value) (h0_1 : rdS ty_3 (· < w0.heap.size) w0 v0_1 x0.2.1) (r : ((((List (List (Int × Int))) × (List Int) × Int × Int) × Int × (List Int) × (List Int)) × Bool)) (hF : F_spec_NewMarch x0 = some r) :
  Calls Try.prog 265 [(.agg #[v0_0, v0_1, (.int .i64 x0.2.2.1), (.int .i64 x0.2.2.2)])].toArray w0 fun e w' => ∃ (q0 : Value) (G0 : List Nat) (q1 : Value) (G1 : List Nat) (q2 : Value) (G2 : List Nat) (q3 : Value) (G3 : List Nat), e = .returned (.tuple #[(.agg #[q0, q1, (.int .i64 r.1.1.2.2.1), (.int .i64 r.1.1.2.2.2), (.int .i64 r.1.2.1), q2, q3]), (.bool r.2)]) ∧ Below w0.heap.size w0 w' ∧ Sep w0.heap.size w' [R.own ty_63 G0 q0 r.1.1.1, R.own ty_3 G1 q1 r.1.1.2.1, R.own ty_3 G2 q2 r.1.2.2.1, R.own ty_3 G3 q3 r.1.2.2.2] := by
 refine calls_mk' Try.func265 rfl Try.ntmps265 rfl rfl fun Q hQ hP => ?_
 have hB : Below w0.heap.size w0 w0 := Below.refl _ _
 have hS : Sep w0.heap.size w0 [] := Sep.nil _ _
 unfold F_spec_NewMarch at hF
 refine W.seq fun K1 hK1 => W.region (wl_box (cs := [v0_0, v0_1, (.int .i64 x0.2.2.1), (.int .i64 x0.2.2.2)]) rfl rfl rfl hB hS ?_)
 intro b2 w3 hb4 hB5 hS6
 refine wl_alloc (cs := [(.slice none 0 0), (.slice none 0 0), (.int .i64 0), (.int .i64 0), (.int .i64 0), (.slice none 0 0), (.slice none 0 0)]) tf_102 rfl rfl hB5 hS6 ?_
 intro b7 w8 hb9 hB10 hS11
 refine wl_assign rfl rfl (WL.nil (fun a ha => hK1 _ _ (W.seq fun K12 hK12 => (W.seq fun K13 hK13 => (W.region (wl_load_blk (i := 1) (vs := [v0_0, v0_1, (.int .i64 x0.2.2.1), (.int .i64 x0.2.2.2)]) (v := (.agg #[v0_0, v0_1, (.int .i64 x0.2.2.1), (.int .i64 x0.2.2.2)])) tf_53 rfl rfl hS11 rfl rfl rfl ?_)))) a ha))
 obtain ⟨u14, hu14, hF⟩ := bindE hF
 refine wl_call rfl Try.call145 (C_spec_swGood w8 x0 v0_0 (h0_0.ro hB10) v0_1 (h0_1.ro hB10) _ hu14) rfl ?_
 rintro _ w15 ⟨rfl, hb16⟩
 refine ⟨_, rfl, ?_⟩
 have hB17 := hB10.trans (hb16.mono hB10.size)
 have hS18 := hS11.below hb16
 refine wl_not rfl rfl (WL.nil (fun a ha => hK13 _ _ (W.cond rfl (fun h20 => ?_) (fun h20 => ?_)) a ha))
 ·replace hF := ifP h20 hF
  refine W.seq fun K21 hK21 => W.region (wl_build (zs := [(.slice none 0 0), (.slice none 0 0), (.int .i64 0), (.int .i64 0), (.int .i64 0), (.slice none 0 0), (.slice none 0 0)]) (out := [(.slice none 0 0), (.slice none 0 0), (.int .i64 0), (.int .i64 0), (.int .i64 0), (.slice none 0 0), (.slice none 0 0)]) (vs := []) (css := []) tf_102 pl_102 rfl rfl rfl rfl rfl (wl_store_blk (i := 0) (vs := [(.slice none 0 0), (.slice none 0 0), (.int .i64 0), (.int .i64 0), (.int .i64 0), (.slice none 0 0), (.slice none 0 0)]) (cs' := [(.slice none 0 0), (.slice none 0 0), (.int .i64 0), (.int .i64 0), (.int .i64 0), (.slice none 0 0), (.slice none 0 0)]) tf_102 rfl rfl rfl rfl hB17 hS18 rfl rfl ⟨rfl, rfl, rfl, rfl, rfl, rfl, rfl, trivial⟩ rfl ?_))
  intro w22 hk25 hB23 hS24
  refine wl_assign rfl rfl (WL.nil (fun a ha => hK21 _ _ (W.ret ?_) a ha))
  have hS26 := hS24.push0 (r := R.own ty_63 [] (.slice none 0 0) []) rfl fun _ => .inl ⟨rfl, rfl, rfl⟩
  have hS27 := hS26.push0 (r := R.own ty_3 [] (.slice none 0 0) []) rfl fun _ => .inl ⟨rfl, rfl, rfl⟩
  have hS28 := hS27.push0 (r := R.own ty_3 [] (.slice none 0 0) []) rfl fun _ => .inl ⟨rfl, rfl, rfl⟩
  have hS29 := hS28.push0 (r := R.own ty_3 [] (.slice none 0 0) []) rfl fun _ => .inl ⟨rfl, rfl, rfl⟩
  have hr := Option.some.inj hF
  subst hr
  exact rets (vs := [(.agg #[(.slice none 0 0), (.slice none 0 0), (.int .i64 0), (.int .i64 0), (.int .i64 0), (.slice none 0 0), (.slice none 0 0)]), (.bool false)]) hQ rfl ⟨rv_cell (i := 0) tf_102 rfl hS24 rfl rfl rfl, rv_tmp rfl, trivial⟩ ⟨(.slice none 0 0), [], (.slice none 0 0), [], (.slice none 0 0), [], (.slice none 0 0), [], rfl, hB23, hS29.sel [3, 2, 1, 0] rfl⟩
 ·replace hF := ifN h20 hF
  refine W.skip fun a ha => hK12 _ _ (W.seq fun K30 hK30 => ?_) a ha
  obtain ⟨k46, hk46, hF⟩ := jE6 hF
  have hJ47 : ∀ (l34 : (List (List (Int × Int)))) (l37 : (List Int)) (y40 : Int) (y41 : Int) (l42 : (List Int)) (y45 : Bool) (v35 : Value) (F36 : List Nat) (v38 : Value) (F39 : List Nat) (v43 : Value) (F44 : List Nat) (w31 : World) (_ : k46 l34 l37 y40 y41 l42 y45 = some r) (_ : Below w0.heap.size w0 w31) (_ : Sep w0.heap.size w31 [R.own ty_63 F36 v35 l34, R.own ty_3 F39 v38 l37, R.own ty_3 F44 v43 l42, R.blk b7 102 [v35, v38, (.int .i64 y40), (.int .i64 y41), (.int .i64 0), (.slice none 0 0), v43]]), ∀ a, St 17 [(2, (.pointer (some ⟨b7, 0, none⟩))), (3, (.bool y45))] a → K30 a w31 := by
   intro l34 l37 y40 y41 l42 y45 v35 F36 v38 F39 v43 F44 w31 hF hB32 hS33
   subst hk46
   refine fun a ha => hK30 _ _ (W.ret ?_) a ha
   have hS48 := hS33.push0 (r := R.own ty_3 [] (.slice none 0 0) []) rfl fun _ => .inl ⟨rfl, rfl, rfl⟩
   have hr := Option.some.inj hF
   subst hr
   exact rets (vs := [(.agg #[v35, v38, (.int .i64 y40), (.int .i64 y41), (.int .i64 0), (.slice none 0 0), v43]), (.bool y45)]) hQ rfl ⟨rv_cell (i := 3) tf_102 rfl hS33 rfl rfl rfl, rv_tmp rfl, trivial⟩ ⟨v35, F36, v38, F39, (.slice none 0 0), [], v43, F44, rfl, hB32, hS48.sel [1, 2, 0, 3] rfl⟩
  refine W.regionH mixed_ [b7] hB17 hS18 ?_
  intro w49 hb50 hB51 hS52
  have hSW53 := KeepX.refl w49 [b7]
  refine WH.takex (i := 0) rfl (by kernel_rfl) (by kernel_rfl) (by kernel_rfl) hP hSW53 (pr_load_blk (i := 1) (vs := [v0_0, v0_1, (.int .i64 x0.2.2.1), (.int .i64 x0.2.2.2)]) (v := (.agg #[v0_0, v0_1, (.int .i64 x0.2.2.1), (.int .i64 x0.2.2.2)])) tf_53 rfl rfl hS52 rfl rfl rfl (hS52.disj (i := 1) (j := 0) rfl rfl rfl b2 (by simp [R.blk])) (WH.takex (i := 2) rfl (by kernel_rfl) (by kernel_rfl) (by kernel_rfl) hP hSW53 (pr_field (o := 0) (off' := 0) ff_53_0 rfl rfl rfl (WH.takex (i := 3) rfl (by kernel_rfl) (by kernel_rfl) (by kernel_rfl) hP hSW53 (pr_load_blk (i := 1) (vs := [v0_0]) (v := v0_0) tf_51 rfl rfl hS52 rfl rfl rfl (hS52.disj (i := 1) (j := 0) rfl rfl rfl b2 (by simp [R.blk])) ?_)))))
  obtain ⟨u54, hu54, hF⟩ := bindE hF
  refine WH.takex (i := 4) rfl (by kernel_rfl) (by kernel_rfl) (by kernel_rfl) hP hSW53 (pr_index (e := ty_63) Try.underlying51 rfl rfl rfl h0_0 hu54 ?_)
  rintro p55 _ ⟨v57, rfl, hv58⟩ hp56
  refine WH.takex (i := 5) rfl (by kernel_rfl) (by kernel_rfl) (by kernel_rfl) hP hSW53 (pr_load_p (vs := [v57]) (v := v57) tf_63 rfl rfl (hp56.kx hB51 (fun b hb => (((hS52.get (i := 0) rfl).2.1 b hb).1))) rfl rfl (WH.takex (i := 6) rfl (by kernel_rfl) (by kernel_rfl) (by kernel_rfl) hP hSW53 (pr_lenr (e := ty_68) (l := u54) Try.underlying63 rfl rfl hv58 (WH.many (is := [1, 7]) (by kernel_rfl) rfl (List.forall_mem_cons.2 ⟨⟨_, rfl, ?_⟩, List.forall_mem_cons.2 ⟨⟨_, rfl, ?_⟩, fun _ h => by cases h⟩⟩)))))
  ·
   obtain ⟨u59, hu59, hF⟩ := bindE hF
   refine wl_call rfl Try.call170 (C_spec_swOwn w49 x0 v0_0 (h0_0.ro hB51) v0_1 (h0_1.ro hB51) _ hu59) rfl ?_
   rintro _ w65 ⟨v60, F61, v62, F63, rfl, hb66, hM69⟩
   refine ⟨_, rfl, ?_⟩
   have hB67 := hB51.trans (hb66.mono hB51.size)
   have hn70 : ∀ b ∈ F61, w49.heap.size ≤ b := fun b hb => Nat.le_trans hSW53.size ((hM69.get (i := 0) rfl).2.1 b hb).1
   have hn71 : ∀ b ∈ F63, w49.heap.size ≤ b := fun b hb => Nat.le_trans hSW53.size ((hM69.get (i := 1) rfl).2.1 b hb).1
   have hS68 := hS52.join hb66 hM69 hB51.size
   have hSW72 := hSW53.ext hb66
   have hbS73 : Below w49.heap.size w49 w65 := hb66
   refine WL.nil (WH.ret hSW72 (WH.one (i := 7) (by kernel_rfl) rfl ?_))
   obtain ⟨u74, hu74, hF⟩ := bindE hF
   refine wl_make (e := ty_3) Try.underlying29 rfl rfl hu74 (Below.self w65) (Sep.nil _ _) ?_
   intro v75 F76 w77 hb78 hB81 hM82
   have hB79 := hB67.trans (hb78.mono hB67.size)
   have hS80 := hS68.join hb78 hM82 hB67.size
   have hn83 : ∀ b ∈ F76, w49.heap.size ≤ b := fun b hb => Nat.le_trans hSW72.size ((hM82.1 _ (List.mem_cons_self ..)).2.1 b hb).1
   have hSW84 := hSW72.ext hb78
   have hbS85 : Below w49.heap.size w49 w77 := hbS73.trans (hb78.mono hbS73.size)
   refine WL.nil (WH.ret hSW84 (WH.takex (i := 8) rfl (by kernel_rfl) (by kernel_rfl) (by kernel_rfl) hP hSW84 (pr_build (zs := [(.slice none 0 0), (.slice none 0 0), (.int .i64 0), (.int .i64 0), (.int .i64 0), (.slice none 0 0), (.slice none 0 0)]) (out := [v60, v62, (.int .i64 u59.2.2.1), (.int .i64 u59.2.2.2), (.int .i64 0), (.slice none 0 0), v75]) (vs := [(.agg #[v60, v62, (.int .i64 u59.2.2.1), (.int .i64 u59.2.2.2)]), v75]) (css := [[v60, v62, (.int .i64 u59.2.2.1), (.int .i64 u59.2.2.2)], [v75]]) tf_102 pl_102 rfl rfl (by simp only [List.map_cons, List.map_nil, cells_one ((hS80.own_ro (i := 0) rfl).one)] <;> rfl) rfl rfl (WH.one (i := 9) (by kernel_rfl) rfl ?_))))
   refine wl_store_blk (i := 3) (vs := [v60, v62, (.int .i64 u59.2.2.1), (.int .i64 u59.2.2.2), (.int .i64 0), (.slice none 0 0), v75]) (cs' := [v60, v62, (.int .i64 u59.2.2.1), (.int .i64 u59.2.2.2), (.int .i64 0), (.slice none 0 0), v75]) tf_102 rfl rfl rfl rfl hB79 hS80 rfl rfl ⟨(hS80.own_ro (i := 1) rfl).one, (hS80.own_ro (i := 2) rfl).one, rfl, rfl, rfl, rfl, (hS80.own_ro (i := 0) rfl).one, trivial⟩ rfl ?_
   intro w86 hk89 hB87 hS88
   have hSW90 := hSW84.wr' hk89.1 hk89.2.1 (fun _ _ h => h)
   have hbs91 : ∀ b, b < w49.heap.size → b ∈ [b7] → b ∈ [b7] := fun b hlt hb => (hk89.2.2 b hb).elim ((fun _ _ h => h) b hlt) (fun h => absurd hlt (Nat.not_lt.2 (Nat.le_trans hSW84.size h)))
   refine WL.nil (WH.ret hSW90 (WH.takex (i := 10) rfl (by kernel_rfl) (by kernel_rfl) (by kernel_rfl) hP hSW90 (pr_assign rfl rfl (WH.done (by kernel_rfl) ?_))))
   exact fun a ha => hJ47 (u59.1) (u59.2.1) (u59.2.2.1) (u59.2.2.2) (u74) (true) (v60) (F61) (v62) (F63) (v75) (F76) _ hF hB87 (hS88.sel [1, 2, 0, 3] rfl) a (ha.sub ⟨rfl, rfl, trivial⟩)
  ·
   obtain ⟨u92, hu92, hF⟩ := bindE hF
   obtain ⟨u93, hu93, hF⟩ := bindE hF
   refine wl_make (e := ty_3) Try.underlying29 rfl rfl hu93 (Below.self w49) (Sep.nil _ _) ?_
   intro v94 F95 w96 hb97 hB100 hM101
   have hB98 := hB51.trans (hb97.mono hB51.size)
   have hS99 := hS52.join hb97 hM101 hB51.size
   have hn102 : ∀ b ∈ F95, w49.heap.size ≤ b := fun b hb => Nat.le_trans hSW53.size ((hM101.1 _ (List.mem_cons_self ..)).2.1 b hb).1
   have hSW103 := hSW53.ext hb97
   have hbS104 : Below w49.heap.size w49 w96 := hb97
   refine WL.nil (WH.ret hSW103 (WH.one (i := 1) (by kernel_rfl) rfl (wl_call rfl Try.call170 (C_spec_swOwn w96 x0 v0_0 (h0_0.ro hB98) v0_1 (h0_1.ro hB98) _ hu92) rfl ?_)))
   rintro _ w109 ⟨v105, F106, v107, F108, rfl, hb110, hM113⟩
   refine ⟨_, rfl, ?_⟩
   have hB111 := hB98.trans (hb110.mono hB98.size)
   have hn114 : ∀ b ∈ F106, w49.heap.size ≤ b := fun b hb => Nat.le_trans hSW103.size ((hM113.get (i := 0) rfl).2.1 b hb).1
   have hn115 : ∀ b ∈ F108, w49.heap.size ≤ b := fun b hb => Nat.le_trans hSW103.size ((hM113.get (i := 1) rfl).2.1 b hb).1
   have hS112 := hS99.join hb110 hM113 hB98.size
   have hSW116 := hSW103.ext hb110
   have hbS117 : Below w49.heap.size w49 w109 := hbS104.trans (hb110.mono hbS104.size)
   refine WL.nil (WH.ret hSW116 (WH.takex (i := 8) rfl (by kernel_rfl) (by kernel_rfl) (by kernel_rfl) hP hSW116 (pr_build (zs := [(.slice none 0 0), (.slice none 0 0), (.int .i64 0), (.int .i64 0), (.int .i64 0), (.slice none 0 0), (.slice none 0 0)]) (out := [v105, v107, (.int .i64 u92.2.2.1), (.int .i64 u92.2.2.2), (.int .i64 0), (.slice none 0 0), v94]) (vs := [(.agg #[v105, v107, (.int .i64 u92.2.2.1), (.int .i64 u92.2.2.2)]), v94]) (css := [[v105, v107, (.int .i64 u92.2.2.1), (.int .i64 u92.2.2.2)], [v94]]) tf_102 pl_102 rfl rfl (by simp only [List.map_cons, List.map_nil, cells_one ((hS112.own_ro (i := 2) rfl).one)] <;> rfl) rfl rfl (WH.one (i := 9) (by kernel_rfl) rfl ?_))))
   refine wl_store_blk (i := 3) (vs := [v105, v107, (.int .i64 u92.2.2.1), (.int .i64 u92.2.2.2), (.int .i64 0), (.slice none 0 0), v94]) (cs' := [v105, v107, (.int .i64 u92.2.2.1), (.int .i64 u92.2.2.2), (.int .i64 0), (.slice none 0 0), v94]) tf_102 rfl rfl rfl rfl hB111 hS112 rfl rfl ⟨(hS112.own_ro (i := 0) rfl).one, (hS112.own_ro (i := 1) rfl).one, rfl, rfl, rfl, rfl, (hS112.own_ro (i := 2) rfl).one, trivial⟩ rfl ?_
   intro w118 hk121 hB119 hS120
   have hSW122 := hSW116.wr' hk121.1 hk121.2.1 (fun _ _ h => h)
   have hbs123 : ∀ b, b < w49.heap.size → b ∈ [b7] → b ∈ [b7] := fun b hlt hb => (hk121.2.2 b hb).elim ((fun _ _ h => h) b hlt) (fun h => absurd hlt (Nat.not_lt.2 (Nat.le_trans hSW116.size h)))
   refine WL.nil (WH.ret hSW122 (WH.takex (i := 10) rfl (by kernel_rfl) (by kernel_rfl) (by kernel_rfl) hP hSW122 (pr_assign rfl rfl (WH.done (by kernel_rfl) ?_))))
   exact fun a ha => hJ47 (u92.1) (u92.2.1) (u92.2.2.1) (u92.2.2.2) (u93) (true) (v105) (F106) (v107) (F108) (v94) (F95) _ hF hB119 (hS120.sel [0, 1, 2, 3] rfl) a (ha.sub ⟨rfl, rfl, trivial⟩)
theorem C_spec_mnOwn (w0 : World) (x0 : (((List (List (Int × Int))) × (List Int) × Int × Int) × Int × (List Int) × (List Int))) (v0_0 : Value) (h0_0 : rdS ty_63 (· < w0.heap.size) w0 v0_0 x0.1.1) (v0_1 : Value) (h0_1 : rdS ty_3 (· < w0.heap.size) w0 v0_1 x0.1.2.1) (v0_2 : Value) (h0_2 : rdS ty_3 (· < w0.heap.size) w0 v0_2 x0.2.2.1) (v0_3 : Value) (h0_3 : rdS ty_3 (· < w0.heap.size) w0 v0_3 x0.2.2.2) (r : (((List (List (Int × Int))) × (List Int) × Int × Int) × Int × (List Int) × (List Int))) (hF : F_spec_mnOwn x0 = some r) :
  Calls Try.prog 268 [(.agg #[v0_0, v0_1, (.int .i64 x0.1.2.2.1), (.int .i64 x0.1.2.2.2), (.int .i64 x0.2.1), v0_2, v0_3])].toArray w0 fun e w' => ∃ (q0 : Value) (G0 : List Nat) (q1 : Value) (G1 : List Nat) (q2 : Value) (G2 : List Nat) (q3 : Value) (G3 : List Nat), e = .returned (.agg #[q0, q1, (.int .i64 r.1.2.2.1), (.int .i64 r.1.2.2.2), (.int .i64 r.2.1), q2, q3]) ∧ Below w0.heap.size w0 w' ∧ Sep w0.heap.size w' [R.own ty_63 G0 q0 r.1.1, R.own ty_3 G1 q1 r.1.2.1, R.own ty_3 G2 q2 r.2.2.1, R.own ty_3 G3 q3 r.2.2.2] := by
 refine calls_mk' Try.func268 rfl Try.ntmps268 rfl rfl fun Q hQ hP => ?_
 have hB : Below w0.heap.size w0 w0 := Below.refl _ _
 have hS : Sep w0.heap.size w0 [] := Sep.nil _ _
 unfold F_spec_mnOwn at hF
 refine W.seq fun K1 hK1 => W.region (wl_box (cs := [v0_0, v0_1, (.int .i64 x0.1.2.2.1), (.int .i64 x0.1.2.2.2), (.int .i64 x0.2.1), v0_2, v0_3]) rfl rfl rfl hB hS ?_)
 intro b2 w3 hb4 hB5 hS6
 refine wl_alloc (cs := [(.slice none 0 0), (.slice none 0 0), (.int .i64 0), (.int .i64 0), (.int .i64 0), (.slice none 0 0), (.slice none 0 0)]) tf_102 rfl rfl hB5 hS6 ?_
 intro b7 w8 hb9 hB10 hS11
 refine WL.nil fun a ha => hK1 _ _ (W.seq fun K12 hK12 => (W.regionH mixed_ [b7] hB10 hS11 ?_)) a ha
 intro w13 hb14 hB15 hS16
 have hSW17 := KeepX.refl w13 [b7]
 refine WH.takex (i := 0) rfl (by kernel_rfl) (by kernel_rfl) (by kernel_rfl) hP hSW17 (pr_field (o := 0) (off' := 0) ff_102_0 rfl rfl rfl (WH.takex (i := 1) rfl (by kernel_rfl) (by kernel_rfl) (by kernel_rfl) hP hSW17 (pr_load_blk (i := 1) (vs := [v0_0, v0_1, (.int .i64 x0.1.2.2.1), (.int .i64 x0.1.2.2.2)]) (v := (.agg #[v0_0, v0_1, (.int .i64 x0.1.2.2.1), (.int .i64 x0.1.2.2.2)])) tf_53 rfl rfl hS16 rfl rfl rfl (hS16.disj (i := 1) (j := 0) rfl rfl rfl b2 (by simp [R.blk])) (WH.takex (i := 3) rfl (by kernel_rfl) (by kernel_rfl) (by kernel_rfl) hP hSW17 (pr_field (o := 4) (off' := 4) ff_102_1 rfl rfl rfl (WH.takex (i := 4) rfl (by kernel_rfl) (by kernel_rfl) (by kernel_rfl) hP hSW17 (pr_load_blk (i := 1) (vs := [(.int .i64 x0.2.1)]) (v := (.int .i64 x0.2.1)) tf_3 rfl rfl hS16 rfl rfl rfl (hS16.disj (i := 1) (j := 0) rfl rfl rfl b2 (by simp [R.blk])) ?_)))))))
 refine WH.takex (i := 5) rfl (by kernel_rfl) (by kernel_rfl) (by kernel_rfl) hP hSW17 (pr_field (o := 5) (off' := 5) ff_102_2 rfl rfl rfl (WH.takex (i := 6) rfl (by kernel_rfl) (by kernel_rfl) (by kernel_rfl) hP hSW17 (pr_load_blk (i := 1) (vs := [v0_2]) (v := v0_2) tf_29 rfl rfl hS16 rfl rfl rfl (hS16.disj (i := 1) (j := 0) rfl rfl rfl b2 (by simp [R.blk])) (WH.takex (i := 8) rfl (by kernel_rfl) (by kernel_rfl) (by kernel_rfl) hP hSW17 (pr_field (o := 6) (off' := 6) ff_102_3 rfl rfl rfl (WH.takex (i := 9) rfl (by kernel_rfl) (by kernel_rfl) (by kernel_rfl) hP hSW17 (pr_load_blk (i := 1) (vs := [v0_3]) (v := v0_3) tf_29 rfl rfl hS16 rfl rfl rfl (hS16.disj (i := 1) (j := 0) rfl rfl rfl b2 (by simp [R.blk])) (WH.one (i := 2) (by kernel_rfl) rfl ?_))))))))
 obtain ⟨u18, hu18, hF⟩ := bindE hF
 refine wl_call rfl Try.call170 (C_spec_swOwn w13 x0.1 v0_0 (h0_0.ro hB15) v0_1 (h0_1.ro hB15) _ hu18) rfl ?_
 rintro _ w23 ⟨v19, F20, v21, F22, rfl, hb24, hM27⟩
 refine ⟨_, rfl, ?_⟩
 have hB25 := hB15.trans (hb24.mono hB15.size)
 have hn28 : ∀ b ∈ F20, w13.heap.size ≤ b := fun b hb => Nat.le_trans hSW17.size ((hM27.get (i := 0) rfl).2.1 b hb).1
 have hn29 : ∀ b ∈ F22, w13.heap.size ≤ b := fun b hb => Nat.le_trans hSW17.size ((hM27.get (i := 1) rfl).2.1 b hb).1
 have hS26 := hS16.join hb24 hM27 hB15.size
 have hSW30 := hSW17.ext hb24
 have hbS31 : Below w13.heap.size w13 w23 := hb24
 refine WL.nil (WH.ret hSW30 (WH.one (i := 7) (by kernel_rfl) rfl ?_))
 obtain ⟨u32, hu32, hF⟩ := bindE hF
 refine wl_call rfl Try.call216 (C_spec_l1Own w23 x0.2.2.1 v0_2 (h0_2.ro hB25) _ hu32) rfl ?_
 rintro _ w35 ⟨v33, F34, rfl, hb36, hM39⟩
 refine ⟨_, rfl, ?_⟩
 have hB37 := hB25.trans (hb36.mono hB25.size)
 have hn40 : ∀ b ∈ F34, w13.heap.size ≤ b := fun b hb => Nat.le_trans hSW30.size ((hM39.get (i := 0) rfl).2.1 b hb).1
 have hS38 := hS26.join hb36 hM39 hB25.size
 have hSW41 := hSW30.ext hb36
 have hbS42 : Below w13.heap.size w13 w35 := hbS31.trans (hb36.mono hbS31.size)
 refine WL.nil (WH.ret hSW41 (WH.one (i := 10) (by kernel_rfl) rfl ?_))
 obtain ⟨u43, hu43, hF⟩ := bindE hF
 refine wl_call rfl Try.call216 (C_spec_l1Own w35 x0.2.2.2 v0_3 (h0_3.ro hB37) _ hu43) rfl ?_
 rintro _ w46 ⟨v44, F45, rfl, hb47, hM50⟩
 refine ⟨_, rfl, ?_⟩
 have hB48 := hB37.trans (hb47.mono hB37.size)
 have hn51 : ∀ b ∈ F45, w13.heap.size ≤ b := fun b hb => Nat.le_trans hSW41.size ((hM50.get (i := 0) rfl).2.1 b hb).1
 have hS49 := hS38.join hb47 hM50 hB37.size
 have hSW52 := hSW41.ext hb47
 have hbS53 : Below w13.heap.size w13 w46 := hbS42.trans (hb47.mono hbS42.size)
 refine WL.nil (WH.ret hSW52 (WH.takex (i := 11) rfl (by kernel_rfl) (by kernel_rfl) (by kernel_rfl) hP hSW52 (pr_build (zs := [(.slice none 0 0), (.slice none 0 0), (.int .i64 0), (.int .i64 0), (.int .i64 0), (.slice none 0 0), (.slice none 0 0)]) (out := [v19, v21, (.int .i64 u18.2.2.1), (.int .i64 u18.2.2.2), (.int .i64 x0.2.1), v33, v44]) (vs := [(.agg #[v19, v21, (.int .i64 u18.2.2.1), (.int .i64 u18.2.2.2)]), (.int .i64 x0.2.1), v33, v44]) (css := [[v19, v21, (.int .i64 u18.2.2.1), (.int .i64 u18.2.2.2)], [(.int .i64 x0.2.1)], [v33], [v44]]) tf_102 pl_102 rfl rfl (by simp only [List.map_cons, List.map_nil, cells_one ((hS49.own_ro (i := 1) rfl).one), cells_one ((hS49.own_ro (i := 0) rfl).one)] <;> rfl) rfl rfl (WH.one (i := 12) (by kernel_rfl) rfl ?_))))
 refine wl_store_blk (i := 4) (vs := [v19, v21, (.int .i64 u18.2.2.1), (.int .i64 u18.2.2.2), (.int .i64 x0.2.1), v33, v44]) (cs' := [v19, v21, (.int .i64 u18.2.2.1), (.int .i64 u18.2.2.2), (.int .i64 x0.2.1), v33, v44]) tf_102 rfl rfl rfl rfl hB48 hS49 rfl rfl ⟨(hS49.own_ro (i := 2) rfl).one, (hS49.own_ro (i := 3) rfl).one, rfl, rfl, rfl, (hS49.own_ro (i := 1) rfl).one, (hS49.own_ro (i := 0) rfl).one, trivial⟩ rfl ?_
 intro w54 hk57 hB55 hS56
 have hSW58 := hSW52.wr' hk57.1 hk57.2.1 (fun _ _ h => h)
 have hbs59 : ∀ b, b < w13.heap.size → b ∈ [b7] → b ∈ [b7] := fun b hlt hb => (hk57.2.2 b hb).elim ((fun _ _ h => h) b hlt) (fun h => absurd hlt (Nat.not_lt.2 (Nat.le_trans hSW52.size h)))
 refine WL.nil (WH.ret hSW58 (WH.done (by kernel_rfl) (fun a ha => hK12 _ _ (W.ret ?_) a ha)))
 have hr := Option.some.inj hF
 subst hr
 exact rets (vs := [(.agg #[v19, v21, (.int .i64 u18.2.2.1), (.int .i64 u18.2.2.2), (.int .i64 x0.2.1), v33, v44])]) hQ rfl ⟨rv_cell (i := 4) tf_102 rfl hS56 rfl rfl rfl, trivial⟩ ⟨v19, F20, v21, F22, v33, F34, v44, F45, rfl, hB55, hS56.sel [2, 3, 1, 0] rfl⟩
theorem C_spec_l1Has (w0 : World) (x0 : (List Int)) (v0_0 : Value) (h0_0 : rdS ty_3 (· < w0.heap.size) w0 v0_0 x0) (x1 : Int) (r : Bool) (hF : F_spec_l1Has x0 x1 = some r) :
  Calls Try.prog 278 [v0_0, (.int .i64 x1)].toArray w0 fun e w' => e = .returned (.bool r) ∧ Below w0.heap.size w0 w' := by
 refine calls_mk' Try.func278 rfl Try.ntmps278 rfl rfl fun Q hQ hP => ?_
 have hB : Below w0.heap.size w0 w0 := Below.refl _ _
 have hS : Sep w0.heap.size w0 [] := Sep.nil _ _
 unfold F_spec_l1Has at hF
 refine W.seq fun K1 hK1 => W.region (wl_assign rfl rfl (WL.nil (fun a ha => hK1 _ _ (W.seq fun K2 hK2 => (W.seq fun K3 hK3 => (W.region (wl_move rfl rfl (wl_lenr (e := ty_3) (l := x0) Try.underlying29 rfl rfl h0_0 (wl_move rfl rfl (WL.nil (fun a ha => hK3 _ _ (W.block ?_) a ha)))))))) a ha)))
 refine W.loopk (fun m a w4 => ∃ (y7 : Int), St 17 [(1, (.int .i64 x1)), (7, v0_0), (8, (.int .i64 (List.length x0 : Int))), (9, (.int .i64 y7))] a ∧ Below w0.heap.size w0 w4 ∧ Sep w0.heap.size w4 [] ∧ F_spec_l1Has_L1 x0 x1 m y7 = some r) FU ?_ ?_
 ·
  exact fun a ha => ⟨0, ha.sub ⟨rfl, rfl, rfl, rfl, trivial⟩, hB, (hS.sel [] rfl), hF⟩
 ·
  rintro m10 a w4 ⟨y7, ha, hB5, hS6, hF⟩ KL9 hKL9
  refine W.at ?_ ha
  cases m10 with
  | zero => exact noneE hF
  | succ m10 =>
   obtain ⟨nx8, hnx8⟩ : ∃ k, k = F_spec_l1Has_L1 x0 x1 m10 := ⟨_, rfl⟩
   rw [F_spec_l1Has_L1, ← hnx8] at hF
   refine W.seq fun K11 hK11 => W.region (wl_lss rfl rfl rfl (WL.nil (fun a ha => hK11 _ _ (W.seq fun K12 hK12 => (W.cond rfl (fun h13 => ?_) (fun h13 => ?_))) a ha)))
   ·replace hF := ifP h13 hF
    refine W.skip fun a ha => hK12 _ _ (W.seq fun K14 hK14 => (W.block (W.seq fun K15 hK15 => (W.region ?_)))) a ha
    obtain ⟨u16, hu16, hF⟩ := bindE hF
    refine wl_index (e := ty_3) Try.underlying29 rfl rfl rfl h0_0 hu16 ?_
    rintro p17 _ rfl hp18
    refine wl_load_p (vs := [(.int .i64 u16)]) (v := (.int .i64 u16)) tf_3 rfl rfl (hp18.ro hB5) rfl rfl (wl_assign rfl rfl (WL.nil (fun a ha => hK15 _ _ (W.seq fun K19 hK19 => (W.region (wl_move rfl rfl (wl_move rfl rfl (wl_eql rfl rfl rfl (WL.nil (fun a ha => hK19 _ _ (W.cond rfl (fun h20 => ?_) (fun h20 => ?_)) a ha))))))) a ha)))
    ·replace hF := ifP h20 hF
     refine W.seq fun K21 hK21 => W.region (wl_assign rfl rfl (WL.nil (fun a ha => hK21 _ _ (W.ret ?_) a ha)))
     have hr := Option.some.inj hF
     subst hr
     exact rets (vs := [(.bool true)]) hQ rfl ⟨rv_tmp rfl, trivial⟩ ⟨rfl, hB5⟩
    ·replace hF := ifN h20 hF
     refine W.skip fun a ha => hK14 _ _ (W.region (wl_add rfl rfl rfl (wl_move rfl rfl (WL.nil ?_)))) a ha
     rw [hnx8] at hF
     exact fun a ha => hKL9 a _ m10 (Nat.lt_succ_self m10) ⟨(w64 (y7 + 1)), ha.sub ⟨rfl, rfl, rfl, rfl, trivial⟩, hB5, (hS6.sel [] rfl), hF⟩
   ·replace hF := ifN h13 hF
    refine W.exit fun a ha => hK2 _ _ (W.seq fun K22 hK22 => (W.region (wl_assign rfl rfl (WL.nil (fun a ha => hK22 _ _ (W.ret ?_) a ha))))) a ha
    have hr := Option.some.inj hF
    subst hr
    exact rets (vs := [(.bool false)]) hQ rfl ⟨rv_tmp rfl, trivial⟩ ⟨rfl, hB5⟩
theorem C_spec_l1Put__take (w0 : World) (x0 : (List Int)) (v0_0 : Value) (B0_0 : List Nat) (x1 : Int) (hS0 : Sep 0 w0 [R.own ty_3 B0_0 v0_0 x0]) (r : (List Int)) (hF : F_spec_l1Put__take x0 x1 = some r) :
  Calls Try.prog 279 [v0_0, (.int .i64 x1)].toArray w0 fun e w' => ∃ (q0 : Value) (G0 : List Nat), e = .returned q0 ∧ Below 0 (wE w0) w' ∧ Sep 0 w' [R.rest w0 (fps [R.own ty_3 B0_0 v0_0 x0]), R.own ty_3 G0 q0 r] := by
 refine calls_mk' Try.func279 rfl Try.ntmps279 rfl rfl fun Q hQ hP => ?_
 have hB : Below (wE w0).heap.size (wE w0) w0 := wE_below w0
 have hS : Sep (wE w0).heap.size w0 [R.rest w0 (fps [R.own ty_3 B0_0 v0_0 x0]), R.own ty_3 B0_0 v0_0 x0] := hS0.rest
 unfold F_spec_l1Put__take at hF
 refine W.seq fun K1 hK1 => W.region (wl_assign rfl rfl (WL.nil (fun a ha => hK1 _ _ (W.seq fun K2 hK2 => (W.region (wl_assign rfl rfl (WL.nil (fun a ha => hK2 _ _ (W.seq fun K3 hK3 => (W.block (W.loopk (fun m a w4 => ∃ (y7 : Int), St 48 [(0, v0_0), (1, (.int .i64 x1)), (5, (.int .i64 y7))] a ∧ Below (wE w0).heap.size (wE w0) w4 ∧ Sep (wE w0).heap.size w4 [R.rest w0 (fps [R.own ty_3 B0_0 v0_0 x0]), R.own ty_3 B0_0 v0_0 x0] ∧ F_spec_l1Put__take_L1 x0 x1 m y7 = some r) FU ?_ ?_))) a ha))))) a ha)))
 ·
  exact fun a ha => ⟨0, ha.sub ⟨rfl, rfl, rfl, trivial⟩, hB, (hS.sel [0, 1] rfl), hF⟩
 ·
  rintro m10 a w4 ⟨y7, ha, hB5, hS6, hF⟩ KL9 hKL9
  refine W.at ?_ ha
  cases m10 with
  | zero => exact noneE hF
  | succ m10 =>
   obtain ⟨nx8, hnx8⟩ : ∃ k, k = F_spec_l1Put__take_L1 x0 x1 m10 := ⟨_, rfl⟩
   rw [F_spec_l1Put__take_L1, ← hnx8] at hF
   refine W.seq fun K11 hK11 => W.seq fun K12 hK12 => ?_
   obtain ⟨k17, hk17, hF⟩ := jE1 hF
   have hJ18 : ∀ (y16 : Bool) (w13 : World) (_ : k17 y16 = some r) (_ : Below (wE w0).heap.size (wE w0) w13) (_ : Sep (wE w0).heap.size w13 [R.rest w0 (fps [R.own ty_3 B0_0 v0_0 x0]), R.own ty_3 B0_0 v0_0 x0]), ∀ a, St 48 [(0, v0_0), (1, (.int .i64 x1)), (5, (.int .i64 y7)), (18, (.bool y16))] a → K12 a w13 := by
    intro y16 w13 hF hB14 hS15
    subst hk17
    refine fun a ha => hK12 _ _ (W.cond rfl (fun h19 => ?_) (fun h19 => ?_)) a ha
    ·replace hF := ifP h19 hF
     refine W.skip fun a ha => hK11 _ _ (W.block (W.region (wl_move rfl rfl (wl_add rfl rfl rfl (wl_assign rfl rfl (WL.nil ?_)))))) a ha
     rw [hnx8] at hF
     exact fun a ha => hKL9 a _ m10 (Nat.lt_succ_self m10) ⟨(w64 (y7 + 1)), ha.sub ⟨rfl, rfl, rfl, trivial⟩, hB14, (hS15.sel [0, 1] rfl), hF⟩
    ·replace hF := ifN h19 hF
     refine W.exit fun a ha => hK3 _ _ (W.seq fun K20 hK20 => (W.seq fun K21 hK21 => ?_)) a ha
     obtain ⟨k26, hk26, hF⟩ := jE1 hF
     have hJ27 : ∀ (y25 : Bool) (w22 : World) (_ : k26 y25 = some r) (_ : Below (wE w0).heap.size (wE w0) w22) (_ : Sep (wE w0).heap.size w22 [R.rest w0 (fps [R.own ty_3 B0_0 v0_0 x0]), R.own ty_3 B0_0 v0_0 x0]), ∀ a, St 48 [(0, v0_0), (1, (.int .i64 x1)), (5, (.int .i64 y7)), (32, (.bool y25))] a → K21 a w22 := by
      intro y25 w22 hF hB23 hS24
      subst hk26
      refine fun a ha => hK21 _ _ (W.cond rfl (fun h28 => ?_) (fun h28 => ?_)) a ha
      ·replace hF := ifP h28 hF
       refine W.seq fun K29 hK29 => W.region (wl_move rfl rfl (wl_assign rfl rfl (WL.nil (fun a ha => hK29 _ _ (W.ret ?_) a ha))))
       have hr := Option.some.inj hF
       subst hr
       exact rets (vs := [v0_0]) hQ rfl ⟨rv_tmp rfl, trivial⟩ ⟨v0_0, B0_0, rfl, hB23, hS24.sel [0, 1] rfl⟩
      ·replace hF := ifN h28 hF
       refine W.skip fun a ha => hK20 _ _ (W.seq fun K30 hK30 => (W.region (wl_lit (vs := []) (l := []) fl_3 Try.underlying29 rfl rfl rfl rfl rfl rfl hB23 hS24 ?_))) a ha
       intro v31 F32 w33 hb34 hB35 hS36
       refine wl_move rfl rfl (wl_move rfl rfl ?_)
       obtain ⟨u37, hu37, hF⟩ := bindE hF
       refine wl_sliceof (e := ty_3) Try.underlying29 rfl rfl (hS36.ok (i := 2) rfl : ownS ty_3 _ _ _ _).rd hu37 (.inl ⟨rfl, rfl⟩) (.inr ⟨_, _, rfl, rfl⟩) ?_
       intro v38 hv41 hs40
       have hv39 := hv41.mono fun b hb => ((hS36.get (i := 2) rfl).2.1 b hb).2
       obtain ⟨u42, hu42, hF⟩ := bindE hF
       refine wl_append (i := 0) (S := (· < w33.heap.size)) fl_3 Try.underlying29 rfl rfl rfl hB35 hS36 rfl hv39 hu42 ?_
       intro v43 F44 w45 hk46 hB47 hS48
       refine wl_assign rfl rfl (WL.nil (fun a ha => hK30 _ _ (W.seq fun K49 hK49 => (W.region (wl_move rfl rfl (wl_move rfl rfl (wl_lit (vs := [(.int .i64 x1)]) (l := [x1]) fl_3 Try.underlying29 rfl rfl rfl rfl rfl rfl hB47 hS48 ?_))))) a ha))
       intro v50 F51 w52 hb53 hB54 hS55
       obtain ⟨u56, hu56, hF⟩ := bindE hF
       refine wl_append (i := 1) (S := (· < w52.heap.size)) fl_3 Try.underlying29 rfl rfl rfl hB54 hS55 rfl (hS55.own_ro (i := 0) rfl) hu56 ?_
       intro v57 F58 w59 hk60 hB61 hS62
       refine wl_assign rfl rfl (WL.nil (fun a ha => hK49 _ _ (W.seq fun K63 hK63 => (W.region (wl_move rfl rfl (wl_move rfl rfl (wl_move rfl rfl ?_))))) a ha))
       obtain ⟨u64, hu64, hF⟩ := bindE hF
       refine wl_sliceof (e := ty_3) Try.underlying29 rfl rfl (hS62.ok (i := 3) rfl : ownS ty_3 _ _ _ _).rd hu64 (.inr ⟨_, _, rfl, rfl⟩) (.inl ⟨rfl, rfl⟩) ?_
       intro v65 hv68 hs67
       have hv66 := hv68.mono fun b hb => ((hS62.get (i := 3) rfl).2.1 b hb).2
       obtain ⟨u69, hu69, hF⟩ := bindE hF
       refine wl_append (i := 1) (S := (· < w59.heap.size)) fl_3 Try.underlying29 rfl rfl rfl hB61 hS62 rfl hv66 hu69 ?_
       intro v70 F71 w72 hk73 hB74 hS75
       refine wl_assign rfl rfl (WL.nil (fun a ha => hK63 _ _ (W.ret ?_) a ha))
       have hr := Option.some.inj hF
       subst hr
       exact rets (vs := [v70]) hQ rfl ⟨rv_tmp rfl, trivial⟩ ⟨v70, F71, rfl, hB74, hS75.sel [2, 1] rfl⟩
     refine W.region (wl_move rfl rfl (wl_move rfl rfl (wl_lenr (e := ty_3) (l := x0) Try.underlying29 rfl rfl (hS15.own_ro (i := 1) rfl) (wl_lss rfl rfl rfl (wl_move rfl rfl ?_)))))
     rcases bE (decide (y7 < (List.length x0 : Int))) with h76 | h76
     ·replace hF := ifP h76 hF
      refine wl_on rfl rfl h76 (wl_move rfl rfl (wl_on rfl rfl h76 (wl_move rfl rfl (wl_on rfl rfl h76 ?_))))
      obtain ⟨u77, hu77, hF⟩ := bindE hF
      refine wl_indexo (e := ty_3) (i := 1) Try.underlying29 rfl rfl rfl hS15 rfl hu77 ?_
      rintro p78 _ rfl hp79 ho80
      refine wl_on rfl rfl h76 (wl_load_p (vs := [(.int .i64 u77)]) (v := (.int .i64 u77)) tf_3 rfl rfl hp79 rfl rfl (wl_on rfl rfl h76 (wl_move rfl rfl (wl_on rfl rfl h76 (wl_eql rfl rfl rfl (wl_pick_t rfl rfl h76 rfl (WL.nil ?_)))))))
      exact fun a ha => hJ27 ((u77 == x1)) _ hF hB14 (hS15.sel [0, 1] rfl) a (ha.sub ⟨rfl, rfl, rfl, rfl, trivial⟩)
     ·replace hF := ifN h76 hF
      refine wl_off rfl rfl rfl h76 (wl_off rfl rfl rfl h76 (wl_off rfl rfl rfl h76 (wl_off rfl rfl rfl h76 (wl_off rfl rfl rfl h76 (wl_off rfl rfl rfl h76 (wl_pick_f rfl rfl h76 rfl (WL.nil ?_)))))))
      exact fun a ha => hJ27 (false) _ hF hB14 (hS15.sel [0, 1] rfl) a (ha.sub ⟨rfl, rfl, rfl, rfl, trivial⟩)
   refine W.region (wl_move rfl rfl (wl_move rfl rfl (wl_lenr (e := ty_3) (l := x0) Try.underlying29 rfl rfl (hS6.own_ro (i := 1) rfl) (wl_lss rfl rfl rfl (wl_move rfl rfl ?_)))))
   rcases bE (decide (y7 < (List.length x0 : Int))) with h81 | h81
   ·replace hF := ifP h81 hF
    refine wl_on rfl rfl h81 (wl_move rfl rfl (wl_on rfl rfl h81 (wl_move rfl rfl (wl_on rfl rfl h81 ?_))))
    obtain ⟨u82, hu82, hF⟩ := bindE hF
    refine wl_indexo (e := ty_3) (i := 1) Try.underlying29 rfl rfl rfl hS6 rfl hu82 ?_
    rintro p83 _ rfl hp84 ho85
    refine wl_on rfl rfl h81 (wl_load_p (vs := [(.int .i64 u82)]) (v := (.int .i64 u82)) tf_3 rfl rfl hp84 rfl rfl (wl_on rfl rfl h81 (wl_move rfl rfl (wl_on rfl rfl h81 (wl_lss rfl rfl rfl (wl_pick_t rfl rfl h81 rfl (WL.nil ?_)))))))
    exact fun a ha => hJ18 ((decide (u82 < x1))) _ hF hB5 (hS6.sel [0, 1] rfl) a (ha.sub ⟨rfl, rfl, rfl, rfl, trivial⟩)
   ·replace hF := ifN h81 hF
    refine wl_off rfl rfl rfl h81 (wl_off rfl rfl rfl h81 (wl_off rfl rfl rfl h81 (wl_off rfl rfl rfl h81 (wl_off rfl rfl rfl h81 (wl_off rfl rfl rfl h81 (wl_pick_f rfl rfl h81 rfl (WL.nil ?_)))))))
    exact fun a ha => hJ18 (false) _ hF hB5 (hS6.sel [0, 1] rfl) a (ha.sub ⟨rfl, rfl, rfl, rfl, trivial⟩)
theorem C_spec_mnStep (w0 : World) (x0 : (((List (List (Int × Int))) × (List Int) × Int × Int) × Int × (List Int) × (List Int))) (v0_0 : Value) (h0_0 : rdS ty_63 (· < w0.heap.size) w0 v0_0 x0.1.1) (v0_1 : Value) (h0_1 : rdS ty_3 (· < w0.heap.size) w0 v0_1 x0.1.2.1) (v0_2 : Value) (h0_2 : rdS ty_3 (· < w0.heap.size) w0 v0_2 x0.2.2.1) (v0_3 : Value) (h0_3 : rdS ty_3 (· < w0.heap.size) w0 v0_3 x0.2.2.2) (x1 : (Int × Int)) (r : ((((List (List (Int × Int))) × (List Int) × Int × Int) × Int × (List Int) × (List Int)) × Bool)) (hF : F_spec_mnStep x0 x1 = some r) :
  Calls Try.prog 267 [(.agg #[v0_0, v0_1, (.int .i64 x0.1.2.2.1), (.int .i64 x0.1.2.2.2), (.int .i64 x0.2.1), v0_2, v0_3]), (.agg #[(.int .i64 x1.1), (.int .i64 x1.2)])].toArray w0 fun e w' => ∃ (q0 : Value) (G0 : List Nat) (q1 : Value) (G1 : List Nat) (q2 : Value) (G2 : List Nat) (q3 : Value) (G3 : List Nat), e = .returned (.tuple #[(.agg #[q0, q1, (.int .i64 r.1.1.2.2.1), (.int .i64 r.1.1.2.2.2), (.int .i64 r.1.2.1), q2, q3]), (.bool r.2)]) ∧ Below w0.heap.size w0 w' ∧ Sep w0.heap.size w' [R.own ty_63 G0 q0 r.1.1.1, R.own ty_3 G1 q1 r.1.1.2.1, R.own ty_3 G2 q2 r.1.2.2.1, R.own ty_3 G3 q3 r.1.2.2.2] := by
 refine calls_mk' Try.func267 rfl Try.ntmps267 rfl rfl fun Q hQ hP => ?_
 have hB : Below w0.heap.size w0 w0 := Below.refl _ _
 have hS : Sep w0.heap.size w0 [] := Sep.nil _ _
 unfold F_spec_mnStep at hF
 refine W.seq fun K1 hK1 => W.region (wl_box (cs := [v0_0, v0_1, (.int .i64 x0.1.2.2.1), (.int .i64 x0.1.2.2.2), (.int .i64 x0.2.1), v0_2, v0_3]) rfl rfl rfl hB hS ?_)
 intro b2 w3 hb4 hB5 hS6
 refine wl_box (cs := [(.int .i64 x1.1), (.int .i64 x1.2)]) rfl rfl rfl hB5 hS6 ?_
 intro b7 w8 hb9 hB10 hS11
 refine wl_alloc (cs := [(.slice none 0 0), (.slice none 0 0), (.int .i64 0), (.int .i64 0), (.int .i64 0), (.slice none 0 0), (.slice none 0 0)]) tf_102 rfl rfl hB10 hS11 ?_
 intro b12 w13 hb14 hB15 hS16
 refine wl_assign rfl rfl (WL.nil (fun a ha => hK1 _ _ (W.seq fun K17 hK17 => (W.seq fun K18 hK18 => (W.region (wl_field (o := 1) (off' := 1) ff_219_1 rfl rfl rfl (wl_load_blk (i := 1) (vs := [(.int .i64 x1.2)]) (v := (.int .i64 x1.2)) tf_3 rfl rfl hS16 rfl rfl rfl (wl_field (o := 6) (off' := 6) ff_102_3 rfl rfl rfl (wl_load_blk (i := 2) (vs := [v0_3]) (v := v0_3) tf_29 rfl rfl hS16 rfl rfl rfl (wl_lenr (e := ty_3) (l := x0.2.2.2) Try.underlying29 rfl rfl h0_3 (wl_sub rfl rfl rfl ?_))))))))) a ha))
 obtain ⟨u19, hu19, hF⟩ := bindE hF
 refine wl_call rfl Try.call138 (C_spec_l1In w13 x1.2 0 (w64 ((List.length x0.2.2.2 : Int) - 1)) _ hu19) rfl ?_
 rintro _ w20 ⟨rfl, hb21⟩
 refine ⟨_, rfl, ?_⟩
 have hB22 := hB15.trans (hb21.mono hB15.size)
 have hS23 := hS16.below hb21
 refine wl_not rfl rfl (WL.nil (fun a ha => hK18 _ _ (W.cond rfl (fun h25 => ?_) (fun h25 => ?_)) a ha))
 ·replace hF := ifP h25 hF
  refine W.seq fun K26 hK26 => W.region (wl_build (zs := [(.slice none 0 0), (.slice none 0 0), (.int .i64 0), (.int .i64 0), (.int .i64 0), (.slice none 0 0), (.slice none 0 0)]) (out := [(.slice none 0 0), (.slice none 0 0), (.int .i64 0), (.int .i64 0), (.int .i64 0), (.slice none 0 0), (.slice none 0 0)]) (vs := []) (css := []) tf_102 pl_102 rfl rfl rfl rfl rfl (wl_store_blk (i := 0) (vs := [(.slice none 0 0), (.slice none 0 0), (.int .i64 0), (.int .i64 0), (.int .i64 0), (.slice none 0 0), (.slice none 0 0)]) (cs' := [(.slice none 0 0), (.slice none 0 0), (.int .i64 0), (.int .i64 0), (.int .i64 0), (.slice none 0 0), (.slice none 0 0)]) tf_102 rfl rfl rfl rfl hB22 hS23 rfl rfl ⟨rfl, rfl, rfl, rfl, rfl, rfl, rfl, trivial⟩ rfl ?_))
  intro w27 hk30 hB28 hS29
  refine wl_assign rfl rfl (WL.nil (fun a ha => hK26 _ _ (W.ret ?_) a ha))
  have hS31 := hS29.push0 (r := R.own ty_63 [] (.slice none 0 0) []) rfl fun _ => .inl ⟨rfl, rfl, rfl⟩
  have hS32 := hS31.push0 (r := R.own ty_3 [] (.slice none 0 0) []) rfl fun _ => .inl ⟨rfl, rfl, rfl⟩
  have hS33 := hS32.push0 (r := R.own ty_3 [] (.slice none 0 0) []) rfl fun _ => .inl ⟨rfl, rfl, rfl⟩
  have hS34 := hS33.push0 (r := R.own ty_3 [] (.slice none 0 0) []) rfl fun _ => .inl ⟨rfl, rfl, rfl⟩
  have hr := Option.some.inj hF
  subst hr
  exact rets (vs := [(.agg #[(.slice none 0 0), (.slice none 0 0), (.int .i64 0), (.int .i64 0), (.int .i64 0), (.slice none 0 0), (.slice none 0 0)]), (.bool false)]) hQ rfl ⟨rv_cell (i := 0) tf_102 rfl hS29 rfl rfl rfl, rv_tmp rfl, trivial⟩ ⟨(.slice none 0 0), [], (.slice none 0 0), [], (.slice none 0 0), [], (.slice none 0 0), [], rfl, hB28, hS34.sel [3, 2, 1, 0] rfl⟩
 ·replace hF := ifN h25 hF
  refine W.skip fun a ha => hK17 _ _ (W.seq fun K35 hK35 => (W.region (wl_load_blk (i := 2) (vs := [v0_0, v0_1, (.int .i64 x0.1.2.2.1), (.int .i64 x0.1.2.2.2), (.int .i64 x0.2.1), v0_2, v0_3]) (v := (.agg #[v0_0, v0_1, (.int .i64 x0.1.2.2.1), (.int .i64 x0.1.2.2.2), (.int .i64 x0.2.1), v0_2, v0_3])) tf_102 rfl rfl hS23 rfl rfl rfl ?_))) a ha
  obtain ⟨u36, hu36, hF⟩ := bindE hF
  refine wl_call rfl Try.call268 (C_spec_mnOwn w20 x0 v0_0 (h0_0.ro hB22) v0_1 (h0_1.ro hB22) v0_2 (h0_2.ro hB22) v0_3 (h0_3.ro hB22) _ hu36) rfl ?_
  rintro _ w45 ⟨v37, F38, v39, F40, v41, F42, v43, F44, rfl, hb46, hM49⟩
  refine ⟨_, rfl, ?_⟩
  have hB47 := hB22.trans (hb46.mono hB22.size)
  have hS48 := hS23.join hb46 hM49 hB22.size
  refine wl_alloc (cs := [(.slice none 0 0), (.slice none 0 0), (.int .i64 0), (.int .i64 0), (.int .i64 0), (.slice none 0 0), (.slice none 0 0)]) tf_102 rfl rfl hB47 hS48 ?_
  intro b50 w51 hb52 hB53 hS54
  refine wl_store_blk (i := 0) (vs := [v37, v39, (.int .i64 u36.1.2.2.1), (.int .i64 u36.1.2.2.2), (.int .i64 u36.2.1), v41, v43]) (cs' := [v37, v39, (.int .i64 u36.1.2.2.1), (.int .i64 u36.1.2.2.2), (.int .i64 u36.2.1), v41, v43]) tf_102 rfl rfl rfl rfl hB53 hS54 rfl rfl ⟨(hS54.own_ro (i := 1) rfl).one, (hS54.own_ro (i := 2) rfl).one, rfl, rfl, rfl, (hS54.own_ro (i := 3) rfl).one, (hS54.own_ro (i := 4) rfl).one, trivial⟩ rfl ?_
  intro w55 hk58 hB56 hS57
  refine WL.nil fun a ha => hK35 _ _ (W.seq fun K59 hK59 => (W.region (wl_field (o := 5) (off' := 5) ff_102_2 rfl rfl rfl (wl_load_blk (i := 7) (vs := [v0_2]) (v := v0_2) tf_29 rfl rfl hS57 rfl rfl rfl (wl_field (o := 1) (off' := 1) ff_219_1 rfl rfl rfl (wl_load_blk (i := 6) (vs := [(.int .i64 x1.2)]) (v := (.int .i64 x1.2)) tf_3 rfl rfl hS57 rfl rfl rfl ?_)))))) a ha
  obtain ⟨u60, hu60, hF⟩ := bindE hF
  refine wl_call rfl Try.call278 (C_spec_l1Has w55 x0.2.2.1 v0_2 (h0_2.ro hB56) x1.2 _ hu60) rfl ?_
  rintro _ w61 ⟨rfl, hb62⟩
  refine ⟨_, rfl, ?_⟩
  have hB63 := hB56.trans (hb62.mono hB56.size)
  have hS64 := hS57.below hb62
  refine wl_assign rfl rfl (WL.nil (fun a ha => hK59 _ _ (W.seq fun K66 hK66 => ?_) a ha))
  obtain ⟨k77, hk77, hF⟩ := jE3 hF
  have hJ78 : ∀ (y70 : Int) (l71 : (List Int)) (l74 : (List Int)) (v72 : Value) (F73 : List Nat) (v75 : Value) (F76 : List Nat) (w67 : World) (_ : k77 y70 l71 l74 = some r) (_ : Below w0.heap.size w0 w67) (_ : Sep w0.heap.size w67 [R.blk b12 102 [(.slice none 0 0), (.slice none 0 0), (.int .i64 0), (.int .i64 0), (.int .i64 0), (.slice none 0 0), (.slice none 0 0)], R.own ty_63 F38 v37 u36.1.1, R.own ty_3 F40 v39 u36.1.2.1, R.own ty_3 F73 v72 l71, R.own ty_3 F76 v75 l74, R.blk b50 102 [v37, v39, (.int .i64 u36.1.2.2.1), (.int .i64 u36.1.2.2.2), (.int .i64 y70), v72, v75]]), ∀ a, St 103 [(4, (.pointer (some ⟨b12, 0, none⟩))), (6, (.pointer (some ⟨b50, 0, none⟩)))] a → K66 a w67 := by
   intro y70 l71 l74 v72 F73 v75 F76 w67 hF hB68 hS69
   subst hk77
   refine fun a ha => hK66 _ _ (W.seq fun K79 hK79 => (W.region (wl_load_blk (i := 5) (vs := [v37, v39, (.int .i64 u36.1.2.2.1), (.int .i64 u36.1.2.2.2), (.int .i64 y70), v72, v75]) (v := (.agg #[v37, v39, (.int .i64 u36.1.2.2.1), (.int .i64 u36.1.2.2.2), (.int .i64 y70), v72, v75])) tf_102 rfl rfl hS69 rfl rfl rfl (wl_store_blk (i := 0) (vs := [v37, v39, (.int .i64 u36.1.2.2.1), (.int .i64 u36.1.2.2.2), (.int .i64 y70), v72, v75]) (cs' := [v37, v39, (.int .i64 u36.1.2.2.1), (.int .i64 u36.1.2.2.2), (.int .i64 y70), v72, v75]) tf_102 rfl rfl rfl rfl hB68 hS69 rfl rfl ⟨(hS69.own_ro (i := 1) rfl).one, (hS69.own_ro (i := 2) rfl).one, rfl, rfl, rfl, (hS69.own_ro (i := 3) rfl).one, (hS69.own_ro (i := 4) rfl).one, trivial⟩ rfl ?_)))) a ha
   intro w80 hk83 hB81 hS82
   refine wl_assign rfl rfl (WL.nil (fun a ha => hK79 _ _ (W.ret ?_) a ha))
   have hr := Option.some.inj hF
   subst hr
   exact rets (vs := [(.agg #[v37, v39, (.int .i64 u36.1.2.2.1), (.int .i64 u36.1.2.2.2), (.int .i64 y70), v72, v75]), (.bool true)]) hQ rfl ⟨rv_cell (i := 0) tf_102 rfl hS82 rfl rfl rfl, rv_tmp rfl, trivial⟩ ⟨v37, F38, v39, F40, v72, F73, v75, F76, rfl, hB81, hS82.sel [1, 2, 3, 4] rfl⟩
  refine W.block (W.seq fun K84 hK84 => ?_)
  obtain ⟨k89, hk89, hF⟩ := jE1 hF
  have hJ90 : ∀ (y88 : Bool) (w85 : World) (_ : k89 y88 = some r) (_ : Below w0.heap.size w0 w85) (_ : Sep w0.heap.size w85 [R.blk b2 102 [v0_0, v0_1, (.int .i64 x0.1.2.2.1), (.int .i64 x0.1.2.2.2), (.int .i64 x0.2.1), v0_2, v0_3], R.blk b7 219 [(.int .i64 x1.1), (.int .i64 x1.2)], R.blk b12 102 [(.slice none 0 0), (.slice none 0 0), (.int .i64 0), (.int .i64 0), (.int .i64 0), (.slice none 0 0), (.slice none 0 0)], R.own ty_63 F38 v37 u36.1.1, R.own ty_3 F40 v39 u36.1.2.1, R.own ty_3 F42 v41 u36.2.2.1, R.own ty_3 F44 v43 u36.2.2.2, R.blk b50 102 [v37, v39, (.int .i64 u36.1.2.2.1), (.int .i64 u36.1.2.2.2), (.int .i64 u36.2.1), v41, v43]]), ∀ a, St 103 [(2, (.pointer (some ⟨b2, 0, none⟩))), (3, (.pointer (some ⟨b7, 0, none⟩))), (4, (.pointer (some ⟨b12, 0, none⟩))), (6, (.pointer (some ⟨b50, 0, none⟩))), (7, (.bool u60)), (29, (.bool y88))] a → K84 a w85 := by
   intro y88 w85 hF hB86 hS87
   subst hk89
   refine fun a ha => hK84 _ _ (W.cond rfl (fun h91 => ?_) (fun h91 => ?_)) a ha
   ·replace hF := ifP h91 hF
    refine W.seq fun K92 hK92 => W.region (wl_field (o := 4) (off' := 4) ff_102_1 rfl rfl rfl (wl_load_blk (i := 7) (vs := [(.int .i64 u36.2.1)]) (v := (.int .i64 u36.2.1)) tf_3 rfl rfl hS87 rfl rfl rfl (wl_add rfl rfl rfl (wl_field (o := 4) (off' := 4) ff_102_1 rfl rfl rfl (wl_store_blk (i := 7) (vs := [(.int .i64 (w64 (u36.2.1 + 1)))]) (cs' := [v37, v39, (.int .i64 u36.1.2.2.1), (.int .i64 u36.1.2.2.2), (.int .i64 (w64 (u36.2.1 + 1))), v41, v43]) tf_3 rfl rfl rfl rfl hB86 hS87 rfl rfl ⟨rfl, trivial⟩ rfl ?_)))))
    intro w93 hk96 hB94 hS95
    refine WL.nil fun a ha => hK92 _ _ (W.seq fun K97 hK97 => (W.region (wl_field (o := 5) (off' := 5) ff_102_2 rfl rfl rfl (wl_load_blk (i := 0) (vs := [v0_2]) (v := v0_2) tf_29 rfl rfl hS95 rfl rfl rfl (wl_lenr (e := ty_3) (l := x0.2.2.1) Try.underlying29 rfl rfl h0_2 (wl_move rfl rfl (WL.nil (fun a ha => hK97 _ _ (W.block ?_) a ha)))))))) a ha
    refine W.loopk (fun m a w98 => ∃ (l101 : (List Int)) (y104 : Int) (v102 : Value) (F103 : List Nat), St 103 [(4, (.pointer (some ⟨b12, 0, none⟩))), (6, (.pointer (some ⟨b50, 0, none⟩))), (48, v0_2), (49, (.int .i64 (List.length x0.2.2.1 : Int))), (50, (.int .i64 y104))] a ∧ Below w0.heap.size w0 w98 ∧ Sep w0.heap.size w98 [R.blk b12 102 [(.slice none 0 0), (.slice none 0 0), (.int .i64 0), (.int .i64 0), (.int .i64 0), (.slice none 0 0), (.slice none 0 0)], R.own ty_63 F38 v37 u36.1.1, R.own ty_3 F40 v39 u36.1.2.1, R.own ty_3 F42 v41 u36.2.2.1, R.own ty_3 F103 v102 l101, R.blk b50 102 [v37, v39, (.int .i64 u36.1.2.2.1), (.int .i64 u36.1.2.2.2), (.int .i64 (w64 (u36.2.1 + 1))), v41, v102]] ∧ F_spec_mnStep_L1 x0 k77 u36 m l101 y104 = some r) FU ?_ ?_
    ·
     exact fun a ha => ⟨u36.2.2.2, 0, v43, F44, ha.sub ⟨rfl, rfl, rfl, rfl, rfl, trivial⟩, hB94, (hS95.sel [2, 3, 4, 5, 6, 7] rfl), hF⟩
    ·
     rintro m107 a w98 ⟨l101, y104, v102, F103, ha, hB99, hS100, hF⟩ KL106 hKL106
     refine W.at ?_ ha
     cases m107 with
     | zero => exact noneE hF
     | succ m107 =>
      obtain ⟨nx105, hnx105⟩ : ∃ k, k = F_spec_mnStep_L1 x0 k77 u36 m107 := ⟨_, rfl⟩
      rw [F_spec_mnStep_L1, ← hnx105] at hF
      refine W.seq fun K108 hK108 => W.region (wl_lss rfl rfl rfl (WL.nil (fun a ha => hK108 _ _ (W.seq fun K109 hK109 => (W.cond rfl (fun h110 => ?_) (fun h110 => ?_))) a ha)))
      ·replace hF := ifP h110 hF
       refine W.skip fun a ha => hK109 _ _ (W.seq fun K111 hK111 => (W.block (W.seq fun K112 hK112 => (W.region ?_)))) a ha
       obtain ⟨u113, hu113, hF⟩ := bindE hF
       refine wl_index (e := ty_3) Try.underlying29 rfl rfl rfl h0_2 hu113 ?_
       rintro p114 _ rfl hp115
       refine wl_load_p (vs := [(.int .i64 u113)]) (v := (.int .i64 u113)) tf_3 rfl rfl (hp115.ro hB99) rfl rfl (wl_assign rfl rfl (WL.nil (fun a ha => hK112 _ _ (W.region (wl_field (o := 6) (off' := 6) ff_102_3 rfl rfl rfl (wl_load_blk (i := 5) (vs := [v102]) (v := v102) tf_29 rfl rfl hS100 rfl rfl rfl (wl_move rfl rfl ?_)))) a ha)))
       obtain ⟨u116, hu116, hF⟩ := bindE hF
       refine wl_indexo (e := ty_3) (i := 4) Try.underlying29 rfl rfl rfl hS100 rfl hu116 ?_
       rintro p117 _ rfl hp118 ho119
       refine wl_load_p (vs := [(.int .i64 u116)]) (v := (.int .i64 u116)) tf_3 rfl rfl hp118 rfl rfl (wl_add rfl rfl rfl ?_)
       obtain ⟨u120, hu120, hF⟩ := bindE hF
       refine wl_indexo (e := ty_3) (i := 4) Try.underlying29 rfl rfl rfl hS100 rfl hu120 ?_
       rintro p121 _ rfl hp122 ho123
       refine wl_storeo (i := 4) (o := 0) (vs := [(.int .i64 (w64 (u116 + 1)))]) (u' := (w64 (u116 + 1))) fl_3 tf_3 rfl rfl rfl rfl ho123 hu120 hB99 hS100 rfl rfl ⟨rfl, trivial⟩ rfl ?_
       intro w124 hk127 hB125 hS126
       refine WL.nil fun a ha => hK111 _ _ (W.region (wl_add rfl rfl rfl (wl_move rfl rfl (WL.nil ?_)))) a ha
       rw [hnx105] at hF
       exact fun a ha => hKL106 a _ m107 (Nat.lt_succ_self m107) ⟨(seti l101 u113 (w64 (u116 + 1))), (w64 (y104 + 1)), v102, F103, ha.sub ⟨rfl, rfl, rfl, rfl, rfl, trivial⟩, hB125, (hS126.sel [0, 1, 2, 3, 4, 5] rfl), hF⟩
      ·replace hF := ifN h110 hF
       refine W.exit ?_
       exact fun a ha => hJ78 ((w64 (u36.2.1 + 1))) (u36.2.2.1) (l101) (v41) (F42) (v102) (F103) _ hF hB99 (hS100.sel [0, 1, 2, 3, 4, 5] rfl) a (ha.sub ⟨rfl, rfl, trivial⟩)
   ·replace hF := ifN h91 hF
    refine W.seq fun K128 hK128 => ?_
    obtain ⟨k133, hk133, hF⟩ := jE1 hF
    have hJ134 : ∀ (y132 : Bool) (w129 : World) (_ : k133 y132 = some r) (_ : Below w0.heap.size w0 w129) (_ : Sep w0.heap.size w129 [R.blk b2 102 [v0_0, v0_1, (.int .i64 x0.1.2.2.1), (.int .i64 x0.1.2.2.2), (.int .i64 x0.2.1), v0_2, v0_3], R.blk b7 219 [(.int .i64 x1.1), (.int .i64 x1.2)], R.blk b12 102 [(.slice none 0 0), (.slice none 0 0), (.int .i64 0), (.int .i64 0), (.int .i64 0), (.slice none 0 0), (.slice none 0 0)], R.own ty_63 F38 v37 u36.1.1, R.own ty_3 F40 v39 u36.1.2.1, R.own ty_3 F42 v41 u36.2.2.1, R.own ty_3 F44 v43 u36.2.2.2, R.blk b50 102 [v37, v39, (.int .i64 u36.1.2.2.1), (.int .i64 u36.1.2.2.2), (.int .i64 u36.2.1), v41, v43]]), ∀ a, St 103 [(2, (.pointer (some ⟨b2, 0, none⟩))), (3, (.pointer (some ⟨b7, 0, none⟩))), (4, (.pointer (some ⟨b12, 0, none⟩))), (6, (.pointer (some ⟨b50, 0, none⟩))), (7, (.bool u60)), (62, (.bool y132))] a → K128 a w129 := by
     intro y132 w129 hF hB130 hS131
     subst hk133
     refine fun a ha => hK128 _ _ (W.cond rfl (fun h135 => ?_) (fun h135 => ?_)) a ha
     ·replace hF := ifP h135 hF
      refine W.region (wl_field (o := 5) (off' := 5) ff_102_2 rfl rfl rfl (wl_load_blk (i := 7) (vs := [v41]) (v := v41) tf_29 rfl rfl hS131 rfl rfl rfl (wl_field (o := 1) (off' := 1) ff_219_1 rfl rfl rfl (wl_load_blk (i := 1) (vs := [(.int .i64 x1.2)]) (v := (.int .i64 x1.2)) tf_3 rfl rfl hS131 rfl rfl rfl ?_))))
      obtain ⟨u136, hu136, hF⟩ := bindE hF
      refine wl_call rfl Try.call279 (C_spec_l1Put__take w129 u36.2.2.1 v41 F42 x1.2 (hS131.sel [5] rfl).base0 _ hu136) rfl ?_
      rintro _ w137 ⟨v142, F143, rfl, hE138, hM139⟩
      refine ⟨_, rfl, ?_⟩
      have hB140 := hS131.takeB [5] rfl (M := [R.own ty_3 F42 v41 u36.2.2.1]) rfl hB130 hE138 hM139
      have hS141 : Sep w0.heap.size w137 [R.own ty_3 F143 v142 u136, R.blk b2 102 [v0_0, v0_1, (.int .i64 x0.1.2.2.1), (.int .i64 x0.1.2.2.2), (.int .i64 x0.2.1), v0_2, v0_3], R.blk b7 219 [(.int .i64 x1.1), (.int .i64 x1.2)], R.blk b12 102 [(.slice none 0 0), (.slice none 0 0), (.int .i64 0), (.int .i64 0), (.int .i64 0), (.slice none 0 0), (.slice none 0 0)], R.own ty_63 F38 v37 u36.1.1, R.own ty_3 F40 v39 u36.1.2.1, R.own ty_3 F44 v43 u36.2.2.2, R.blk b50 102 [v37, v39, (.int .i64 u36.1.2.2.1), (.int .i64 u36.1.2.2.2), (.int .i64 u36.2.1), v41, v43]] := hS131.take [5] [0, 1, 2, 3, 4, 6, 7] rfl (M := [R.own ty_3 F42 v41 u36.2.2.1]) rfl hM139 hB130.size
      refine wl_field (o := 5) (off' := 5) ff_102_2 rfl rfl rfl (wl_store_blk (i := 7) (vs := [v142]) (cs' := [v37, v39, (.int .i64 u36.1.2.2.1), (.int .i64 u36.1.2.2.2), (.int .i64 u36.2.1), v142, v43]) tf_29 rfl rfl (cells_one (hS141.own_ro (i := 0) rfl).one) rfl hB140 hS141 rfl rfl ⟨(hS141.own_ro (i := 0) rfl).one, trivial⟩ rfl ?_)
      intro w144 hk147 hB145 hS146
      refine WL.nil ?_
      exact fun a ha => hJ78 (u36.2.1) (u136) (u36.2.2.2) (v142) (F143) (v43) (F44) _ hF hB145 (hS146.sel [3, 4, 5, 0, 6, 7] rfl) a (ha.sub ⟨rfl, rfl, trivial⟩)
     ·replace hF := ifN h135 hF
      refine W.seq fun K148 hK148 => ?_
      obtain ⟨k153, hk153, hF⟩ := jE1 hF
      have hJ154 : ∀ (y152 : Bool) (w149 : World) (_ : k153 y152 = some r) (_ : Below w0.heap.size w0 w149) (_ : Sep w0.heap.size w149 [R.blk b2 102 [v0_0, v0_1, (.int .i64 x0.1.2.2.1), (.int .i64 x0.1.2.2.2), (.int .i64 x0.2.1), v0_2, v0_3], R.blk b7 219 [(.int .i64 x1.1), (.int .i64 x1.2)], R.blk b12 102 [(.slice none 0 0), (.slice none 0 0), (.int .i64 0), (.int .i64 0), (.int .i64 0), (.slice none 0 0), (.slice none 0 0)], R.own ty_63 F38 v37 u36.1.1, R.own ty_3 F40 v39 u36.1.2.1, R.own ty_3 F42 v41 u36.2.2.1, R.own ty_3 F44 v43 u36.2.2.2, R.blk b50 102 [v37, v39, (.int .i64 u36.1.2.2.1), (.int .i64 u36.1.2.2.2), (.int .i64 u36.2.1), v41, v43]]), ∀ a, St 103 [(2, (.pointer (some ⟨b2, 0, none⟩))), (3, (.pointer (some ⟨b7, 0, none⟩))), (4, (.pointer (some ⟨b12, 0, none⟩))), (6, (.pointer (some ⟨b50, 0, none⟩))), (76, (.bool y152))] a → K148 a w149 := by
       intro y152 w149 hF hB150 hS151
       subst hk153
       refine fun a ha => hK148 _ _ (W.cond rfl (fun h155 => ?_) (fun h155 => ?_)) a ha
       ·replace hF := ifP h155 hF
        refine W.seq fun K156 hK156 => W.region (wl_field (o := 5) (off' := 5) ff_102_2 rfl rfl rfl (wl_store_blk (i := 7) (vs := [(.slice none 0 0)]) (cs' := [v37, v39, (.int .i64 u36.1.2.2.1), (.int .i64 u36.1.2.2.2), (.int .i64 u36.2.1), (.slice none 0 0), v43]) tf_29 rfl rfl rfl rfl hB150 hS151 rfl rfl ⟨rfl, trivial⟩ rfl ?_))
        intro w157 hk160 hB158 hS159
        refine WL.nil fun a ha => hK156 _ _ (W.seq fun K161 hK161 => (W.region (wl_field (o := 5) (off' := 5) ff_102_2 rfl rfl rfl (wl_load_blk (i := 0) (vs := [v0_2]) (v := v0_2) tf_29 rfl rfl hS159 rfl rfl rfl (wl_lenr (e := ty_3) (l := x0.2.2.1) Try.underlying29 rfl rfl h0_2 (wl_move rfl rfl (WL.nil (fun a ha => hK161 _ _ (W.block ?_) a ha)))))))) a ha
        refine W.loopk (fun m a w162 => ∃ (l165 : (List Int)) (y168 : Int) (v166 : Value) (F167 : List Nat), St 103 [(3, (.pointer (some ⟨b7, 0, none⟩))), (4, (.pointer (some ⟨b12, 0, none⟩))), (6, (.pointer (some ⟨b50, 0, none⟩))), (85, v0_2), (86, (.int .i64 (List.length x0.2.2.1 : Int))), (87, (.int .i64 y168))] a ∧ Below w0.heap.size w0 w162 ∧ Sep w0.heap.size w162 [R.blk b7 219 [(.int .i64 x1.1), (.int .i64 x1.2)], R.blk b12 102 [(.slice none 0 0), (.slice none 0 0), (.int .i64 0), (.int .i64 0), (.int .i64 0), (.slice none 0 0), (.slice none 0 0)], R.own ty_63 F38 v37 u36.1.1, R.own ty_3 F40 v39 u36.1.2.1, R.own ty_3 F167 v166 l165, R.own ty_3 F44 v43 u36.2.2.2, R.blk b50 102 [v37, v39, (.int .i64 u36.1.2.2.1), (.int .i64 u36.1.2.2.2), (.int .i64 u36.2.1), v166, v43]] ∧ F_spec_mnStep_L2 x0 x1 k77 u36 m l165 y168 = some r) FU ?_ ?_
        ·
         have hS170 := hS159.push0 (r := R.own ty_3 [] (.slice none 0 0) []) rfl fun _ => .inl ⟨rfl, rfl, rfl⟩
         exact fun a ha => ⟨[], 0, (.slice none 0 0), [], ha.sub ⟨rfl, rfl, rfl, rfl, rfl, rfl, trivial⟩, hB158, (hS170.sel [2, 3, 4, 5, 0, 7, 8] rfl), hF⟩
        ·
         rintro m172 a w162 ⟨l165, y168, v166, F167, ha, hB163, hS164, hF⟩ KL171 hKL171
         refine W.at ?_ ha
         cases m172 with
         | zero => exact noneE hF
         | succ m172 =>
          obtain ⟨nx169, hnx169⟩ : ∃ k, k = F_spec_mnStep_L2 x0 x1 k77 u36 m172 := ⟨_, rfl⟩
          rw [F_spec_mnStep_L2, ← hnx169] at hF
          refine W.seq fun K173 hK173 => W.region (wl_lss rfl rfl rfl (WL.nil (fun a ha => hK173 _ _ (W.seq fun K174 hK174 => (W.cond rfl (fun h175 => ?_) (fun h175 => ?_))) a ha)))
          ·replace hF := ifP h175 hF
           refine W.skip fun a ha => hK174 _ _ (W.seq fun K176 hK176 => ?_) a ha
           obtain ⟨k183, hk183, hF⟩ := jE1 hF
           have hJ184 : ∀ (l180 : (List Int)) (v181 : Value) (F182 : List Nat) (w177 : World) (_ : k183 l180 = some r) (_ : Below w0.heap.size w0 w177) (_ : Sep w0.heap.size w177 [R.blk b7 219 [(.int .i64 x1.1), (.int .i64 x1.2)], R.blk b12 102 [(.slice none 0 0), (.slice none 0 0), (.int .i64 0), (.int .i64 0), (.int .i64 0), (.slice none 0 0), (.slice none 0 0)], R.own ty_63 F38 v37 u36.1.1, R.own ty_3 F40 v39 u36.1.2.1, R.own ty_3 F182 v181 l180, R.own ty_3 F44 v43 u36.2.2.2, R.blk b50 102 [v37, v39, (.int .i64 u36.1.2.2.1), (.int .i64 u36.1.2.2.2), (.int .i64 u36.2.1), v181, v43]]), ∀ a, St 103 [(3, (.pointer (some ⟨b7, 0, none⟩))), (4, (.pointer (some ⟨b12, 0, none⟩))), (6, (.pointer (some ⟨b50, 0, none⟩))), (85, v0_2), (86, (.int .i64 (List.length x0.2.2.1 : Int))), (87, (.int .i64 y168))] a → K176 a w177 := by
            intro l180 v181 F182 w177 hF hB178 hS179
            subst hk183
            refine fun a ha => hK176 _ _ (W.region (wl_add rfl rfl rfl (wl_move rfl rfl (WL.nil ?_)))) a ha
            rw [hnx169] at hF
            exact fun a ha => hKL171 a _ m172 (Nat.lt_succ_self m172) ⟨l180, (w64 (y168 + 1)), v181, F182, ha.sub ⟨rfl, rfl, rfl, rfl, rfl, rfl, trivial⟩, hB178, (hS179.sel [0, 1, 2, 3, 4, 5, 6] rfl), hF⟩
           refine W.block (W.seq fun K185 hK185 => (W.region ?_))
           obtain ⟨u186, hu186, hF⟩ := bindE hF
           refine wl_index (e := ty_3) Try.underlying29 rfl rfl rfl h0_2 hu186 ?_
           rintro p187 _ rfl hp188
           refine wl_load_p (vs := [(.int .i64 u186)]) (v := (.int .i64 u186)) tf_3 rfl rfl (hp188.ro hB163) rfl rfl (wl_assign rfl rfl (WL.nil (fun a ha => hK185 _ _ (W.seq fun K189 hK189 => (W.region (wl_move rfl rfl (wl_field (o := 1) (off' := 1) ff_219_1 rfl rfl rfl (wl_load_blk (i := 0) (vs := [(.int .i64 x1.2)]) (v := (.int .i64 x1.2)) tf_3 rfl rfl hS164 rfl rfl rfl (wl_neq rfl rfl rfl (WL.nil (fun a ha => hK189 _ _ (W.cond rfl (fun h190 => ?_) (fun h190 => ?_)) a ha)))))))) a ha)))
           ·replace hF := ifP h190 hF
            refine W.region (wl_field (o := 5) (off' := 5) ff_102_2 rfl rfl rfl (wl_load_blk (i := 6) (vs := [v166]) (v := v166) tf_29 rfl rfl hS164 rfl rfl rfl (wl_move rfl rfl (wl_lit (vs := [(.int .i64 u186)]) (l := [u186]) fl_3 Try.underlying29 rfl rfl rfl rfl rfl rfl hB163 hS164 ?_))))
            intro v191 F192 w193 hb194 hB195 hS196
            obtain ⟨u197, hu197, hF⟩ := bindE hF
            refine wl_append (i := 5) (S := (· < w193.heap.size)) fl_3 Try.underlying29 rfl rfl rfl hB195 hS196 rfl (hS196.own_ro (i := 0) rfl) hu197 ?_
            intro v198 F199 w200 hk201 hB202 hS203
            refine wl_field (o := 5) (off' := 5) ff_102_2 rfl rfl rfl (wl_store_blk (i := 7) (vs := [v198]) (cs' := [v37, v39, (.int .i64 u36.1.2.2.1), (.int .i64 u36.1.2.2.2), (.int .i64 u36.2.1), v198, v43]) tf_29 rfl rfl (cells_one (hS203.own_ro (i := 5) rfl).one) rfl hB202 hS203 rfl rfl ⟨(hS203.own_ro (i := 5) rfl).one, trivial⟩ rfl ?_)
            intro w204 hk207 hB205 hS206
            refine WL.nil ?_
            exact fun a ha => hJ184 (u197) (v198) (F199) _ hF hB205 (hS206.sel [1, 2, 3, 4, 5, 6, 7] rfl) a (ha.sub ⟨rfl, rfl, rfl, rfl, rfl, rfl, trivial⟩)
           ·replace hF := ifN h190 hF
            refine W.skip ?_
            exact fun a ha => hJ184 (l165) (v166) (F167) _ hF hB163 (hS164.sel [0, 1, 2, 3, 4, 5, 6] rfl) a (ha.sub ⟨rfl, rfl, rfl, rfl, rfl, rfl, trivial⟩)
          ·replace hF := ifN h175 hF
           refine W.exit ?_
           exact fun a ha => hJ78 (u36.2.1) (l165) (u36.2.2.2) (v166) (F167) (v43) (F44) _ hF hB163 (hS164.sel [1, 2, 3, 4, 5, 6] rfl) a (ha.sub ⟨rfl, rfl, trivial⟩)
       ·replace hF := ifN h155 hF
        refine W.seq fun K208 hK208 => W.region (wl_build (zs := [(.slice none 0 0), (.slice none 0 0), (.int .i64 0), (.int .i64 0), (.int .i64 0), (.slice none 0 0), (.slice none 0 0)]) (out := [(.slice none 0 0), (.slice none 0 0), (.int .i64 0), (.int .i64 0), (.int .i64 0), (.slice none 0 0), (.slice none 0 0)]) (vs := []) (css := []) tf_102 pl_102 rfl rfl rfl rfl rfl (wl_store_blk (i := 2) (vs := [(.slice none 0 0), (.slice none 0 0), (.int .i64 0), (.int .i64 0), (.int .i64 0), (.slice none 0 0), (.slice none 0 0)]) (cs' := [(.slice none 0 0), (.slice none 0 0), (.int .i64 0), (.int .i64 0), (.int .i64 0), (.slice none 0 0), (.slice none 0 0)]) tf_102 rfl rfl rfl rfl hB150 hS151 rfl rfl ⟨rfl, rfl, rfl, rfl, rfl, rfl, rfl, trivial⟩ rfl ?_))
        intro w209 hk212 hB210 hS211
        refine wl_assign rfl rfl (WL.nil (fun a ha => hK208 _ _ (W.ret ?_) a ha))
        have hS213 := hS211.push0 (r := R.own ty_63 [] (.slice none 0 0) []) rfl fun _ => .inl ⟨rfl, rfl, rfl⟩
        have hS214 := hS213.push0 (r := R.own ty_3 [] (.slice none 0 0) []) rfl fun _ => .inl ⟨rfl, rfl, rfl⟩
        have hS215 := hS214.push0 (r := R.own ty_3 [] (.slice none 0 0) []) rfl fun _ => .inl ⟨rfl, rfl, rfl⟩
        have hS216 := hS215.push0 (r := R.own ty_3 [] (.slice none 0 0) []) rfl fun _ => .inl ⟨rfl, rfl, rfl⟩
        have hr := Option.some.inj hF
        subst hr
        exact rets (vs := [(.agg #[(.slice none 0 0), (.slice none 0 0), (.int .i64 0), (.int .i64 0), (.int .i64 0), (.slice none 0 0), (.slice none 0 0)]), (.bool false)]) hQ rfl ⟨rv_cell (i := 2) tf_102 rfl hS211 rfl rfl rfl, rv_tmp rfl, trivial⟩ ⟨(.slice none 0 0), [], (.slice none 0 0), [], (.slice none 0 0), [], (.slice none 0 0), [], rfl, hB210, hS216.sel [3, 2, 1, 0] rfl⟩
      refine W.region (wl_field (o := 0) (off' := 0) ff_219_0 rfl rfl rfl (wl_load_blk (i := 1) (vs := [(.int .i64 x1.1)]) (v := (.int .i64 x1.1)) tf_3 rfl rfl hS131 rfl rfl rfl (wl_eql rfl rfl rfl (wl_move rfl rfl ?_))))
      rcases bE (x1.1 == 3) with h217 | h217
      ·replace hF := ifP h217 hF
       refine wl_on rfl rfl h217 (wl_move rfl rfl (wl_pick_t rfl rfl h217 rfl (wl_assign rfl rfl (WL.nil ?_))))
       exact fun a ha => hJ154 (u60) _ hF hB130 (hS131.sel [0, 1, 2, 3, 4, 5, 6, 7] rfl) a (ha.sub ⟨rfl, rfl, rfl, rfl, rfl, trivial⟩)
      ·replace hF := ifN h217 hF
       refine wl_off rfl rfl rfl h217 (wl_pick_f rfl rfl h217 rfl (wl_assign rfl rfl (WL.nil ?_)))
       exact fun a ha => hJ154 (false) _ hF hB130 (hS131.sel [0, 1, 2, 3, 4, 5, 6, 7] rfl) a (ha.sub ⟨rfl, rfl, rfl, rfl, rfl, trivial⟩)
    refine W.region (wl_field (o := 0) (off' := 0) ff_219_0 rfl rfl rfl (wl_load_blk (i := 1) (vs := [(.int .i64 x1.1)]) (v := (.int .i64 x1.1)) tf_3 rfl rfl hS87 rfl rfl rfl (wl_eql rfl rfl rfl (wl_move rfl rfl ?_))))
    rcases bE (x1.1 == 2) with h218 | h218
    ·replace hF := ifP h218 hF
     refine wl_on rfl rfl h218 (wl_move rfl rfl (wl_on rfl rfl h218 (wl_not rfl rfl (wl_pick_t rfl rfl h218 rfl (wl_assign rfl rfl (WL.nil ?_))))))
     exact fun a ha => hJ134 ((!u60)) _ hF hB86 (hS87.sel [0, 1, 2, 3, 4, 5, 6, 7] rfl) a (ha.sub ⟨rfl, rfl, rfl, rfl, rfl, rfl, trivial⟩)
    ·replace hF := ifN h218 hF
     refine wl_off rfl rfl rfl h218 (wl_off rfl rfl rfl h218 (wl_pick_f rfl rfl h218 rfl (wl_assign rfl rfl (WL.nil ?_))))
     exact fun a ha => hJ134 (false) _ hF hB86 (hS87.sel [0, 1, 2, 3, 4, 5, 6, 7] rfl) a (ha.sub ⟨rfl, rfl, rfl, rfl, rfl, rfl, trivial⟩)
  refine W.region (wl_field (o := 0) (off' := 0) ff_219_0 rfl rfl rfl (wl_load_blk (i := 6) (vs := [(.int .i64 x1.1)]) (v := (.int .i64 x1.1)) tf_3 rfl rfl hS64 rfl rfl rfl (wl_eql rfl rfl rfl (wl_move rfl rfl ?_))))
  rcases bE (x1.1 == 1) with h219 | h219
  ·replace hF := ifP h219 hF
   refine wl_on rfl rfl h219 (wl_field (o := 1) (off' := 1) ff_219_1 rfl rfl rfl (wl_on rfl rfl h219 (wl_load_blk (i := 6) (vs := [(.int .i64 x1.2)]) (v := (.int .i64 x1.2)) tf_3 rfl rfl hS64 rfl rfl rfl (wl_on rfl rfl h219 (wl_eql rfl rfl rfl (wl_pick_t rfl rfl h219 rfl (wl_move rfl rfl ?_)))))))
   rcases bE (x1.2 == 0) with h220 | h220
   ·replace hF := ifP h220 hF
    refine wl_on rfl rfl h220 (wl_field (o := 4) (off' := 4) ff_102_1 rfl rfl rfl (wl_on rfl rfl h220 (wl_load_blk (i := 7) (vs := [(.int .i64 x0.2.1)]) (v := (.int .i64 x0.2.1)) tf_3 rfl rfl hS64 rfl rfl rfl (wl_on rfl rfl h220 (wl_lss rfl rfl rfl (wl_pick_t rfl rfl h220 rfl (wl_assign rfl rfl (WL.nil ?_))))))))
    exact fun a ha => hJ90 ((decide (x0.2.1 < 1000))) _ hF hB63 (hS64.sel [7, 6, 5, 1, 2, 3, 4, 0] rfl) a (ha.sub ⟨rfl, rfl, rfl, rfl, rfl, rfl, trivial⟩)
   ·replace hF := ifN h220 hF
    refine wl_off rfl rfl rfl h220 (wl_off rfl rfl rfl h220 (wl_off rfl rfl rfl h220 (wl_pick_f rfl rfl h220 rfl (wl_assign rfl rfl (WL.nil ?_)))))
    exact fun a ha => hJ90 (false) _ hF hB63 (hS64.sel [7, 6, 5, 1, 2, 3, 4, 0] rfl) a (ha.sub ⟨rfl, rfl, rfl, rfl, rfl, rfl, trivial⟩)
  ·replace hF := ifN h219 hF
   refine wl_off rfl rfl rfl h219 (wl_off rfl rfl rfl h219 (wl_off rfl rfl rfl h219 (wl_pick_f rfl rfl h219 rfl (wl_move rfl rfl (wl_off rfl rfl rfl rfl (wl_off rfl rfl rfl rfl (wl_off rfl rfl rfl rfl (wl_pick_f rfl rfl rfl rfl (wl_assign rfl rfl (WL.nil ?_))))))))))
   exact fun a ha => hJ90 (false) _ hF hB63 (hS64.sel [7, 6, 5, 1, 2, 3, 4, 0] rfl) a (ha.sub ⟨rfl, rfl, rfl, rfl, rfl, rfl, trivial⟩)
theorem C_spec_l1Cur__beats__mut__box (w0 : World) (x0 : ((List Int) × Int × Int)) (b0 : Nat) (v0_0 : Value) (h0_0 : rdS ty_5 (Out (fps [R.blk b0 131 [v0_0, (.int .i64 x0.2.1), (.int .u64 x0.2.2)]]) w0) w0 v0_0 x0.1) (x1 : Int) (hS0 : Sep 0 w0 [R.blk b0 131 [v0_0, (.int .i64 x0.2.1), (.int .u64 x0.2.2)]]) (r : ((List (Int × Int)) × ((List Int) × Int × Int))) (hF : F_spec_l1Cur__beats__mut__box x0 x1 = some r) :
  Calls Try.prog 266 [(.pointer (some ⟨b0, 0, none⟩)), (.int .i64 x1)].toArray w0 fun e w' => ∃ (q0 : Value) (G0 : List Nat), e = .returned q0 ∧ Below 0 (wE w0) w' ∧ Sep 0 w' [R.rest w0 (fps [R.blk b0 131 [v0_0, (.int .i64 x0.2.1), (.int .u64 x0.2.2)]]), R.blk b0 131 [v0_0, (.int .i64 r.2.2.1), (.int .u64 r.2.2.2)], R.own ty_219 G0 q0 r.1] := by
 refine calls_mk' Try.func266 rfl Try.ntmps266 rfl rfl fun Q hQ hP => ?_
 have hB : Below (wE w0).heap.size (wE w0) w0 := wE_below w0
 have hS : Sep (wE w0).heap.size w0 [R.rest w0 (fps [R.blk b0 131 [v0_0, (.int .i64 x0.2.1), (.int .u64 x0.2.2)]]), R.blk b0 131 [v0_0, (.int .i64 x0.2.1), (.int .u64 x0.2.2)]] := hS0.rest
 unfold F_spec_l1Cur__beats__mut__box at hF
 refine W.seq fun K1 hK1 => W.region (wl_assign rfl rfl (WL.nil (fun a ha => hK1 _ _ (W.seq fun K2 hK2 => (W.region (wl_assign rfl rfl (WL.nil (fun a ha => hK2 _ _ (W.seq fun K3 hK3 => (W.seq fun K4 hK4 => (W.region (wl_move rfl rfl ?_)))) a ha))))) a ha)))
 obtain ⟨u5, hu5, hF⟩ := bindE hF
 refine wl_call rfl Try.call132 (C_spec_l1Cur__pick__mut__box w0 x0 b0 v0_0 (h0_0.rsto (hS.sel [0, 1] rfl)) 12 (hS.sel [1] rfl).base0 _ hu5) rfl ?_
 rintro _ w6 ⟨rfl, hE7, hM8⟩
 refine ⟨_, rfl, ?_⟩
 have hB9 := hS.takeB [1] rfl (M := [R.blk b0 131 [v0_0, (.int .i64 x0.2.1), (.int .u64 x0.2.2)]]) rfl hB hE7 hM8
 have hS10 : Sep (wE w0).heap.size w6 [R.blk b0 131 [v0_0, (.int .i64 u5.2.2.1), (.int .u64 u5.2.2.2)], R.rest w0 (fps [R.blk b0 131 [v0_0, (.int .i64 x0.2.1), (.int .u64 x0.2.2)]])] := hS.take [1] [0] rfl (M := [R.blk b0 131 [v0_0, (.int .i64 x0.2.1), (.int .u64 x0.2.2)]]) rfl hM8 hB.size
 refine wl_assign rfl rfl (WL.nil (fun a ha => hK4 _ _ (W.block (W.loopk (fun m a w11 => ∃ (y14 : Int) (y15 : Int) (l16 : (List (Int × Int))) (y19 : Int) (v17 : Value) (F18 : List Nat), St 59 [(0, (.pointer (some ⟨b0, 0, none⟩))), (1, (.int .i64 x1)), (5, v17), (6, (.int .i64 y19))] a ∧ Below (wE w0).heap.size (wE w0) w11 ∧ Sep (wE w0).heap.size w11 [R.rest w0 (fps [R.blk b0 131 [v0_0, (.int .i64 x0.2.1), (.int .u64 x0.2.2)]]), R.blk b0 131 [v0_0, (.int .i64 y14), (.int .u64 y15)], R.own ty_219 F18 v17 l16] ∧ F_spec_l1Cur__beats__mut__box_L1 x0 x1 m y14 y15 l16 y19 = some r) FU ?_ ?_)) a ha))
 ·
  have hS21 := hS10.push0 (r := R.own ty_219 [] (.slice none 0 0) []) rfl fun _ => .inl ⟨rfl, rfl, rfl⟩
  exact fun a ha => ⟨u5.2.2.1, u5.2.2.2, [], u5.1, (.slice none 0 0), [], ha.sub ⟨rfl, rfl, rfl, rfl, trivial⟩, hB9, (hS21.sel [2, 1, 0] rfl), hF⟩
 ·
  rintro m23 a w11 ⟨y14, y15, l16, y19, v17, F18, ha, hB12, hS13, hF⟩ KL22 hKL22
  refine W.at ?_ ha
  cases m23 with
  | zero => exact noneE hF
  | succ m23 =>
   obtain ⟨nx20, hnx20⟩ : ∃ k, k = F_spec_l1Cur__beats__mut__box_L1 x0 x1 m23 := ⟨_, rfl⟩
   rw [F_spec_l1Cur__beats__mut__box_L1, ← hnx20] at hF
   refine W.seq fun K24 hK24 => W.seq fun K25 hK25 => W.region (wl_move rfl rfl (wl_gtr rfl rfl rfl (WL.nil (fun a ha => hK25 _ _ (W.cond rfl (fun h26 => ?_) (fun h26 => ?_)) a ha))))
   ·replace hF := ifP h26 hF
    refine W.skip fun a ha => hK24 _ _ (W.seq fun K27 hK27 => (W.block (W.seq fun K28 hK28 => (W.region (wl_build (zs := [(.int .i64 0), (.int .i64 0)]) (out := [(.int .i64 1), (.int .i64 0)]) (vs := [(.int .i64 1)]) (css := [[(.int .i64 1)]]) tf_219 pl_219 rfl rfl rfl rfl rfl (wl_alloc (cs := [(.int .i64 0), (.int .i64 0)]) tf_219 rfl rfl hB12 hS13 ?_)))))) a ha
    intro b29 w30 hb31 hB32 hS33
    refine wl_store_blk (i := 0) (vs := [(.int .i64 1), (.int .i64 0)]) (cs' := [(.int .i64 1), (.int .i64 0)]) tf_219 rfl rfl rfl rfl hB32 hS33 rfl rfl ⟨rfl, rfl, trivial⟩ rfl ?_
    intro w34 hk37 hB35 hS36
    refine WL.nil fun a ha => hK28 _ _ (W.seq fun K38 hK38 => ?_) a ha
    obtain ⟨k46, hk46, hF⟩ := jE4 hF
    have hJ47 : ∀ (y42 : Int) (y43 : Int) (y44 : Int) (y45 : Int) (w39 : World) (_ : k46 y42 y43 y44 y45 = some r) (_ : Below (wE w0).heap.size (wE w0) w39) (_ : Sep (wE w0).heap.size w39 [R.rest w0 (fps [R.blk b0 131 [v0_0, (.int .i64 x0.2.1), (.int .u64 x0.2.2)]]), R.blk b0 131 [v0_0, (.int .i64 y42), (.int .u64 y43)], R.own ty_219 F18 v17 l16, R.blk b29 219 [(.int .i64 y44), (.int .i64 y45)]]), ∀ a, St 59 [(0, (.pointer (some ⟨b0, 0, none⟩))), (1, (.int .i64 x1)), (5, v17), (6, (.int .i64 y19)), (7, (.pointer (some ⟨b29, 0, none⟩)))] a → K38 a w39 := by
     intro y42 y43 y44 y45 w39 hF hB40 hS41
     subst hk46
     refine fun a ha => hK38 _ _ (W.region (wl_move rfl rfl (wl_load_blk (i := 3) (vs := [(.int .i64 y44), (.int .i64 y45)]) (v := (.agg #[(.int .i64 y44), (.int .i64 y45)])) tf_219 rfl rfl hS41 rfl rfl rfl (wl_lit (vs := [(.agg #[(.int .i64 y44), (.int .i64 y45)])]) (l := [(y44, y45)]) fl_219 Try.underlying216 rfl rfl rfl rfl rfl rfl hB40 hS41 ?_)))) a ha
     intro v48 F49 w50 hb51 hB52 hS53
     obtain ⟨u54, hu54, hF⟩ := bindE hF
     refine wl_append (i := 3) (S := (· < w50.heap.size)) fl_219 Try.underlying216 rfl rfl rfl hB52 hS53 rfl (hS53.own_ro (i := 0) rfl) hu54 ?_
     intro v55 F56 w57 hk58 hB59 hS60
     refine wl_assign rfl rfl (WL.nil (fun a ha => hK27 _ _ (W.region (wl_move rfl rfl (wl_sub rfl rfl rfl (wl_assign rfl rfl (WL.nil ?_))))) a ha))
     rw [hnx20] at hF
     exact fun a ha => hKL22 a _ m23 (Nat.lt_succ_self m23) ⟨y42, y43, u54, (w64 (y19 - 1)), v55, F56, ha.sub ⟨rfl, rfl, rfl, rfl, trivial⟩, hB59, (hS60.sel [1, 2, 3] rfl), hF⟩
    refine W.seq fun K61 hK61 => W.region (wl_move rfl rfl ?_)
    obtain ⟨u62, hu62, hF⟩ := bindE hF
    refine wl_call rfl Try.call130 (C_spec_l1Cur__one__mut__box w34 (x0.1, y14, y15) b0 v0_0 (h0_0.rsto (hS36.sel [1, 2] rfl)) 3 (hS36.sel [2] rfl).base0 _ hu62) rfl ?_
    rintro _ w63 ⟨rfl, hE64, hM65⟩
    refine ⟨_, rfl, ?_⟩
    have hB66 := hS36.takeB [2] rfl (M := [R.blk b0 131 [v0_0, (.int .i64 y14), (.int .u64 y15)]]) rfl hB35 hE64 hM65
    have hS67 : Sep (wE w0).heap.size w63 [R.blk b0 131 [v0_0, (.int .i64 u62.2.2.1), (.int .u64 u62.2.2.2)], R.blk b29 219 [(.int .i64 1), (.int .i64 0)], R.rest w0 (fps [R.blk b0 131 [v0_0, (.int .i64 x0.2.1), (.int .u64 x0.2.2)]]), R.own ty_219 F18 v17 l16] := hS36.take [2] [0, 1, 3] rfl (M := [R.blk b0 131 [v0_0, (.int .i64 y14), (.int .u64 y15)]]) rfl hM65 hB35.size
    refine WL.nil fun a ha => hK61 _ _ (W.cond rfl (fun h68 => ?_) (fun h68 => ?_)) a ha
    ·replace hF := ifP h68 hF
     refine W.region (wl_move rfl rfl (wl_lit (vs := [(.int .i64 2), (.int .i64 2), (.int .i64 3)]) (l := [2, 2, 3]) fl_3 Try.underlying29 rfl rfl rfl rfl rfl rfl hB66 hS67 ?_))
     intro v69 F70 w71 hb72 hB73 hS74
     obtain ⟨u75, hu75, hF⟩ := bindE hF
     refine wl_call rfl Try.call136 (C_spec_l1Cur__among__mut__box w71 (x0.1, u62.2.2.1, u62.2.2.2) b0 v0_0 (h0_0.rsto (hS74.sel [3, 1] rfl)) [2, 2, 3] v69 (own_out (hS74.sel [0, 1] rfl)) (hS74.sel [1] rfl).base0 _ hu75) rfl ?_
     rintro _ w76 ⟨rfl, hE77, hM78⟩
     refine ⟨_, rfl, ?_⟩
     have hB79 := hS74.takeB [1] rfl (M := [R.blk b0 131 [v0_0, (.int .i64 u62.2.2.1), (.int .u64 u62.2.2.2)]]) rfl hB73 hE77 hM78
     have hS80 : Sep (wE w0).heap.size w76 [R.blk b0 131 [v0_0, (.int .i64 u75.2.2.1), (.int .u64 u75.2.2.2)], R.own ty_3 F70 v69 [2, 2, 3], R.blk b29 219 [(.int .i64 1), (.int .i64 0)], R.rest w0 (fps [R.blk b0 131 [v0_0, (.int .i64 x0.2.1), (.int .u64 x0.2.2)]]), R.own ty_219 F18 v17 l16] := hS74.take [1] [0, 2, 3, 4] rfl (M := [R.blk b0 131 [v0_0, (.int .i64 u62.2.2.1), (.int .u64 u62.2.2.2)]]) rfl hM78 hB73.size
     refine wl_move rfl rfl (wl_move rfl rfl ?_)
     obtain ⟨u81, hu81, hF⟩ := bindE hF
     refine wl_call rfl Try.call131 (C_spec_l1Most w76 1 x1 _ hu81) rfl ?_
     rintro _ w82 ⟨rfl, hb83⟩
     refine ⟨_, rfl, ?_⟩
     have hB84 := hB79.trans (hb83.mono hB79.size)
     have hS85 := hS80.below hb83
     obtain ⟨u87, hu87, hF⟩ := bindE hF
     refine wl_call rfl Try.call132 (C_spec_l1Cur__pick__mut__box w82 (x0.1, u75.2.2.1, u75.2.2.2) b0 v0_0 (h0_0.rsto (hS85.sel [3, 0] rfl)) u81 (hS85.sel [0] rfl).base0 _ hu87) rfl ?_
     rintro _ w88 ⟨rfl, hE89, hM90⟩
     refine ⟨_, rfl, ?_⟩
     have hB91 := hS85.takeB [0] rfl (M := [R.blk b0 131 [v0_0, (.int .i64 u75.2.2.1), (.int .u64 u75.2.2.2)]]) rfl hB84 hE89 hM90
     have hS92 : Sep (wE w0).heap.size w88 [R.blk b0 131 [v0_0, (.int .i64 u87.2.2.1), (.int .u64 u87.2.2.2)], R.own ty_3 F70 v69 [2, 2, 3], R.blk b29 219 [(.int .i64 1), (.int .i64 0)], R.rest w0 (fps [R.blk b0 131 [v0_0, (.int .i64 x0.2.1), (.int .u64 x0.2.2)]]), R.own ty_219 F18 v17 l16] := hS85.take [0] [1, 2, 3, 4] rfl (M := [R.blk b0 131 [v0_0, (.int .i64 u75.2.2.1), (.int .u64 u75.2.2.2)]]) rfl hM90 hB84.size
     refine wl_build (zs := [(.int .i64 0), (.int .i64 0)]) (out := [(.int .i64 u75.1), (.int .i64 u87.1)]) (vs := [(.int .i64 u75.1), (.int .i64 u87.1)]) (css := [[(.int .i64 u75.1)], [(.int .i64 u87.1)]]) tf_219 pl_219 rfl rfl rfl rfl rfl (wl_store_blk (i := 2) (vs := [(.int .i64 u75.1), (.int .i64 u87.1)]) (cs' := [(.int .i64 u75.1), (.int .i64 u87.1)]) tf_219 rfl rfl rfl rfl hB91 hS92 rfl rfl ⟨rfl, rfl, trivial⟩ rfl ?_)
     intro w93 hk96 hB94 hS95
     refine WL.nil ?_
     exact fun a ha => hJ47 (u87.2.2.1) (u87.2.2.2) (u75.1) (u87.1) _ hF hB94 (hS95.sel [3, 0, 4, 2] rfl) a (ha.sub ⟨rfl, rfl, rfl, rfl, rfl, trivial⟩)
    ·replace hF := ifN h68 hF
     refine W.skip ?_
     exact fun a ha => hJ47 (u62.2.2.1) (u62.2.2.2) (1) (0) _ hF hB66 (hS67.sel [2, 0, 3, 1] rfl) a (ha.sub ⟨rfl, rfl, rfl, rfl, rfl, trivial⟩)
   ·replace hF := ifN h26 hF
    refine W.exit fun a ha => hK3 _ _ (W.seq fun K97 hK97 => ?_) a ha
    obtain ⟨k106, hk106, hF⟩ := jE3 hF
    have hJ107 : ∀ (y101 : Int) (y102 : Int) (l103 : (List (Int × Int))) (v104 : Value) (F105 : List Nat) (w98 : World) (_ : k106 y101 y102 l103 = some r) (_ : Below (wE w0).heap.size (wE w0) w98) (_ : Sep (wE w0).heap.size w98 [R.rest w0 (fps [R.blk b0 131 [v0_0, (.int .i64 x0.2.1), (.int .u64 x0.2.2)]]), R.blk b0 131 [v0_0, (.int .i64 y101), (.int .u64 y102)], R.own ty_219 F105 v104 l103]), ∀ a, St 59 [(5, v104)] a → K97 a w98 := by
     intro y101 y102 l103 v104 F105 w98 hF hB99 hS100
     subst hk106
     refine fun a ha => hK97 _ _ (W.seq fun K108 hK108 => (W.region (wl_move rfl rfl (wl_assign rfl rfl (WL.nil (fun a ha => hK108 _ _ (W.ret ?_) a ha)))))) a ha
     have hr := Option.some.inj hF
     subst hr
     exact rets (vs := [v104]) hQ rfl ⟨rv_tmp rfl, trivial⟩ ⟨v104, F105, rfl, hB99, hS100.sel [0, 1, 2] rfl⟩
    refine W.seq fun K109 hK109 => W.region (wl_move rfl rfl (wl_lenr (e := ty_219) (l := l16) Try.underlying216 rfl rfl (hS13.own_ro (i := 2) rfl) (wl_gtr rfl rfl rfl (WL.nil (fun a ha => hK109 _ _ (W.cond rfl (fun h110 => ?_) (fun h110 => ?_)) a ha)))))
    ·replace hF := ifP h110 hF
     refine W.seq fun K111 hK111 => W.region (wl_move rfl rfl (wl_move rfl rfl (wl_move rfl rfl (wl_lenr (e := ty_219) (l := l16) Try.underlying216 rfl rfl (hS13.own_ro (i := 2) rfl) ?_))))
     obtain ⟨u112, hu112, hF⟩ := bindE hF
     refine wl_call rfl Try.call132 (C_spec_l1Cur__pick__mut__box w11 (x0.1, y14, y15) b0 v0_0 (h0_0.rsto (hS13.sel [0, 1] rfl)) (List.length l16 : Int) (hS13.sel [1] rfl).base0 _ hu112) rfl ?_
     rintro _ w113 ⟨rfl, hE114, hM115⟩
     refine ⟨_, rfl, ?_⟩
     have hB116 := hS13.takeB [1] rfl (M := [R.blk b0 131 [v0_0, (.int .i64 y14), (.int .u64 y15)]]) rfl hB12 hE114 hM115
     have hS117 : Sep (wE w0).heap.size w113 [R.blk b0 131 [v0_0, (.int .i64 u112.2.2.1), (.int .u64 u112.2.2.2)], R.rest w0 (fps [R.blk b0 131 [v0_0, (.int .i64 x0.2.1), (.int .u64 x0.2.2)]]), R.own ty_219 F18 v17 l16] := hS13.take [1] [0, 2] rfl (M := [R.blk b0 131 [v0_0, (.int .i64 y14), (.int .u64 y15)]]) rfl hM115 hB12.size
     obtain ⟨u118, hu118, hF⟩ := bindE hF
     refine wl_indexoF (e := ty_219) (i := 2) Try.underlying216 rfl rfl rfl hS117 rfl hu118 ?_
     rintro p119 _ rfl hp120 ho121
     refine wl_assign rfl rfl (WL.nil (fun a ha => hK111 _ _ (W.seq fun K122 hK122 => (W.region (wl_move rfl rfl ?_))) a ha))
     obtain ⟨u123, hu123, hF⟩ := bindE hF
     refine wl_call rfl Try.call132 (C_spec_l1Cur__pick__mut__box w113 (x0.1, u112.2.2.1, u112.2.2.2) b0 v0_0 (h0_0.rsto (hS117.sel [1, 0] rfl)) 24 (hS117.sel [0] rfl).base0 _ hu123) rfl ?_
     rintro _ w124 ⟨rfl, hE125, hM126⟩
     refine ⟨_, rfl, ?_⟩
     have hB127 := hS117.takeB [0] rfl (M := [R.blk b0 131 [v0_0, (.int .i64 u112.2.2.1), (.int .u64 u112.2.2.2)]]) rfl hB116 hE125 hM126
     have hS128 : Sep (wE w0).heap.size w124 [R.blk b0 131 [v0_0, (.int .i64 u123.2.2.1), (.int .u64 u123.2.2.2)], R.rest w0 (fps [R.blk b0 131 [v0_0, (.int .i64 x0.2.1), (.int .u64 x0.2.2)]]), R.own ty_219 F18 v17 l16] := hS117.take [0] [1, 2] rfl (M := [R.blk b0 131 [v0_0, (.int .i64 u112.2.2.1), (.int .u64 u112.2.2.2)]]) rfl hM126 hB116.size
     have hp120 := hp120.keepS (fun b hb => mut_kept hM126 b (((hS117.get (i := 2) rfl).2.1 b hb).2) (nf_cons (hS117.disj (i := 2) (j := 0) rfl rfl rfl b hb) nf_nil)) (fun _ h => h)
     refine WL.nil fun a ha => hK122 _ _ (W.block (W.seq fun K129 hK129 => (W.region (wl_eql rfl rfl rfl (wl_assign rfl rfl (WL.nil (fun a ha => hK129 _ _ (W.cond rfl (fun h130 => ?_) (fun h130 => ?_)) a ha))))))) a ha
     ·replace hF := ifP h130 hF
      refine W.region (wl_move rfl rfl (wl_move rfl rfl (wl_lit (vs := [(.int .i64 0), (.int .i64 4)]) (l := [0, 4]) fl_3 Try.underlying29 rfl rfl rfl rfl rfl rfl hB127 hS128 ?_)))
      intro v131 F132 w133 hb134 hB135 hS136
      have hp120 := hp120.keepS (fun b hb => hb134.block b (((hS128.get (i := 2) rfl).2.1 b hb).2)) (fun _ h => h)
      obtain ⟨u137, hu137, hF⟩ := bindE hF
      refine wl_call rfl Try.call136 (C_spec_l1Cur__among__mut__box w133 (x0.1, u123.2.2.1, u123.2.2.2) b0 v0_0 (h0_0.rsto (hS136.sel [2, 1] rfl)) [0, 4] v131 (own_out (hS136.sel [0, 1] rfl)) (hS136.sel [1] rfl).base0 _ hu137) rfl ?_
      rintro _ w138 ⟨rfl, hE139, hM140⟩
      refine ⟨_, rfl, ?_⟩
      have hB141 := hS136.takeB [1] rfl (M := [R.blk b0 131 [v0_0, (.int .i64 u123.2.2.1), (.int .u64 u123.2.2.2)]]) rfl hB135 hE139 hM140
      have hS142 : Sep (wE w0).heap.size w138 [R.blk b0 131 [v0_0, (.int .i64 u137.2.2.1), (.int .u64 u137.2.2.2)], R.own ty_3 F132 v131 [0, 4], R.rest w0 (fps [R.blk b0 131 [v0_0, (.int .i64 x0.2.1), (.int .u64 x0.2.2)]]), R.own ty_219 F18 v17 l16] := hS136.take [1] [0, 2, 3] rfl (M := [R.blk b0 131 [v0_0, (.int .i64 u123.2.2.1), (.int .u64 u123.2.2.2)]]) rfl hM140 hB135.size
      have hp120 := hp120.keepS (fun b hb => mut_kept hM140 b (((hS136.get (i := 3) rfl).2.1 b hb).2) (nf_cons (hS136.disj (i := 3) (j := 1) rfl rfl rfl b hb) nf_nil)) (fun _ h => h)
      refine wl_nilCheck rfl rfl (wl_fieldp (o := 0) ff_219_0 rfl rfl (wl_storeo (i := 3) (o := 0) (vs := [(.int .i64 u137.1)]) (u' := (u137.1, u118.2)) fl_219 tf_3 rfl rfl rfl rfl ho121 hu118 hB141 hS142 rfl rfl ⟨rfl, trivial⟩ rfl ?_))
      intro w143 hk146 hB144 hS145
      refine WL.nil ?_
      exact fun a ha => hJ107 (u137.2.2.1) (u137.2.2.2) ((seti l16 u112.1 (u137.1, u118.2))) (v17) (F18) _ hF hB144 (hS145.sel [2, 0, 3] rfl) a (ha.sub ⟨rfl, trivial⟩)
     ·replace hF := ifN h130 hF
      refine W.seq fun K147 hK147 => W.region (wl_eql rfl rfl rfl (wl_assign rfl rfl (WL.nil (fun a ha => hK147 _ _ (W.cond rfl (fun h148 => ?_) (fun h148 => ?_)) a ha))))
      ·replace hF := ifP h148 hF
       refine W.region (wl_move rfl rfl (wl_move rfl rfl (wl_move rfl rfl (wl_lit (vs := [(.int .i64 (-1)), (.int .i64 1), (.int .i64 x1)]) (l := [(-1), 1, x1]) fl_3 Try.underlying29 rfl rfl rfl rfl rfl rfl hB127 hS128 ?_))))
       intro v149 F150 w151 hb152 hB153 hS154
       have hp120 := hp120.keepS (fun b hb => hb152.block b (((hS128.get (i := 2) rfl).2.1 b hb).2)) (fun _ h => h)
       obtain ⟨u155, hu155, hF⟩ := bindE hF
       refine wl_call rfl Try.call136 (C_spec_l1Cur__among__mut__box w151 (x0.1, u123.2.2.1, u123.2.2.2) b0 v0_0 (h0_0.rsto (hS154.sel [2, 1] rfl)) [(-1), 1, x1] v149 (own_out (hS154.sel [0, 1] rfl)) (hS154.sel [1] rfl).base0 _ hu155) rfl ?_
       rintro _ w156 ⟨rfl, hE157, hM158⟩
       refine ⟨_, rfl, ?_⟩
       have hB159 := hS154.takeB [1] rfl (M := [R.blk b0 131 [v0_0, (.int .i64 u123.2.2.1), (.int .u64 u123.2.2.2)]]) rfl hB153 hE157 hM158
       have hS160 : Sep (wE w0).heap.size w156 [R.blk b0 131 [v0_0, (.int .i64 u155.2.2.1), (.int .u64 u155.2.2.2)], R.own ty_3 F150 v149 [(-1), 1, x1], R.rest w0 (fps [R.blk b0 131 [v0_0, (.int .i64 x0.2.1), (.int .u64 x0.2.2)]]), R.own ty_219 F18 v17 l16] := hS154.take [1] [0, 2, 3] rfl (M := [R.blk b0 131 [v0_0, (.int .i64 u123.2.2.1), (.int .u64 u123.2.2.2)]]) rfl hM158 hB153.size
       have hp120 := hp120.keepS (fun b hb => mut_kept hM158 b (((hS154.get (i := 3) rfl).2.1 b hb).2) (nf_cons (hS154.disj (i := 3) (j := 1) rfl rfl rfl b hb) nf_nil)) (fun _ h => h)
       refine wl_nilCheck rfl rfl (wl_fieldp (o := 1) ff_219_1 rfl rfl (wl_storeo (i := 3) (o := 1) (vs := [(.int .i64 u155.1)]) (u' := (u118.1, u155.1)) fl_219 tf_3 rfl rfl rfl rfl (ho121.add 1) hu118 hB159 hS160 rfl rfl ⟨rfl, trivial⟩ rfl ?_))
       intro w161 hk164 hB162 hS163
       refine WL.nil ?_
       exact fun a ha => hJ107 (u155.2.2.1) (u155.2.2.2) ((seti l16 u112.1 (u118.1, u155.1))) (v17) (F18) _ hF hB162 (hS163.sel [2, 0, 3] rfl) a (ha.sub ⟨rfl, trivial⟩)
      ·replace hF := ifN h148 hF
       refine W.skip ?_
       exact fun a ha => hJ107 (u123.2.2.1) (u123.2.2.2) (l16) (v17) (F18) _ hF hB127 (hS128.sel [1, 0, 2] rfl) a (ha.sub ⟨rfl, trivial⟩)
    ·replace hF := ifN h110 hF
     refine W.skip ?_
     exact fun a ha => hJ107 (y14) (y15) (l16) (v17) (F18) _ hF hB12 (hS13.sel [0, 1, 2] rfl) a (ha.sub ⟨rfl, trivial⟩)
end Go.Proofs.Ytmkignciedkidaa
