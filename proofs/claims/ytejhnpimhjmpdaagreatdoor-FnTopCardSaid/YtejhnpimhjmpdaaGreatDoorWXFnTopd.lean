/-
  THE WALKS of functions of this seat, by program (gen.py, prune.py).
-/
import Derived.Test.YtejhnpimhjmpdaaGreatDoorWXFnTopc
set_option linter.unusedSimpArgs false
set_option linter.unusedVariables false
set_option maxRecDepth 100000
set_option maxHeartbeats 1600000
namespace Go.Proofs.YtejhnpimhjmpdaaGreatDoor
open Go Go.RowKit
theorem C_impl_ParseSheet (w0 : World) (x0 : (List UInt8)) (r : ((Int × (Int × Int) × (List (Int × (Int × Int)))) × Bool)) (hF : F_impl_ParseSheet x0 = some r) :
  Calls Tryz.prog 17 [(.string (mkS x0))].toArray w0 fun e w' => ∃ (q0 : Value) (G0 : List Nat), e = .returned (.tuple #[(.agg #[(.int .i64 r.1.1), (.int .i64 r.1.2.1.1), (.int .i64 r.1.2.1.2), q0]), (.bool r.2)]) ∧ Below w0.heap.size w0 w' ∧ Sep w0.heap.size w' [R.own ty_101 G0 q0 r.1.2.2] := by
 refine calls_mk' Tryz.func17 rfl Tryz.ntmps17 rfl rfl fun Q hQ hP => ?_
 have hB : Below w0.heap.size w0 w0 := Below.refl _ _
 have hS : Sep w0.heap.size w0 [] := Sep.nil _ _
 unfold F_impl_ParseSheet at hF
 refine W.seq fun K1 hK1 => W.region (wl_alloc (cs := [(.int .i64 0), (.int .i64 0), (.int .i64 0), (.slice none 0 0)]) tf_48 rfl rfl hB hS ?_)
 intro b2 w3 hb4 hB5 hS6
 refine wl_assign rfl rfl (WL.nil (fun a ha => hK1 _ _ (W.seq fun K7 hK7 => (W.region (wl_move rfl rfl ?_))) a ha))
 obtain ⟨u8, hu8, hF⟩ := bindE hF
 refine wl_call rfl Tryz.call48 (C_impl_linesOf w3 x0 _ hu8) rfl ?_
 rintro _ w11 ⟨v9, F10, rfl, hb12, hM15⟩
 refine ⟨_, rfl, ?_⟩
 have hB13 := hB5.trans (hb12.mono hB5.size)
 have hS14 := hS6.join hb12 hM15 hB5.size
 refine wl_move rfl rfl (wl_extract rfl rfl rfl (wl_extract rfl rfl rfl (wl_assign rfl rfl (wl_assign rfl rfl (WL.nil (fun a ha => hK7 _ _ (W.seq fun K16 hK16 => (W.seq fun K17 hK17 => ?_)) a ha))))))
 obtain ⟨k22, hk22, hF⟩ := jE1 hF
 have hJ23 : ∀ (y21 : Bool) (w18 : World) (_ : k22 y21 = some r) (_ : Below w0.heap.size w0 w18) (_ : Sep w0.heap.size w18 [R.blk b2 48 [(.int .i64 0), (.int .i64 0), (.int .i64 0), (.slice none 0 0)], R.own ty_9 F10 v9 u8.1]), ∀ a, St 123 [(2, (.pointer (some ⟨b2, 0, none⟩))), (4, v9), (32, (.bool y21))] a → K17 a w18 := by
  intro y21 w18 hF hB19 hS20
  subst hk22
  refine fun a ha => hK17 _ _ (W.cond rfl (fun h24 => ?_) (fun h24 => ?_)) a ha
  ·replace hF := ifP h24 hF
   refine W.seq fun K25 hK25 => W.region (wl_build (zs := [(.int .i64 0), (.int .i64 0), (.int .i64 0), (.slice none 0 0)]) (out := [(.int .i64 0), (.int .i64 0), (.int .i64 0), (.slice none 0 0)]) (vs := []) (css := []) tf_48 pl_48 rfl rfl rfl rfl rfl (wl_store_blk (i := 0) (vs := [(.int .i64 0), (.int .i64 0), (.int .i64 0), (.slice none 0 0)]) (cs' := [(.int .i64 0), (.int .i64 0), (.int .i64 0), (.slice none 0 0)]) tf_48 rfl rfl rfl rfl hB19 hS20 rfl rfl ⟨rfl, rfl, rfl, rfl, trivial⟩ rfl ?_))
   intro w26 hk29 hB27 hS28
   refine wl_assign rfl rfl (WL.nil (fun a ha => hK25 _ _ (W.ret ?_) a ha))
   have hS30 := hS28.push0 (r := R.own ty_101 [] (.slice none 0 0) []) rfl fun _ => .inl ⟨rfl, rfl, rfl⟩
   have hr := Option.some.inj hF
   subst hr
   exact rets (vs := [(.agg #[(.int .i64 0), (.int .i64 0), (.int .i64 0), (.slice none 0 0)]), (.bool false)]) hQ rfl ⟨rv_cell (i := 0) tf_48 rfl hS28 rfl rfl rfl, rv_tmp rfl, trivial⟩ ⟨(.slice none 0 0), [], rfl, hB27, hS30.sel [0] rfl⟩
  ·replace hF := ifN h24 hF
   refine W.skip fun a ha => hK16 _ _ (W.seq fun K31 hK31 => (W.region (wl_lit (vs := []) (l := []) fl_101 Tryz.underlying46 rfl rfl rfl rfl rfl rfl hB19 hS20 ?_))) a ha
   intro v32 F33 w34 hb35 hB36 hS37
   refine wl_build (zs := [(.int .i64 0), (.int .i64 0), (.int .i64 0), (.slice none 0 0)]) (out := [(.int .i64 0), (.int .i64 0), (.int .i64 0), v32]) (vs := [v32]) (css := [[v32]]) tf_48 pl_48 rfl rfl (by simp only [List.map_cons, List.map_nil, cells_one ((hS37.own_ro (i := 0) rfl).one)] <;> rfl) rfl rfl (wl_alloc (cs := [(.int .i64 0), (.int .i64 0), (.int .i64 0), (.slice none 0 0)]) tf_48 rfl rfl hB36 hS37 ?_)
   intro b38 w39 hb40 hB41 hS42
   refine wl_store_blk (i := 0) (vs := [(.int .i64 0), (.int .i64 0), (.int .i64 0), v32]) (cs' := [(.int .i64 0), (.int .i64 0), (.int .i64 0), v32]) tf_48 rfl rfl rfl rfl hB41 hS42 rfl rfl ⟨rfl, rfl, rfl, (hS42.own_ro (i := 1) rfl).one, trivial⟩ rfl ?_
   intro w43 hk46 hB44 hS45
   refine WL.nil fun a ha => hK31 _ _ (W.seq fun K47 hK47 => (W.region (wl_move rfl rfl ?_))) a ha
   obtain ⟨u48, hu48, hF⟩ := bindE hF
   refine wl_indexoF (e := ty_9) (i := 3) Tryz.underlying92 rfl rfl rfl hS45 rfl hu48 ?_
   rintro p49 _ rfl hp50 ho51
   refine wl_load_p (vs := [(.string (mkS u48))]) (v := (.string (mkS u48))) tf_9 rfl rfl hp50 rfl rfl ?_
   obtain ⟨u52, hu52, hF⟩ := bindE hF
   refine wl_call rfl Tryz.call49 (C_strings_Split w43 u48 [32] _ hu52) rfl ?_
   rintro _ w55 ⟨v53, F54, rfl, hb56, hM59⟩
   refine ⟨_, rfl, ?_⟩
   have hB57 := hB44.trans (hb56.mono hB44.size)
   have hS58 := hS45.join hb56 hM59 hB44.size
   have hp50 := hp50.keepS (fun b hb => hb56.block b (((hS45.get (i := 3) rfl).2.1 b hb).2)) (fun _ h => h)
   refine wl_assign rfl rfl (WL.nil (fun a ha => hK47 _ _ (W.seq fun K60 hK60 => (W.seq fun K61 hK61 => ?_)) a ha))
   obtain ⟨k66, hk66, hF⟩ := jE1 hF
   have hJ67 : ∀ (y65 : Bool) (w62 : World) (_ : k66 y65 = some r) (_ : Below w0.heap.size w0 w62) (_ : Sep w0.heap.size w62 [R.blk b2 48 [(.int .i64 0), (.int .i64 0), (.int .i64 0), (.slice none 0 0)], R.own ty_9 F10 v9 u8.1, R.own ty_101 F33 v32 [], R.blk b38 48 [(.int .i64 0), (.int .i64 0), (.int .i64 0), v32], R.own ty_9 F54 v53 u52]), ∀ a, St 123 [(2, (.pointer (some ⟨b2, 0, none⟩))), (4, v9), (6, (.pointer (some ⟨b38, 0, none⟩))), (7, v53), (48, (.bool y65))] a → K61 a w62 := by
    intro y65 w62 hF hB63 hS64
    subst hk66
    refine fun a ha => hK61 _ _ (W.cond rfl (fun h68 => ?_) (fun h68 => ?_)) a ha
    ·replace hF := ifP h68 hF
     refine W.seq fun K69 hK69 => W.region (wl_build (zs := [(.int .i64 0), (.int .i64 0), (.int .i64 0), (.slice none 0 0)]) (out := [(.int .i64 0), (.int .i64 0), (.int .i64 0), (.slice none 0 0)]) (vs := []) (css := []) tf_48 pl_48 rfl rfl rfl rfl rfl (wl_store_blk (i := 0) (vs := [(.int .i64 0), (.int .i64 0), (.int .i64 0), (.slice none 0 0)]) (cs' := [(.int .i64 0), (.int .i64 0), (.int .i64 0), (.slice none 0 0)]) tf_48 rfl rfl rfl rfl hB63 hS64 rfl rfl ⟨rfl, rfl, rfl, rfl, trivial⟩ rfl ?_))
     intro w70 hk73 hB71 hS72
     refine wl_assign rfl rfl (WL.nil (fun a ha => hK69 _ _ (W.ret ?_) a ha))
     have hS74 := hS72.push0 (r := R.own ty_101 [] (.slice none 0 0) []) rfl fun _ => .inl ⟨rfl, rfl, rfl⟩
     have hr := Option.some.inj hF
     subst hr
     exact rets (vs := [(.agg #[(.int .i64 0), (.int .i64 0), (.int .i64 0), (.slice none 0 0)]), (.bool false)]) hQ rfl ⟨rv_cell (i := 0) tf_48 rfl hS72 rfl rfl rfl, rv_tmp rfl, trivial⟩ ⟨(.slice none 0 0), [], rfl, hB71, hS74.sel [0] rfl⟩
    ·replace hF := ifN h68 hF
     refine W.skip fun a ha => hK60 _ _ (W.seq fun K75 hK75 => (W.region (wl_move rfl rfl ?_))) a ha
     obtain ⟨u76, hu76, hF⟩ := bindE hF
     refine wl_indexoF (e := ty_9) (i := 4) Tryz.underlying92 rfl rfl rfl hS64 rfl hu76 ?_
     rintro p77 _ rfl hp78 ho79
     refine wl_load_p (vs := [(.string (mkS u76))]) (v := (.string (mkS u76))) tf_9 rfl rfl hp78 rfl rfl ?_
     obtain ⟨u80, hu80, hF⟩ := bindE hF
     refine wl_call rfl Tryz.call50 (C_impl_natural w62 u76 _ hu80) rfl ?_
     rintro _ w81 ⟨rfl, hb82⟩
     refine ⟨_, rfl, ?_⟩
     have hB83 := hB63.trans (hb82.mono hB63.size)
     have hS84 := hS64.below hb82
     have hp78 := hp78.keepS (fun b hb => hb82.block b (((hS64.get (i := 4) rfl).2.1 b hb).2)) (fun _ h => h)
     refine wl_move rfl rfl (wl_extract rfl rfl rfl (wl_extract rfl rfl rfl (wl_assign rfl rfl (wl_assign rfl rfl (WL.nil (fun a ha => hK75 _ _ (W.seq fun K86 hK86 => (W.region (wl_move rfl rfl ?_))) a ha))))))
     obtain ⟨u87, hu87, hF⟩ := bindE hF
     refine wl_indexoF (e := ty_9) (i := 4) Tryz.underlying92 rfl rfl rfl hS84 rfl hu87 ?_
     rintro p88 _ rfl hp89 ho90
     refine wl_load_p (vs := [(.string (mkS u87))]) (v := (.string (mkS u87))) tf_9 rfl rfl hp89 rfl rfl ?_
     obtain ⟨u91, hu91, hF⟩ := bindE hF
     refine wl_call rfl Tryz.call51 (C_impl_ParseSpot w81 u87 _ hu91) rfl ?_
     rintro _ w92 ⟨rfl, hb93⟩
     refine ⟨_, rfl, ?_⟩
     have hB94 := hB83.trans (hb93.mono hB83.size)
     have hS95 := hS84.below hb93
     have hp78 := hp78.keepS (fun b hb => hb93.block b (((hS84.get (i := 4) rfl).2.1 b hb).2)) (fun _ h => h)
     have hp89 := hp89.keepS (fun b hb => hb93.block b (((hS84.get (i := 4) rfl).2.1 b hb).2)) (fun _ h => h)
     refine wl_move rfl rfl (wl_extract rfl rfl rfl (wl_extract rfl rfl rfl (wl_alloc (cs := [(.int .i64 0), (.int .i64 0)]) tf_38 rfl rfl hB94 hS95 ?_)))
     intro b97 w98 hb99 hB100 hS101
     have hp78 := hp78.keepS (fun b hb => hb99.block b (((hS95.get (i := 4) rfl).2.1 b hb).2)) (fun _ h => h)
     have hp89 := hp89.keepS (fun b hb => hb99.block b (((hS95.get (i := 4) rfl).2.1 b hb).2)) (fun _ h => h)
     refine wl_store_blk (i := 0) (vs := [(.int .i64 u91.1.1), (.int .i64 u91.1.2)]) (cs' := [(.int .i64 u91.1.1), (.int .i64 u91.1.2)]) tf_38 rfl rfl rfl rfl hB100 hS101 rfl rfl ⟨rfl, rfl, trivial⟩ rfl ?_
     intro w102 hk105 hB103 hS104
     have hp78 := hp78.keepS (fun b hb => hk105.2.1 b (((hS101.get (i := 5) rfl).2.1 b hb).2) (hS101.disj (i := 5) (j := 0) rfl rfl rfl b hb)) (fun _ h => h)
     have hp89 := hp89.keepS (fun b hb => hk105.2.1 b (((hS101.get (i := 5) rfl).2.1 b hb).2) (hS101.disj (i := 5) (j := 0) rfl rfl rfl b hb)) (fun _ h => h)
     refine wl_assign rfl rfl (WL.nil (fun a ha => hK86 _ _ (W.seq fun K106 hK106 => (W.seq fun K107 hK107 => ?_)) a ha))
     obtain ⟨k112, hk112, hF⟩ := jE1 hF
     have hJ113 : ∀ (y111 : Bool) (w108 : World) (_ : k112 y111 = some r) (_ : Below w0.heap.size w0 w108) (_ : Sep w0.heap.size w108 [R.blk b2 48 [(.int .i64 0), (.int .i64 0), (.int .i64 0), (.slice none 0 0)], R.own ty_9 F10 v9 u8.1, R.own ty_101 F33 v32 [], R.blk b38 48 [(.int .i64 0), (.int .i64 0), (.int .i64 0), v32], R.blk b97 38 [(.int .i64 u91.1.1), (.int .i64 u91.1.2)]]), ∀ a, St 123 [(2, (.pointer (some ⟨b2, 0, none⟩))), (4, v9), (6, (.pointer (some ⟨b38, 0, none⟩))), (8, (.int .i64 u80.1)), (9, (.pointer (some ⟨b97, 0, none⟩))), (69, (.bool y111))] a → K107 a w108 := by
      intro y111 w108 hF hB109 hS110
      subst hk112
      refine fun a ha => hK107 _ _ (W.cond rfl (fun h114 => ?_) (fun h114 => ?_)) a ha
      ·replace hF := ifP h114 hF
       refine W.seq fun K115 hK115 => W.region (wl_build (zs := [(.int .i64 0), (.int .i64 0), (.int .i64 0), (.slice none 0 0)]) (out := [(.int .i64 0), (.int .i64 0), (.int .i64 0), (.slice none 0 0)]) (vs := []) (css := []) tf_48 pl_48 rfl rfl rfl rfl rfl (wl_store_blk (i := 0) (vs := [(.int .i64 0), (.int .i64 0), (.int .i64 0), (.slice none 0 0)]) (cs' := [(.int .i64 0), (.int .i64 0), (.int .i64 0), (.slice none 0 0)]) tf_48 rfl rfl rfl rfl hB109 hS110 rfl rfl ⟨rfl, rfl, rfl, rfl, trivial⟩ rfl ?_))
       intro w116 hk119 hB117 hS118
       refine wl_assign rfl rfl (WL.nil (fun a ha => hK115 _ _ (W.ret ?_) a ha))
       have hS120 := hS118.push0 (r := R.own ty_101 [] (.slice none 0 0) []) rfl fun _ => .inl ⟨rfl, rfl, rfl⟩
       have hr := Option.some.inj hF
       subst hr
       exact rets (vs := [(.agg #[(.int .i64 0), (.int .i64 0), (.int .i64 0), (.slice none 0 0)]), (.bool false)]) hQ rfl ⟨rv_cell (i := 0) tf_48 rfl hS118 rfl rfl rfl, rv_tmp rfl, trivial⟩ ⟨(.slice none 0 0), [], rfl, hB117, hS120.sel [0] rfl⟩
      ·replace hF := ifN h114 hF
       refine W.skip fun a ha => hK106 _ _ (W.seq fun K121 hK121 => (W.regionH mixed_ [b38] hB109 hS110 ?_)) a ha
       intro w122 hb123 hB124 hS125
       have hSW126 := KeepX.refl w122 [b38]
       refine WH.tk 0 rfl hP hSW126 (pr_move rfl rfl (WH.tk 1 rfl hP hSW126 (pr_load_blk (i := 4) (vs := [(.int .i64 u91.1.1), (.int .i64 u91.1.2)]) (v := (.agg #[(.int .i64 u91.1.1), (.int .i64 u91.1.2)])) tf_38 rfl rfl hS125 rfl rfl rfl (hS125.disj (i := 4) (j := 3) rfl rfl rfl b97 (by simp [R.blk])) (WH.tk 2 rfl hP hSW126 (pr_field (o := 0) (off' := 0) ff_48_0 rfl rfl rfl (WH.on1 3 rfl (wl_store_blk (i := 3) (vs := [(.int .i64 u80.1)]) (cs' := [(.int .i64 u80.1), (.int .i64 0), (.int .i64 0), v32]) tf_3 rfl rfl rfl rfl hB124 hS125 rfl rfl ⟨rfl, trivial⟩ rfl ?_)))))))
       intro w127 hk130 hB128 hS129
       have hSW131 := hSW126.wr' hk130.1 hk130.2.1 (fun _ _ h => h)
       have hbs132 : ∀ b, b < w122.heap.size → b ∈ [b38] → b ∈ [b38] := fun b hlt hb => (hk130.2.2 b hb).elim ((fun _ _ h => h) b hlt) (fun h => absurd hlt (Nat.not_lt.2 (Nat.le_trans hSW126.size h)))
       refine WL.nil (WH.ret hSW131 (WH.tk 4 rfl hP hSW131 (pr_field (o := 1) (off' := 1) ff_48_1 rfl rfl rfl (WH.on1 5 rfl (wl_store_blk (i := 3) (vs := [(.int .i64 u91.1.1), (.int .i64 u91.1.2)]) (cs' := [(.int .i64 u80.1), (.int .i64 u91.1.1), (.int .i64 u91.1.2), v32]) tf_38 rfl rfl rfl rfl hB128 hS129 rfl rfl ⟨rfl, rfl, trivial⟩ rfl ?_)))))
       intro w133 hk136 hB134 hS135
       have hSW137 := hSW131.wr' hk136.1 hk136.2.1 (hbs132)
       refine WL.nil (WH.ret hSW137 (WH.done (by kernel_rfl) (fun a ha => hK121 _ _ (W.seq fun K139 hK139 => (W.seq fun K140 hK140 => (W.region (wl_move rfl rfl ?_)))) a ha)))
       obtain ⟨u141, hu141, hF⟩ := bindE hF
       refine wl_sliceof (e := ty_9) Tryz.underlying92 rfl rfl (hS135.ok (i := 1) rfl : ownS ty_9 _ _ _ _).rd hu141 (.inr ⟨_, _, rfl, rfl⟩) (.inl ⟨rfl, rfl⟩) ?_
       intro v142 hv145 hs144
       refine wl_lenr (e := ty_9) (l := u141) Tryz.underlying92 rfl rfl (hv145.mono (fun b hb => ((hS135.get (i := 1) rfl).2.1 b hb).2)) (wl_move rfl rfl (WL.nil (fun a ha => hK140 _ _ (W.block (W.loopk (fun m a w146 => ∃ (l149 : (List (Int × (Int × Int)))) (y153 : Int) (v150 : Value) (F151 : List Nat), St 123 [(2, (.pointer (some ⟨b2, 0, none⟩))), (6, (.pointer (some ⟨b38, 0, none⟩))), (76, v142), (77, (.int .i64 (List.length u141 : Int))), (78, (.int .i64 y153))] a ∧ Below w0.heap.size w0 w146 ∧ Sep w0.heap.size w146 [R.blk b2 48 [(.int .i64 0), (.int .i64 0), (.int .i64 0), (.slice none 0 0)], R.own ty_101 F151 v150 l149, R.blk b38 48 [(.int .i64 u80.1), (.int .i64 u91.1.1), (.int .i64 u91.1.2), v150], R.own ty_9 F10 v9 u8.1] ∧ (rdS ty_9 (· ∈ F10) w146 v142 u141) ∧ F_impl_ParseSheet_L1 u141 u80 u91 m l149 y153 = some r) FU ?_ ?_)) a ha)))
       ·
        exact fun a ha => ⟨[], 0, v32, F33, ha.sub ⟨rfl, rfl, rfl, rfl, rfl, trivial⟩, hB134, (hS135.sel [0, 2, 3, 1] rfl), hv145, hF⟩
       ·
        rintro m156 a w146 ⟨l149, y153, v150, F151, ha, hB147, hS148, hr152, hF⟩ KL155 hKL155
        refine W.at ?_ ha
        cases m156 with
        | zero => exact noneE hF
        | succ m156 =>
         obtain ⟨nx154, hnx154⟩ : ∃ k, k = F_impl_ParseSheet_L1 u141 u80 u91 m156 := ⟨_, rfl⟩
         rw [F_impl_ParseSheet_L1, ← hnx154] at hF
         refine W.seq fun K157 hK157 => W.region (wl_lss rfl rfl rfl (WL.nil (fun a ha => hK157 _ _ (W.seq fun K158 hK158 => (W.cond rfl (fun h159 => ?_) (fun h159 => ?_))) a ha)))
         ·replace hF := ifP h159 hF
          refine W.skip fun a ha => hK158 _ _ (W.seq fun K160 hK160 => (W.block (W.seq fun K161 hK161 => (W.region ?_)))) a ha
          obtain ⟨u162, hu162, hF⟩ := bindE hF
          refine wl_index (e := ty_9) Tryz.underlying92 rfl rfl rfl (hr152.mono (fun b hb => ((hS148.get (i := 3) rfl).2.1 b hb).2)) hu162 ?_
          rintro p163 _ rfl hp164
          refine wl_load_p (vs := [(.string (mkS u162))]) (v := (.string (mkS u162))) tf_9 rfl rfl hp164 rfl rfl (wl_assign rfl rfl (WL.nil (fun a ha => hK161 _ _ (W.seq fun K165 hK165 => (W.region (wl_move rfl rfl ?_))) a ha)))
          obtain ⟨u166, hu166, hF⟩ := bindE hF
          refine wl_call rfl Tryz.call52 (C_strings_Cut w146 u162 [32] _ hu166) rfl ?_
          rintro _ w167 ⟨rfl, hb168⟩
          refine ⟨_, rfl, ?_⟩
          have hB169 := hB147.trans (hb168.mono hB147.size)
          have hS170 := hS148.below hb168
          have hr152 := hr152.keep (fun b hb => hb168.block b (((hS148.get (i := 3) rfl).2.1 b hb).2))
          refine wl_move rfl rfl (wl_extract rfl rfl rfl (wl_extract rfl rfl rfl (wl_extract rfl rfl rfl (wl_assign rfl rfl (wl_assign rfl rfl (wl_assign rfl rfl (WL.nil (fun a ha => hK165 _ _ (W.seq fun K172 hK172 => (W.region (wl_move rfl rfl ?_))) a ha))))))))
          obtain ⟨u173, hu173, hF⟩ := bindE hF
          refine wl_call rfl Tryz.call50 (C_impl_natural w167 u166.1 _ hu173) rfl ?_
          rintro _ w174 ⟨rfl, hb175⟩
          refine ⟨_, rfl, ?_⟩
          have hB176 := hB169.trans (hb175.mono hB169.size)
          have hS177 := hS170.below hb175
          have hr152 := hr152.keep (fun b hb => hb175.block b (((hS170.get (i := 3) rfl).2.1 b hb).2))
          refine wl_move rfl rfl (wl_extract rfl rfl rfl (wl_extract rfl rfl rfl (wl_assign rfl rfl (wl_assign rfl rfl (WL.nil (fun a ha => hK172 _ _ (W.seq fun K179 hK179 => (W.region (wl_move rfl rfl ?_))) a ha))))))
          obtain ⟨u180, hu180, hF⟩ := bindE hF
          refine wl_call rfl Tryz.call51 (C_impl_ParseSpot w174 u166.2.1 _ hu180) rfl ?_
          rintro _ w181 ⟨rfl, hb182⟩
          refine ⟨_, rfl, ?_⟩
          have hB183 := hB176.trans (hb182.mono hB176.size)
          have hS184 := hS177.below hb182
          have hr152 := hr152.keep (fun b hb => hb182.block b (((hS177.get (i := 3) rfl).2.1 b hb).2))
          refine wl_move rfl rfl (wl_extract rfl rfl rfl (wl_extract rfl rfl rfl (wl_alloc (cs := [(.int .i64 0), (.int .i64 0)]) tf_38 rfl rfl hB183 hS184 ?_)))
          intro b186 w187 hb188 hB189 hS190
          have hr152 := hr152.keep (fun b hb => hb188.block b (((hS184.get (i := 3) rfl).2.1 b hb).2))
          refine wl_store_blk (i := 0) (vs := [(.int .i64 u180.1.1), (.int .i64 u180.1.2)]) (cs' := [(.int .i64 u180.1.1), (.int .i64 u180.1.2)]) tf_38 rfl rfl rfl rfl hB189 hS190 rfl rfl ⟨rfl, rfl, trivial⟩ rfl ?_
          intro w191 hk194 hB192 hS193
          have hr152 := hr152.keep (fun b hb => hk194.2.1 b (((hS190.get (i := 4) rfl).2.1 b hb).2) (hS190.disj (i := 4) (j := 0) rfl rfl rfl b hb))
          refine wl_assign rfl rfl (WL.nil (fun a ha => hK179 _ _ (W.seq fun K195 hK195 => (W.seq fun K196 hK196 => ?_)) a ha))
          obtain ⟨k202, hk202, hF⟩ := jE1 hF
          have hJ203 : ∀ (y201 : Bool) (w197 : World) (hr200 : rdS ty_9 (· ∈ F10) w197 v142 u141) (_ : k202 y201 = some r) (_ : Below w0.heap.size w0 w197) (_ : Sep w0.heap.size w197 [R.blk b2 48 [(.int .i64 0), (.int .i64 0), (.int .i64 0), (.slice none 0 0)], R.own ty_101 F151 v150 l149, R.blk b38 48 [(.int .i64 u80.1), (.int .i64 u91.1.1), (.int .i64 u91.1.2), v150], R.blk b186 38 [(.int .i64 u180.1.1), (.int .i64 u180.1.2)], R.own ty_9 F10 v9 u8.1]), ∀ a, St 123 [(2, (.pointer (some ⟨b2, 0, none⟩))), (6, (.pointer (some ⟨b38, 0, none⟩))), (16, (.int .i64 u173.1)), (18, (.pointer (some ⟨b186, 0, none⟩))), (76, v142), (77, (.int .i64 (List.length u141 : Int))), (78, (.int .i64 y153)), (107, (.bool y201))] a → K196 a w197 := by
           intro y201 w197 hr200 hF hB198 hS199
           subst hk202
           refine fun a ha => hK196 _ _ (W.cond rfl (fun h204 => ?_) (fun h204 => ?_)) a ha
           ·replace hF := ifP h204 hF
            refine W.seq fun K205 hK205 => W.region (wl_build (zs := [(.int .i64 0), (.int .i64 0), (.int .i64 0), (.slice none 0 0)]) (out := [(.int .i64 0), (.int .i64 0), (.int .i64 0), (.slice none 0 0)]) (vs := []) (css := []) tf_48 pl_48 rfl rfl rfl rfl rfl (wl_store_blk (i := 0) (vs := [(.int .i64 0), (.int .i64 0), (.int .i64 0), (.slice none 0 0)]) (cs' := [(.int .i64 0), (.int .i64 0), (.int .i64 0), (.slice none 0 0)]) tf_48 rfl rfl rfl rfl hB198 hS199 rfl rfl ⟨rfl, rfl, rfl, rfl, trivial⟩ rfl ?_))
            intro w206 hk209 hB207 hS208
            have hr200 := hr200.keep (fun b hb => hk209.2.1 b (((hS199.get (i := 4) rfl).2.1 b hb).2) (hS199.disj (i := 4) (j := 0) rfl rfl rfl b hb))
            refine wl_assign rfl rfl (WL.nil (fun a ha => hK205 _ _ (W.ret ?_) a ha))
            have hS210 := hS208.push0 (r := R.own ty_101 [] (.slice none 0 0) []) rfl fun _ => .inl ⟨rfl, rfl, rfl⟩
            have hr := Option.some.inj hF
            subst hr
            exact rets (vs := [(.agg #[(.int .i64 0), (.int .i64 0), (.int .i64 0), (.slice none 0 0)]), (.bool false)]) hQ rfl ⟨rv_cell (i := 0) tf_48 rfl hS208 rfl rfl rfl, rv_tmp rfl, trivial⟩ ⟨(.slice none 0 0), [], rfl, hB207, hS210.sel [0] rfl⟩
           ·replace hF := ifN h204 hF
            refine W.skip fun a ha => hK195 _ _ (W.region (wl_field (o := 3) (off' := 3) ff_48_2 rfl rfl rfl (wl_load_blk (i := 2) (vs := [v150]) (v := v150) tf_46 rfl rfl hS199 rfl rfl rfl (wl_move rfl rfl (wl_load_blk (i := 3) (vs := [(.int .i64 u180.1.1), (.int .i64 u180.1.2)]) (v := (.agg #[(.int .i64 u180.1.1), (.int .i64 u180.1.2)])) tf_38 rfl rfl hS199 rfl rfl rfl (wl_build (zs := [(.int .i64 0), (.int .i64 0), (.int .i64 0)]) (out := [(.int .i64 u173.1), (.int .i64 u180.1.1), (.int .i64 u180.1.2)]) (vs := [(.int .i64 u173.1), (.agg #[(.int .i64 u180.1.1), (.int .i64 u180.1.2)])]) (css := [[(.int .i64 u173.1)], [(.int .i64 u180.1.1), (.int .i64 u180.1.2)]]) tf_101 pl_101 rfl rfl rfl rfl rfl (wl_lit (vs := [(.agg #[(.int .i64 u173.1), (.int .i64 u180.1.1), (.int .i64 u180.1.2)])]) (l := [(u173.1, u180.1)]) fl_101 Tryz.underlying46 rfl rfl rfl rfl rfl rfl hB198 hS199 ?_))))))) a ha
            intro v211 F212 w213 hb214 hB215 hS216
            have hr200 := hr200.keep (fun b hb => hb214.block b (((hS199.get (i := 4) rfl).2.1 b hb).2))
            obtain ⟨u217, hu217, hF⟩ := bindE hF
            refine wl_append (i := 2) (S := (· < w213.heap.size)) fl_101 Tryz.underlying46 rfl rfl rfl hB215 hS216 rfl (hS216.own_ro (i := 0) rfl) hu217 ?_
            intro v218 F219 w220 hk221 hB222 hS223
            have hr200 := hr200.keep (fun b hb => hk221.2.1 b (((hS216.get (i := 5) rfl).2.1 b hb).2) (hS216.disj (i := 5) (j := 2) rfl rfl rfl b hb))
            refine wl_field (o := 3) (off' := 3) ff_48_2 rfl rfl rfl (wl_store_blk (i := 3) (vs := [v218]) (cs' := [(.int .i64 u80.1), (.int .i64 u91.1.1), (.int .i64 u91.1.2), v218]) tf_46 rfl rfl (cells_one (hS223.own_ro (i := 2) rfl).one) rfl hB222 hS223 rfl rfl ⟨(hS223.own_ro (i := 2) rfl).one, trivial⟩ rfl ?_)
            intro w224 hk227 hB225 hS226
            have hr200 := hr200.keep (fun b hb => hk227.2.1 b (((hS223.get (i := 5) rfl).2.1 b hb).2) (hS223.disj (i := 5) (j := 3) rfl rfl rfl b hb))
            refine WL.nil fun a ha => hK160 _ _ (W.region (wl_add rfl rfl rfl (wl_move rfl rfl (WL.nil ?_)))) a ha
            rw [hnx154] at hF
            exact fun a ha => hKL155 a _ m156 (Nat.lt_succ_self m156) ⟨u217, (w64 (y153 + 1)), v218, F219, ha.sub ⟨rfl, rfl, rfl, rfl, rfl, trivial⟩, hB225, (hS226.sel [1, 2, 3, 5] rfl), hr200, hF⟩
          refine W.region (wl_move rfl rfl (wl_not rfl rfl (wl_move rfl rfl ?_)))
          rcases bE (!u166.2.2) with h228 | h228
          ·replace hF := ifP h228 hF
           refine wl_off rfl rfl rfl h228 (wl_off rfl rfl rfl h228 (wl_pick_t rfl rfl h228 rfl (wl_move rfl rfl (wl_off rfl rfl rfl rfl (wl_off rfl rfl rfl rfl (wl_pick_t rfl rfl rfl rfl (WL.nil ?_)))))))
           exact fun a ha => hJ203 (true) _ hr152 hF hB192 (hS193.sel [1, 2, 3, 0, 4] rfl) a (ha.sub ⟨rfl, rfl, rfl, rfl, rfl, rfl, rfl, rfl, trivial⟩)
          ·replace hF := ifN h228 hF
           refine wl_on rfl rfl h228 (wl_move rfl rfl (wl_on rfl rfl h228 (wl_not rfl rfl (wl_pick_f rfl rfl h228 rfl (wl_move rfl rfl ?_)))))
           rcases bE (!u173.2) with h229 | h229
           ·replace hF := ifP h229 hF
            refine wl_off rfl rfl rfl h229 (wl_off rfl rfl rfl h229 (wl_pick_t rfl rfl h229 rfl (WL.nil ?_)))
            exact fun a ha => hJ203 (true) _ hr152 hF hB192 (hS193.sel [1, 2, 3, 0, 4] rfl) a (ha.sub ⟨rfl, rfl, rfl, rfl, rfl, rfl, rfl, rfl, trivial⟩)
           ·replace hF := ifN h229 hF
            refine wl_on rfl rfl h229 (wl_move rfl rfl (wl_on rfl rfl h229 (wl_not rfl rfl (wl_pick_f rfl rfl h229 rfl (WL.nil ?_)))))
            exact fun a ha => hJ203 ((!u180.2)) _ hr152 hF hB192 (hS193.sel [1, 2, 3, 0, 4] rfl) a (ha.sub ⟨rfl, rfl, rfl, rfl, rfl, rfl, rfl, rfl, trivial⟩)
         ·replace hF := ifN h159 hF
          refine W.exit fun a ha => hK139 _ _ (W.seq fun K230 hK230 => (W.seq fun K231 hK231 => (W.region (wl_load_blk (i := 2) (vs := [(.int .i64 u80.1), (.int .i64 u91.1.1), (.int .i64 u91.1.2), v150]) (v := (.agg #[(.int .i64 u80.1), (.int .i64 u91.1.1), (.int .i64 u91.1.2), v150])) tf_48 rfl rfl hS148 rfl rfl rfl ?_)))) a ha
          obtain ⟨u232, hu232, hF⟩ := bindE hF
          refine wl_call rfl Tryz.call44 (C_impl_IsSheet w146 (u80.1, u91.1, l149) v150 (hS148.own_ro (i := 1) rfl) _ hu232) rfl ?_
          rintro _ w233 ⟨rfl, hb234⟩
          refine ⟨_, rfl, ?_⟩
          have hB235 := hB147.trans (hb234.mono hB147.size)
          have hS236 := hS148.below hb234
          have hr152 := hr152.keep (fun b hb => hb234.block b (((hS148.get (i := 3) rfl).2.1 b hb).2))
          refine wl_not rfl rfl (WL.nil (fun a ha => hK231 _ _ (W.cond rfl (fun h238 => ?_) (fun h238 => ?_)) a ha))
          ·replace hF := ifP h238 hF
           refine W.seq fun K239 hK239 => W.region (wl_build (zs := [(.int .i64 0), (.int .i64 0), (.int .i64 0), (.slice none 0 0)]) (out := [(.int .i64 0), (.int .i64 0), (.int .i64 0), (.slice none 0 0)]) (vs := []) (css := []) tf_48 pl_48 rfl rfl rfl rfl rfl (wl_store_blk (i := 0) (vs := [(.int .i64 0), (.int .i64 0), (.int .i64 0), (.slice none 0 0)]) (cs' := [(.int .i64 0), (.int .i64 0), (.int .i64 0), (.slice none 0 0)]) tf_48 rfl rfl rfl rfl hB235 hS236 rfl rfl ⟨rfl, rfl, rfl, rfl, trivial⟩ rfl ?_))
           intro w240 hk243 hB241 hS242
           have hr152 := hr152.keep (fun b hb => hk243.2.1 b (((hS236.get (i := 3) rfl).2.1 b hb).2) (hS236.disj (i := 3) (j := 0) rfl rfl rfl b hb))
           refine wl_assign rfl rfl (WL.nil (fun a ha => hK239 _ _ (W.ret ?_) a ha))
           have hS244 := hS242.push0 (r := R.own ty_101 [] (.slice none 0 0) []) rfl fun _ => .inl ⟨rfl, rfl, rfl⟩
           have hr := Option.some.inj hF
           subst hr
           exact rets (vs := [(.agg #[(.int .i64 0), (.int .i64 0), (.int .i64 0), (.slice none 0 0)]), (.bool false)]) hQ rfl ⟨rv_cell (i := 0) tf_48 rfl hS242 rfl rfl rfl, rv_tmp rfl, trivial⟩ ⟨(.slice none 0 0), [], rfl, hB241, hS244.sel [0] rfl⟩
          ·replace hF := ifN h238 hF
           refine W.skip fun a ha => hK230 _ _ (W.seq fun K245 hK245 => (W.region (wl_load_blk (i := 2) (vs := [(.int .i64 u80.1), (.int .i64 u91.1.1), (.int .i64 u91.1.2), v150]) (v := (.agg #[(.int .i64 u80.1), (.int .i64 u91.1.1), (.int .i64 u91.1.2), v150])) tf_48 rfl rfl hS236 rfl rfl rfl (wl_store_blk (i := 0) (vs := [(.int .i64 u80.1), (.int .i64 u91.1.1), (.int .i64 u91.1.2), v150]) (cs' := [(.int .i64 u80.1), (.int .i64 u91.1.1), (.int .i64 u91.1.2), v150]) tf_48 rfl rfl rfl rfl hB235 hS236 rfl rfl ⟨rfl, rfl, rfl, (hS236.own_ro (i := 1) rfl).one, trivial⟩ rfl ?_)))) a ha
           intro w246 hk249 hB247 hS248
           have hr152 := hr152.keep (fun b hb => hk249.2.1 b (((hS236.get (i := 3) rfl).2.1 b hb).2) (hS236.disj (i := 3) (j := 0) rfl rfl rfl b hb))
           refine wl_assign rfl rfl (WL.nil (fun a ha => hK245 _ _ (W.ret ?_) a ha))
           have hr := Option.some.inj hF
           subst hr
           exact rets (vs := [(.agg #[(.int .i64 u80.1), (.int .i64 u91.1.1), (.int .i64 u91.1.2), v150]), (.bool true)]) hQ rfl ⟨rv_cell (i := 0) tf_48 rfl hS248 rfl rfl rfl, rv_tmp rfl, trivial⟩ ⟨v150, F151, rfl, hB247, hS248.sel [1] rfl⟩
     refine W.region (wl_move rfl rfl (wl_not rfl rfl (wl_move rfl rfl ?_)))
     rcases bE (!u80.2) with h250 | h250
     ·replace hF := ifP h250 hF
      refine wl_off rfl rfl rfl h250 (wl_off rfl rfl rfl h250 (wl_pick_t rfl rfl h250 rfl (WL.nil ?_)))
      exact fun a ha => hJ113 (true) _ hF hB103 (hS104.sel [1, 2, 3, 4, 0] rfl) a (ha.sub ⟨rfl, rfl, rfl, rfl, rfl, rfl, trivial⟩)
     ·replace hF := ifN h250 hF
      refine wl_on rfl rfl h250 (wl_move rfl rfl (wl_on rfl rfl h250 (wl_not rfl rfl (wl_pick_f rfl rfl h250 rfl (WL.nil ?_)))))
      exact fun a ha => hJ113 ((!u91.2)) _ hF hB103 (hS104.sel [1, 2, 3, 4, 0] rfl) a (ha.sub ⟨rfl, rfl, rfl, rfl, rfl, rfl, trivial⟩)
   refine W.region (wl_move rfl rfl (wl_lenr (e := ty_9) (l := u52) Tryz.underlying92 rfl rfl (hS58.own_ro (i := 0) rfl) (wl_neq rfl rfl rfl (wl_move rfl rfl ?_))))
   rcases bE ((List.length u52 : Int) != 3) with h251 | h251
   ·replace hF := ifP h251 hF
    refine wl_off rfl rfl rfl h251 (wl_off rfl rfl rfl h251 (wl_off rfl rfl rfl h251 (wl_off rfl rfl rfl h251 (wl_pick_t rfl rfl h251 rfl (WL.nil ?_)))))
    exact fun a ha => hJ67 (true) _ hF hB57 (hS58.sel [3, 4, 2, 1, 0] rfl) a (ha.sub ⟨rfl, rfl, rfl, rfl, rfl, trivial⟩)
   ·replace hF := ifN h251 hF
    refine wl_on rfl rfl h251 (wl_move rfl rfl (wl_on rfl rfl h251 ?_))
    obtain ⟨u252, hu252, hF⟩ := bindE hF
    refine wl_indexoF (e := ty_9) (i := 0) Tryz.underlying92 rfl rfl rfl hS58 rfl hu252 ?_
    rintro p253 _ rfl hp254 ho255
    refine wl_on rfl rfl h251 (wl_load_p (vs := [(.string (mkS u252))]) (v := (.string (mkS u252))) tf_9 rfl rfl hp254 rfl rfl (wl_on rfl rfl h251 (wl_strneq rfl rfl rfl (wl_pick_f rfl rfl h251 rfl (WL.nil ?_)))))
    exact fun a ha => hJ67 ((u252 != [112, 101, 114, 102, 111, 114, 109, 101, 114])) _ hF hB57 (hS58.sel [3, 4, 2, 1, 0] rfl) a (ha.sub ⟨rfl, rfl, rfl, rfl, rfl, trivial⟩)
 refine W.region (wl_move rfl rfl (wl_not rfl rfl (wl_move rfl rfl ?_)))
 rcases bE (!u8.2) with h256 | h256
 ·replace hF := ifP h256 hF
  refine wl_off rfl rfl rfl h256 (wl_off rfl rfl rfl h256 (wl_off rfl rfl rfl h256 (wl_off rfl rfl rfl h256 (wl_pick_t rfl rfl h256 rfl (WL.nil ?_)))))
  exact fun a ha => hJ23 (true) _ hF hB13 (hS14.sel [1, 0] rfl) a (ha.sub ⟨rfl, rfl, rfl, trivial⟩)
 ·replace hF := ifN h256 hF
  refine wl_on rfl rfl h256 (wl_move rfl rfl (wl_on rfl rfl h256 (wl_lenr (e := ty_9) (l := u8.1) Tryz.underlying92 rfl rfl (hS14.own_ro (i := 0) rfl) (wl_on rfl rfl h256 ?_))))
  obtain ⟨u257, hu257, hF⟩ := bindE hF
  refine wl_call rfl Tryz.call38 (C_impl_within w11 (List.length u8.1 : Int) 1 9 _ hu257) rfl ?_
  rintro _ w258 ⟨rfl, hb259⟩
  refine ⟨_, rfl, ?_⟩
  have hB260 := hB13.trans (hb259.mono hB13.size)
  have hS261 := hS14.below hb259
  refine wl_on rfl rfl h256 (wl_not rfl rfl (wl_pick_f rfl rfl h256 rfl (WL.nil ?_)))
  exact fun a ha => hJ23 ((!u257)) _ hF hB260 (hS261.sel [1, 0] rfl) a (ha.sub ⟨rfl, rfl, rfl, trivial⟩)
theorem C_impl_copyInts (w0 : World) (x0 : (List Int)) (v0_0 : Value) (h0_0 : rdS ty_3 (· < w0.heap.size) w0 v0_0 x0) (r : (List Int)) (hF : F_impl_copyInts x0 = some r) :
  Calls Tryz.prog 89 [v0_0].toArray w0 fun e w' => ∃ (q0 : Value) (G0 : List Nat), e = .returned q0 ∧ Below w0.heap.size w0 w' ∧ Sep w0.heap.size w' [R.own ty_3 G0 q0 r] := by
 refine calls_mk' Tryz.func89 rfl Tryz.ntmps89 rfl rfl fun Q hQ hP => ?_
 have hB : Below w0.heap.size w0 w0 := Below.refl _ _
 have hS : Sep w0.heap.size w0 [] := Sep.nil _ _
 unfold F_impl_copyInts at hF
 refine W.seq fun K1 hK1 => W.region (wl_assign rfl rfl (WL.nil (fun a ha => hK1 _ _ (W.seq fun K2 hK2 => (W.region (wl_lit (vs := []) (l := []) fl_3 Tryz.underlying25 rfl rfl rfl rfl rfl rfl hB hS ?_))) a ha)))
 intro v3 F4 w5 hb6 hB7 hS8
 refine wl_move rfl rfl ?_
 obtain ⟨u9, hu9, hF⟩ := bindE hF
 refine wl_append (i := 0) (S := (· < w5.heap.size)) fl_3 Tryz.underlying25 rfl rfl rfl hB7 hS8 rfl (h0_0.ro hB7) hu9 ?_
 intro v10 F11 w12 hk13 hB14 hS15
 refine wl_assign rfl rfl (WL.nil (fun a ha => hK2 _ _ (W.ret ?_) a ha))
 have hr := Option.some.inj hF
 subst hr
 exact rets (vs := [v10]) hQ rfl ⟨rv_tmp rfl, trivial⟩ ⟨v10, F11, rfl, hB14, hS15.sel [0] rfl⟩
theorem C_impl_copyShow (w0 : World) (x0 : ((List (List (Int × Int))) × (List Int) × Int × Int)) (v0_0 : Value) (h0_0 : rdS ty_51 (· < w0.heap.size) w0 v0_0 x0.1) (v0_1 : Value) (h0_1 : rdS ty_3 (· < w0.heap.size) w0 v0_1 x0.2.1) (r : ((List (List (Int × Int))) × (List Int) × Int × Int)) (hF : F_impl_copyShow x0 = some r) :
  Calls Tryz.prog 53 [(.agg #[v0_0, v0_1, (.int .i64 x0.2.2.1), (.int .i64 x0.2.2.2)])].toArray w0 fun e w' => ∃ (q0 : Value) (G0 : List Nat) (q1 : Value) (G1 : List Nat), e = .returned (.agg #[q0, q1, (.int .i64 r.2.2.1), (.int .i64 r.2.2.2)]) ∧ Below w0.heap.size w0 w' ∧ Sep w0.heap.size w' [R.own ty_51 G0 q0 r.1, R.own ty_3 G1 q1 r.2.1] := by
 refine calls_mk' Tryz.func53 rfl Tryz.ntmps53 rfl rfl fun Q hQ hP => ?_
 have hB : Below w0.heap.size w0 w0 := Below.refl _ _
 have hS : Sep w0.heap.size w0 [] := Sep.nil _ _
 unfold F_impl_copyShow at hF
 refine W.seq fun K1 hK1 => W.region (wl_box (cs := [v0_0, v0_1, (.int .i64 x0.2.2.1), (.int .i64 x0.2.2.2)]) rfl rfl rfl hB hS ?_)
 intro b2 w3 hb4 hB5 hS6
 refine wl_alloc (cs := [(.slice none 0 0), (.slice none 0 0), (.int .i64 0), (.int .i64 0)]) tf_27 rfl rfl hB5 hS6 ?_
 intro b7 w8 hb9 hB10 hS11
 refine WL.nil fun a ha => hK1 _ _ (W.seq fun K12 hK12 => ?_) a ha
 obtain ⟨k25, hk25, hF⟩ := jE4 hF
 have hJ26 : ∀ (l17 : (List (List (Int × Int)))) (l20 : (List Int)) (y23 : Int) (y24 : Int) (v18 : Value) (F19 : List Nat) (v21 : Value) (F22 : List Nat) (b16 : Nat) (w13 : World) (_ : k25 l17 l20 y23 y24 = some r) (_ : Below w0.heap.size w0 w13) (_ : Sep w0.heap.size w13 [R.blk b2 27 [v0_0, v0_1, (.int .i64 x0.2.2.1), (.int .i64 x0.2.2.2)], R.blk b7 27 [(.slice none 0 0), (.slice none 0 0), (.int .i64 0), (.int .i64 0)], R.own ty_51 F19 v18 l17, R.own ty_3 F22 v21 l20, R.blk b16 27 [v18, v21, (.int .i64 y23), (.int .i64 y24)]]), ∀ a, St 32 [(1, (.pointer (some ⟨b2, 0, none⟩))), (2, (.pointer (some ⟨b7, 0, none⟩))), (3, (.pointer (some ⟨b16, 0, none⟩)))] a → K12 a w13 := by
  intro l17 l20 y23 y24 v18 F19 v21 F22 b16 w13 hF hB14 hS15
  subst hk25
  refine fun a ha => hK12 _ _ (W.seq fun K27 hK27 => (W.seq fun K28 hK28 => (W.region (wl_field (o := 0) (off' := 0) ff_27_0 rfl rfl rfl (wl_load_blk (i := 0) (vs := [v0_0]) (v := v0_0) tf_24 rfl rfl hS15 rfl rfl rfl (wl_lenr (e := ty_51) (l := x0.1) Tryz.underlying24 rfl rfl h0_0 (wl_move rfl rfl (WL.nil (fun a ha => hK28 _ _ (W.block ?_) a ha))))))))) a ha
  refine W.loopk (fun m a w29 => ∃ (l32 : (List (List (Int × Int)))) (y35 : Int) (v33 : Value) (F34 : List Nat), St 32 [(2, (.pointer (some ⟨b7, 0, none⟩))), (3, (.pointer (some ⟨b16, 0, none⟩))), (16, v0_0), (17, (.int .i64 (List.length x0.1 : Int))), (18, (.int .i64 y35))] a ∧ Below w0.heap.size w0 w29 ∧ Sep w0.heap.size w29 [R.blk b7 27 [(.slice none 0 0), (.slice none 0 0), (.int .i64 0), (.int .i64 0)], R.own ty_51 F34 v33 l32, R.own ty_3 F22 v21 l20, R.blk b16 27 [v33, v21, (.int .i64 y23), (.int .i64 y24)]] ∧ F_impl_copyShow_L1 x0 l20 y23 y24 m l32 y35 = some r) FU ?_ ?_
  ·
   exact fun a ha => ⟨l17, 0, v18, F19, ha.sub ⟨rfl, rfl, rfl, rfl, rfl, trivial⟩, hB14, (hS15.sel [1, 2, 3, 4] rfl), hF⟩
  ·
   rintro m38 a w29 ⟨l32, y35, v33, F34, ha, hB30, hS31, hF⟩ KL37 hKL37
   refine W.at ?_ ha
   cases m38 with
   | zero => exact noneE hF
   | succ m38 =>
    obtain ⟨nx36, hnx36⟩ : ∃ k, k = F_impl_copyShow_L1 x0 l20 y23 y24 m38 := ⟨_, rfl⟩
    rw [F_impl_copyShow_L1, ← hnx36] at hF
    refine W.seq fun K39 hK39 => W.region (wl_lss rfl rfl rfl (WL.nil (fun a ha => hK39 _ _ (W.seq fun K40 hK40 => (W.cond rfl (fun h41 => ?_) (fun h41 => ?_))) a ha)))
    ·replace hF := ifP h41 hF
     refine W.skip fun a ha => hK40 _ _ (W.seq fun K42 hK42 => ?_) a ha
     obtain ⟨k49, hk49, hF⟩ := jE1 hF
     have hJ50 : ∀ (l46 : (List (List (Int × Int)))) (v47 : Value) (F48 : List Nat) (w43 : World) (_ : k49 l46 = some r) (_ : Below w0.heap.size w0 w43) (_ : Sep w0.heap.size w43 [R.blk b7 27 [(.slice none 0 0), (.slice none 0 0), (.int .i64 0), (.int .i64 0)], R.own ty_51 F48 v47 l46, R.own ty_3 F22 v21 l20, R.blk b16 27 [v47, v21, (.int .i64 y23), (.int .i64 y24)]]), ∀ a, St 32 [(2, (.pointer (some ⟨b7, 0, none⟩))), (3, (.pointer (some ⟨b16, 0, none⟩))), (16, v0_0), (17, (.int .i64 (List.length x0.1 : Int))), (18, (.int .i64 y35))] a → K42 a w43 := by
      intro l46 v47 F48 w43 hF hB44 hS45
      subst hk49
      refine fun a ha => hK42 _ _ (W.region (wl_add rfl rfl rfl (wl_move rfl rfl (WL.nil ?_)))) a ha
      rw [hnx36] at hF
      exact fun a ha => hKL37 a _ m38 (Nat.lt_succ_self m38) ⟨l46, (w64 (y35 + 1)), v47, F48, ha.sub ⟨rfl, rfl, rfl, rfl, rfl, trivial⟩, hB44, (hS45.sel [0, 1, 2, 3] rfl), hF⟩
     refine W.block (W.seq fun K51 hK51 => (W.region ?_))
     obtain ⟨u52, hu52, hF⟩ := bindE hF
     refine wl_index (e := ty_51) Tryz.underlying24 rfl rfl rfl h0_0 hu52 ?_
     rintro p53 _ ⟨v55, rfl, hv56⟩ hp54
     refine wl_load_p (vs := [v55]) (v := v55) tf_51 rfl rfl (hp54.ro hB30) rfl rfl (wl_assign rfl rfl (WL.nil (fun a ha => hK51 _ _ (W.regionH mixed_ (F34 ++ [b16]) hB30 hS31 ?_) a ha)))
     intro w57 hb58 hB59 hS60
     have hSW61 := KeepX.refl w57 (F34 ++ [b16])
     refine WH.tk 0 rfl hP hSW61 (pr_field (o := 0) (off' := 0) ff_27_0 rfl rfl rfl (WH.tk 3 rfl hP hSW61 (pr_move rfl rfl (WH.many (is := [1, 2]) (by kernel_rfl) rfl (List.forall_mem_cons.2 ⟨⟨_, rfl, ?_⟩, List.forall_mem_cons.2 ⟨⟨_, rfl, ?_⟩, fun _ h => by cases h⟩⟩)))))
     ·
      refine wl_load_blk (i := 3) (vs := [v33]) (v := v33) tf_24 rfl rfl hS60 rfl rfl rfl (WL.nil (WH.ret hSW61 (WH.on1 2 rfl (wl_lit (vs := []) (l := []) fl_38 Tryz.underlying51 rfl rfl rfl rfl rfl rfl (Below.self w57) (Sep.nil _ _) ?_))))
      intro v62 F63 w65 hb66 hB69 hM70
      have hB67 := hB59.trans (hb66.mono hB59.size)
      have hS68 := hS60.join hb66 hM70 hB59.size
      have hn71 : ∀ b ∈ F63, w57.heap.size ≤ b := fun b hb => Nat.le_trans hSW61.size ((hM70.1 _ (List.mem_cons_self ..)).2.1 b hb).1
      have hSW72 := hSW61.ext hb66
      refine WL.nil (WH.ret hSW72 (WH.on1 4 rfl ?_))
      obtain ⟨u74, hu74, hF⟩ := bindE hF
      refine wl_append (i := 0) (S := (· < w65.heap.size)) fl_38 Tryz.underlying51 rfl rfl rfl hB67 hS68 rfl (hv56.ro hB67) hu74 ?_
      intro v75 F76 w77 hk78 hB79 hS80
      have hSW81 := hSW72.wr' hk78.1 hk78.2.1 (fun b hlt hb => absurd hlt (Nat.not_lt.2 (hn71 b hb)))
      refine WL.nil (WH.ret hSW81 (WH.on1 5 rfl ?_))
      have hq83 := hS80.sel [0, 1, 2, 3, 4] rfl
      have hq84 := hq83.head (r' := R.cel ty_51 F76 [v75] u74) (rfl) fun _ h0 => ⟨_, rfl, h0⟩
      refine wl_lit1 (e := ty_51) (vs := [v75]) Tryz.underlying24 rfl rfl (cells_one (hS80.own_ro (i := 0) rfl).one) rfl hB79 hq84 ?_
      intro v85 F86 w87 hb88 hf89 hB90 hS91
      have hSW93 := hSW81.ext hb88
      refine WL.nil (WH.ret hSW93 (WH.on1 6 rfl ?_))
      obtain ⟨u94, hu94, hF⟩ := bindE hF
      refine wl_appendn (e := ty_51) Tryz.underlying24 rfl rfl rfl hB90 (hS91.sel [2, 0, 1, 3, 4] rfl) hu94 ?_
      intro v95 F96 w97 hk98 hB99 hS100
      have hSW101 := hSW93.wr' hk98.1 hk98.2.1 (fun _ _ h => List.mem_append_left _ (h))
      refine WL.nil (WH.ret hSW101 (WH.tk 7 rfl hP hSW101 (pr_field (o := 0) (off' := 0) ff_27_0 rfl rfl rfl (WH.on1 8 rfl (wl_store_blk (i := 3) (vs := [v95]) (cs' := [v95, v21, (.int .i64 y23), (.int .i64 y24)]) tf_24 rfl rfl (cells_one (hS100.own_ro (i := 0) rfl).one) rfl hB99 hS100 rfl rfl ⟨(hS100.own_ro (i := 0) rfl).one, trivial⟩ rfl ?_)))))
      intro w103 hk106 hB104 hS105
      have hSW107 := hSW101.wr' hk106.1 hk106.2.1 (fun _ _ h => List.mem_append_right _ h)
      refine WL.nil (WH.ret hSW107 (WH.done (by kernel_rfl) ?_))
      exact fun a ha => hJ50 (u94) (v95) (F96) _ hF hB104 (hS105.sel [1, 0, 2, 3] rfl) a (ha.sub ⟨rfl, rfl, rfl, rfl, rfl, trivial⟩)
     ·
      refine wl_lit (vs := []) (l := []) fl_38 Tryz.underlying51 rfl rfl rfl rfl rfl rfl (Below.self w57) (Sep.nil _ _) ?_
      intro v109 F110 w111 hb112 hB115 hM116
      have hB113 := hB59.trans (hb112.mono hB59.size)
      have hS114 := hS60.join hb112 hM116 hB59.size
      have hn117 : ∀ b ∈ F110, w57.heap.size ≤ b := fun b hb => Nat.le_trans hSW61.size ((hM116.1 _ (List.mem_cons_self ..)).2.1 b hb).1
      have hSW118 := hSW61.ext hb112
      refine WL.nil (WH.ret hSW118 (WH.many (is := [1, 4]) (by kernel_rfl) rfl (List.forall_mem_cons.2 ⟨⟨_, rfl, ?_⟩, List.forall_mem_cons.2 ⟨⟨_, rfl, ?_⟩, fun _ h => by cases h⟩⟩)))
      ·
       refine wl_load_blk (i := 4) (vs := [v33]) (v := v33) tf_24 rfl rfl hS114 rfl rfl rfl (WL.nil (WH.ret hSW118 (WH.on1 4 rfl ?_)))
       obtain ⟨u120, hu120, hF⟩ := bindE hF
       refine wl_append (i := 0) (S := (· < w111.heap.size)) fl_38 Tryz.underlying51 rfl rfl rfl hB113 hS114 rfl (hv56.ro hB113) hu120 ?_
       intro v121 F122 w123 hk124 hB125 hS126
       have hSW127 := hSW118.wr' hk124.1 hk124.2.1 (fun b hlt hb => absurd hlt (Nat.not_lt.2 (hn117 b hb)))
       refine WL.nil (WH.ret hSW127 (WH.on1 5 rfl ?_))
       have hq129 := hS126.sel [0, 1, 2, 3, 4] rfl
       have hq130 := hq129.head (r' := R.cel ty_51 F122 [v121] u120) (rfl) fun _ h0 => ⟨_, rfl, h0⟩
       refine wl_lit1 (e := ty_51) (vs := [v121]) Tryz.underlying24 rfl rfl (cells_one (hS126.own_ro (i := 0) rfl).one) rfl hB125 hq130 ?_
       intro v131 F132 w133 hb134 hf135 hB136 hS137
       have hSW139 := hSW127.ext hb134
       refine WL.nil (WH.ret hSW139 (WH.on1 6 rfl ?_))
       obtain ⟨u140, hu140, hF⟩ := bindE hF
       refine wl_appendn (e := ty_51) Tryz.underlying24 rfl rfl rfl hB136 (hS137.sel [2, 0, 1, 3, 4] rfl) hu140 ?_
       intro v141 F142 w143 hk144 hB145 hS146
       have hSW147 := hSW139.wr' hk144.1 hk144.2.1 (fun _ _ h => List.mem_append_left _ (h))
       refine WL.nil (WH.ret hSW147 (WH.tk 7 rfl hP hSW147 (pr_field (o := 0) (off' := 0) ff_27_0 rfl rfl rfl (WH.on1 8 rfl (wl_store_blk (i := 3) (vs := [v141]) (cs' := [v141, v21, (.int .i64 y23), (.int .i64 y24)]) tf_24 rfl rfl (cells_one (hS146.own_ro (i := 0) rfl).one) rfl hB145 hS146 rfl rfl ⟨(hS146.own_ro (i := 0) rfl).one, trivial⟩ rfl ?_)))))
       intro w149 hk152 hB150 hS151
       have hSW153 := hSW147.wr' hk152.1 hk152.2.1 (fun _ _ h => List.mem_append_right _ h)
       refine WL.nil (WH.ret hSW153 (WH.done (by kernel_rfl) ?_))
       exact fun a ha => hJ50 (u140) (v141) (F142) _ hF hB150 (hS151.sel [1, 0, 2, 3] rfl) a (ha.sub ⟨rfl, rfl, rfl, rfl, rfl, trivial⟩)
      ·
       obtain ⟨u155, hu155, hF⟩ := bindE hF
       refine wl_append (i := 0) (S := (· < w111.heap.size)) fl_38 Tryz.underlying51 rfl rfl rfl hB113 hS114 rfl (hv56.ro hB113) hu155 ?_
       intro v156 F157 w158 hk159 hB160 hS161
       have hSW162 := hSW118.wr' hk159.1 hk159.2.1 (fun b hlt hb => absurd hlt (Nat.not_lt.2 (hn117 b hb)))
       refine WL.nil (WH.ret hSW162 (WH.many (is := [1, 5]) (by kernel_rfl) rfl (List.forall_mem_cons.2 ⟨⟨_, rfl, ?_⟩, List.forall_mem_cons.2 ⟨⟨_, rfl, ?_⟩, fun _ h => by cases h⟩⟩)))
       ·
        refine wl_load_blk (i := 4) (vs := [v33]) (v := v33) tf_24 rfl rfl hS161 rfl rfl rfl (WL.nil (WH.ret hSW162 (WH.on1 5 rfl ?_)))
        have hq164 := hS161.sel [0, 1, 2, 3, 4] rfl
        have hq165 := hq164.head (r' := R.cel ty_51 F157 [v156] u155) (rfl) fun _ h0 => ⟨_, rfl, h0⟩
        refine wl_lit1 (e := ty_51) (vs := [v156]) Tryz.underlying24 rfl rfl (cells_one (hS161.own_ro (i := 0) rfl).one) rfl hB160 hq165 ?_
        intro v166 F167 w168 hb169 hf170 hB171 hS172
        have hSW174 := hSW162.ext hb169
        refine WL.nil (WH.ret hSW174 (WH.on1 6 rfl ?_))
        obtain ⟨u175, hu175, hF⟩ := bindE hF
        refine wl_appendn (e := ty_51) Tryz.underlying24 rfl rfl rfl hB171 (hS172.sel [2, 0, 1, 3, 4] rfl) hu175 ?_
        intro v176 F177 w178 hk179 hB180 hS181
        have hSW182 := hSW174.wr' hk179.1 hk179.2.1 (fun _ _ h => List.mem_append_left _ (h))
        refine WL.nil (WH.ret hSW182 (WH.tk 7 rfl hP hSW182 (pr_field (o := 0) (off' := 0) ff_27_0 rfl rfl rfl (WH.on1 8 rfl (wl_store_blk (i := 3) (vs := [v176]) (cs' := [v176, v21, (.int .i64 y23), (.int .i64 y24)]) tf_24 rfl rfl (cells_one (hS181.own_ro (i := 0) rfl).one) rfl hB180 hS181 rfl rfl ⟨(hS181.own_ro (i := 0) rfl).one, trivial⟩ rfl ?_)))))
        intro w184 hk187 hB185 hS186
        have hSW188 := hSW182.wr' hk187.1 hk187.2.1 (fun _ _ h => List.mem_append_right _ h)
        refine WL.nil (WH.ret hSW188 (WH.done (by kernel_rfl) ?_))
        exact fun a ha => hJ50 (u175) (v176) (F177) _ hF hB185 (hS186.sel [1, 0, 2, 3] rfl) a (ha.sub ⟨rfl, rfl, rfl, rfl, rfl, trivial⟩)
       ·
        have hq190 := hS161.sel [0, 1, 2, 3, 4] rfl
        have hq191 := hq190.head (r' := R.cel ty_51 F157 [v156] u155) (rfl) fun _ h0 => ⟨_, rfl, h0⟩
        refine wl_lit1 (e := ty_51) (vs := [v156]) Tryz.underlying24 rfl rfl (cells_one (hS161.own_ro (i := 0) rfl).one) rfl hB160 hq191 ?_
        intro v192 F193 w194 hb195 hf196 hB197 hS198
        have hSW200 := hSW162.ext hb195
        refine WL.nil (WH.ret hSW200 (WH.on1 1 rfl (wl_load_blk (i := 4) (vs := [v33]) (v := v33) tf_24 rfl rfl hS198 rfl rfl rfl (WL.nil (WH.ret hSW200 (WH.on1 6 rfl ?_))))))
        obtain ⟨u201, hu201, hF⟩ := bindE hF
        refine wl_appendn (e := ty_51) Tryz.underlying24 rfl rfl rfl hB197 (hS198.sel [2, 0, 1, 3, 4] rfl) hu201 ?_
        intro v202 F203 w204 hk205 hB206 hS207
        have hSW208 := hSW200.wr' hk205.1 hk205.2.1 (fun _ _ h => List.mem_append_left _ (h))
        refine WL.nil (WH.ret hSW208 (WH.tk 7 rfl hP hSW208 (pr_field (o := 0) (off' := 0) ff_27_0 rfl rfl rfl (WH.on1 8 rfl (wl_store_blk (i := 3) (vs := [v202]) (cs' := [v202, v21, (.int .i64 y23), (.int .i64 y24)]) tf_24 rfl rfl (cells_one (hS207.own_ro (i := 0) rfl).one) rfl hB206 hS207 rfl rfl ⟨(hS207.own_ro (i := 0) rfl).one, trivial⟩ rfl ?_)))))
        intro w210 hk213 hB211 hS212
        have hSW214 := hSW208.wr' hk213.1 hk213.2.1 (fun _ _ h => List.mem_append_right _ h)
        refine WL.nil (WH.ret hSW214 (WH.done (by kernel_rfl) ?_))
        exact fun a ha => hJ50 (u201) (v202) (F203) _ hF hB211 (hS212.sel [1, 0, 2, 3] rfl) a (ha.sub ⟨rfl, rfl, rfl, rfl, rfl, trivial⟩)
    ·replace hF := ifN h41 hF
     refine W.exit fun a ha => hK27 _ _ (W.seq fun K216 hK216 => (W.region (wl_load_blk (i := 3) (vs := [v33, v21, (.int .i64 y23), (.int .i64 y24)]) (v := (.agg #[v33, v21, (.int .i64 y23), (.int .i64 y24)])) tf_27 rfl rfl hS31 rfl rfl rfl (wl_store_blk (i := 0) (vs := [v33, v21, (.int .i64 y23), (.int .i64 y24)]) (cs' := [v33, v21, (.int .i64 y23), (.int .i64 y24)]) tf_27 rfl rfl rfl rfl hB30 hS31 rfl rfl ⟨(hS31.own_ro (i := 1) rfl).one, (hS31.own_ro (i := 2) rfl).one, rfl, rfl, trivial⟩ rfl ?_)))) a ha
     intro w217 hk220 hB218 hS219
     refine WL.nil fun a ha => hK216 _ _ (W.ret ?_) a ha
     have hr := Option.some.inj hF
     subst hr
     exact rets (vs := [(.agg #[v33, v21, (.int .i64 y23), (.int .i64 y24)])]) hQ rfl ⟨rv_cell (i := 0) tf_27 rfl hS219 rfl rfl rfl, trivial⟩ ⟨v33, F34, v21, F22, rfl, hB218, hS219.sel [1, 2] rfl⟩
 refine W.regionH mixed_ [] hB10 hS11 ?_
 intro w221 hb222 hB223 hS224
 have hSW225 := KeepX.refl w221 []
 refine WH.tk 1 rfl hP hSW225 (pr_field (o := 1) (off' := 1) ff_27_1 rfl rfl rfl (WH.tk 2 rfl hP hSW225 (pr_load_blk (i := 1) (vs := [v0_1]) (v := v0_1) tf_25 rfl rfl hS224 rfl rfl rfl (by simp) (WH.tk 4 rfl hP hSW225 (pr_field (o := 2) (off' := 2) ff_27_2 rfl rfl rfl (WH.tk 5 rfl hP hSW225 (pr_load_blk (i := 1) (vs := [(.int .i64 x0.2.2.1)]) (v := (.int .i64 x0.2.2.1)) tf_3 rfl rfl hS224 rfl rfl rfl (by simp) (WH.tk 6 rfl hP hSW225 (pr_field (o := 3) (off' := 3) ff_27_3 rfl rfl rfl (WH.tk 7 rfl hP hSW225 (pr_load_blk (i := 1) (vs := [(.int .i64 x0.2.2.2)]) (v := (.int .i64 x0.2.2.2)) tf_3 rfl rfl hS224 rfl rfl rfl (by simp) (WH.many (is := [0, 3, 9]) (by kernel_rfl) rfl (List.forall_mem_cons.2 ⟨⟨_, rfl, ?_⟩, List.forall_mem_cons.2 ⟨⟨_, rfl, ?_⟩, List.forall_mem_cons.2 ⟨⟨_, rfl, ?_⟩, fun _ h => by cases h⟩⟩⟩)))))))))))))
 ·
  refine wl_lit0 (e := ty_51) Tryz.underlying24 rfl (Below.self w221) (Sep.nil _ _) ?_
  intro v226 F227 w228 hb229 hB232 hM233
  have hB230 := hB223.trans (hb229.mono hB223.size)
  have hS231 := hS224.join hb229 hM233 hB223.size
  have hSW235 := hSW225.ext hb229
  refine WL.nil (WH.ret hSW235 (WH.many (is := [3, 9]) (by kernel_rfl) rfl (List.forall_mem_cons.2 ⟨⟨_, rfl, ?_⟩, List.forall_mem_cons.2 ⟨⟨_, rfl, ?_⟩, fun _ h => by cases h⟩⟩)))
  ·
   obtain ⟨u236, hu236, hF⟩ := bindE hF
   refine wl_call rfl Tryz.call89 (C_impl_copyInts w228 x0.2.1 v0_1 (h0_1.ro hB230) _ hu236) rfl ?_
   rintro _ w239 ⟨v237, F238, rfl, hb240, hM243⟩
   refine ⟨_, rfl, ?_⟩
   have hB241 := hB230.trans (hb240.mono hB230.size)
   have hS242 := hS231.join hb240 hM243 hB230.size
   have hSW245 := hSW235.ext hb240
   refine WL.nil (WH.ret hSW245 (WH.tk 8 rfl hP hSW245 (pr_build (zs := [(.slice none 0 0), (.slice none 0 0), (.int .i64 0), (.int .i64 0)]) (out := [v226, v237, (.int .i64 x0.2.2.1), (.int .i64 x0.2.2.2)]) (vs := [v226, v237, (.int .i64 x0.2.2.1), (.int .i64 x0.2.2.2)]) (css := [[v226], [v237], [(.int .i64 x0.2.2.1)], [(.int .i64 x0.2.2.2)]]) tf_27 pl_27 rfl rfl (by simp only [List.map_cons, List.map_nil, cells_one ((hS242.own_ro (i := 1) rfl).one), cells_one ((hS242.own_ro (i := 0) rfl).one)] <;> rfl) rfl rfl (WH.on1 9 rfl (wl_alloc (cs := [(.slice none 0 0), (.slice none 0 0), (.int .i64 0), (.int .i64 0)]) tf_27 rfl rfl (Below.self w239) (Sep.nil _ _) ?_)))))
   intro b246 w247 hb248 hB251 hM252
   have hB249 := hB241.trans (hb248.mono hB241.size)
   have hS250 := hS242.join hb248 hM252 hB241.size
   have hn253 : ∀ b ∈ [b246], w221.heap.size ≤ b := fun b hb => Nat.le_trans hSW245.size ((hM252.1 _ (List.mem_cons_self ..)).2.1 b hb).1
   have hSW254 := hSW245.ext hb248
   refine WL.nil (WH.ret hSW254 (WH.on1 10 rfl (wl_store_blk (i := 0) (vs := [v226, v237, (.int .i64 x0.2.2.1), (.int .i64 x0.2.2.2)]) (cs' := [v226, v237, (.int .i64 x0.2.2.1), (.int .i64 x0.2.2.2)]) tf_27 rfl rfl rfl rfl hB249 hS250 rfl rfl ⟨(hS250.own_ro (i := 2) rfl).one, (hS250.own_ro (i := 1) rfl).one, rfl, rfl, trivial⟩ rfl ?_)))
   intro w255 hk258 hB256 hS257
   have hSW259 := hSW254.wr' hk258.1 hk258.2.1 (fun b hlt hb => absurd hlt (Nat.not_lt.2 (hn253 b hb)))
   refine WL.nil (WH.ret hSW259 (WH.done (by kernel_rfl) ?_))
   exact fun a ha => hJ26 ([]) (u236) (x0.2.2.1) (x0.2.2.2) (v226) (F227) (v237) (F238) (b246) _ hF hB256 (hS257.sel [4, 3, 2, 1, 0] rfl) a (ha.sub ⟨rfl, rfl, rfl, trivial⟩)
  ·
   refine wl_alloc (cs := [(.slice none 0 0), (.slice none 0 0), (.int .i64 0), (.int .i64 0)]) tf_27 rfl rfl (Below.self w228) (Sep.nil _ _) ?_
   intro b261 w262 hb263 hB266 hM267
   have hB264 := hB230.trans (hb263.mono hB230.size)
   have hS265 := hS231.join hb263 hM267 hB230.size
   have hn268 : ∀ b ∈ [b261], w221.heap.size ≤ b := fun b hb => Nat.le_trans hSW235.size ((hM267.1 _ (List.mem_cons_self ..)).2.1 b hb).1
   have hSW269 := hSW235.ext hb263
   refine WL.nil (WH.ret hSW269 (WH.on1 3 rfl ?_))
   obtain ⟨u270, hu270, hF⟩ := bindE hF
   refine wl_call rfl Tryz.call89 (C_impl_copyInts w262 x0.2.1 v0_1 (h0_1.ro hB264) _ hu270) rfl ?_
   rintro _ w273 ⟨v271, F272, rfl, hb274, hM277⟩
   refine ⟨_, rfl, ?_⟩
   have hB275 := hB264.trans (hb274.mono hB264.size)
   have hS276 := hS265.join hb274 hM277 hB264.size
   have hSW279 := hSW269.ext hb274
   refine WL.nil (WH.ret hSW279 (WH.tk 8 rfl hP hSW279 (pr_build (zs := [(.slice none 0 0), (.slice none 0 0), (.int .i64 0), (.int .i64 0)]) (out := [v226, v271, (.int .i64 x0.2.2.1), (.int .i64 x0.2.2.2)]) (vs := [v226, v271, (.int .i64 x0.2.2.1), (.int .i64 x0.2.2.2)]) (css := [[v226], [v271], [(.int .i64 x0.2.2.1)], [(.int .i64 x0.2.2.2)]]) tf_27 pl_27 rfl rfl (by simp only [List.map_cons, List.map_nil, cells_one ((hS276.own_ro (i := 2) rfl).one), cells_one ((hS276.own_ro (i := 0) rfl).one)] <;> rfl) rfl rfl (WH.on1 10 rfl (wl_store_blk (i := 1) (vs := [v226, v271, (.int .i64 x0.2.2.1), (.int .i64 x0.2.2.2)]) (cs' := [v226, v271, (.int .i64 x0.2.2.1), (.int .i64 x0.2.2.2)]) tf_27 rfl rfl rfl rfl hB275 hS276 rfl rfl ⟨(hS276.own_ro (i := 2) rfl).one, (hS276.own_ro (i := 0) rfl).one, rfl, rfl, trivial⟩ rfl ?_)))))
   intro w280 hk283 hB281 hS282
   have hSW284 := hSW279.wr' hk283.1 hk283.2.1 (fun b hlt hb => absurd hlt (Nat.not_lt.2 (hn268 b hb)))
   refine WL.nil (WH.ret hSW284 (WH.done (by kernel_rfl) ?_))
   exact fun a ha => hJ26 ([]) (u270) (x0.2.2.1) (x0.2.2.2) (v226) (F227) (v271) (F272) (b261) _ hF hB281 (hS282.sel [4, 3, 2, 0, 1] rfl) a (ha.sub ⟨rfl, rfl, rfl, trivial⟩)
 ·
  obtain ⟨u286, hu286, hF⟩ := bindE hF
  refine wl_call rfl Tryz.call89 (C_impl_copyInts w221 x0.2.1 v0_1 (h0_1.ro hB223) _ hu286) rfl ?_
  rintro _ w289 ⟨v287, F288, rfl, hb290, hM293⟩
  refine ⟨_, rfl, ?_⟩
  have hB291 := hB223.trans (hb290.mono hB223.size)
  have hS292 := hS224.join hb290 hM293 hB223.size
  have hSW295 := hSW225.ext hb290
  refine WL.nil (WH.ret hSW295 (WH.many (is := [0, 9]) (by kernel_rfl) rfl (List.forall_mem_cons.2 ⟨⟨_, rfl, ?_⟩, List.forall_mem_cons.2 ⟨⟨_, rfl, ?_⟩, fun _ h => by cases h⟩⟩)))
  ·
   refine wl_lit0 (e := ty_51) Tryz.underlying24 rfl (Below.self w289) (Sep.nil _ _) ?_
   intro v296 F297 w298 hb299 hB302 hM303
   have hB300 := hB291.trans (hb299.mono hB291.size)
   have hS301 := hS292.join hb299 hM303 hB291.size
   have hSW305 := hSW295.ext hb299
   refine WL.nil (WH.ret hSW305 (WH.tk 8 rfl hP hSW305 (pr_build (zs := [(.slice none 0 0), (.slice none 0 0), (.int .i64 0), (.int .i64 0)]) (out := [v296, v287, (.int .i64 x0.2.2.1), (.int .i64 x0.2.2.2)]) (vs := [v296, v287, (.int .i64 x0.2.2.1), (.int .i64 x0.2.2.2)]) (css := [[v296], [v287], [(.int .i64 x0.2.2.1)], [(.int .i64 x0.2.2.2)]]) tf_27 pl_27 rfl rfl (by simp only [List.map_cons, List.map_nil, cells_one ((hS301.own_ro (i := 0) rfl).one), cells_one ((hS301.own_ro (i := 1) rfl).one)] <;> rfl) rfl rfl (WH.on1 9 rfl (wl_alloc (cs := [(.slice none 0 0), (.slice none 0 0), (.int .i64 0), (.int .i64 0)]) tf_27 rfl rfl (Below.self w298) (Sep.nil _ _) ?_)))))
   intro b306 w307 hb308 hB311 hM312
   have hB309 := hB300.trans (hb308.mono hB300.size)
   have hS310 := hS301.join hb308 hM312 hB300.size
   have hn313 : ∀ b ∈ [b306], w221.heap.size ≤ b := fun b hb => Nat.le_trans hSW305.size ((hM312.1 _ (List.mem_cons_self ..)).2.1 b hb).1
   have hSW314 := hSW305.ext hb308
   refine WL.nil (WH.ret hSW314 (WH.on1 10 rfl (wl_store_blk (i := 0) (vs := [v296, v287, (.int .i64 x0.2.2.1), (.int .i64 x0.2.2.2)]) (cs' := [v296, v287, (.int .i64 x0.2.2.1), (.int .i64 x0.2.2.2)]) tf_27 rfl rfl rfl rfl hB309 hS310 rfl rfl ⟨(hS310.own_ro (i := 1) rfl).one, (hS310.own_ro (i := 2) rfl).one, rfl, rfl, trivial⟩ rfl ?_)))
   intro w315 hk318 hB316 hS317
   have hSW319 := hSW314.wr' hk318.1 hk318.2.1 (fun b hlt hb => absurd hlt (Nat.not_lt.2 (hn313 b hb)))
   refine WL.nil (WH.ret hSW319 (WH.done (by kernel_rfl) ?_))
   exact fun a ha => hJ26 ([]) (u286) (x0.2.2.1) (x0.2.2.2) (v296) (F297) (v287) (F288) (b306) _ hF hB316 (hS317.sel [4, 3, 1, 2, 0] rfl) a (ha.sub ⟨rfl, rfl, rfl, trivial⟩)
  ·
   refine wl_alloc (cs := [(.slice none 0 0), (.slice none 0 0), (.int .i64 0), (.int .i64 0)]) tf_27 rfl rfl (Below.self w289) (Sep.nil _ _) ?_
   intro b321 w322 hb323 hB326 hM327
   have hB324 := hB291.trans (hb323.mono hB291.size)
   have hS325 := hS292.join hb323 hM327 hB291.size
   have hn328 : ∀ b ∈ [b321], w221.heap.size ≤ b := fun b hb => Nat.le_trans hSW295.size ((hM327.1 _ (List.mem_cons_self ..)).2.1 b hb).1
   have hSW329 := hSW295.ext hb323
   refine WL.nil (WH.ret hSW329 (WH.on1 0 rfl (wl_lit0 (e := ty_51) Tryz.underlying24 rfl (Below.self w322) (Sep.nil _ _) ?_)))
   intro v330 F331 w332 hb333 hB336 hM337
   have hB334 := hB324.trans (hb333.mono hB324.size)
   have hS335 := hS325.join hb333 hM337 hB324.size
   have hSW339 := hSW329.ext hb333
   refine WL.nil (WH.ret hSW339 (WH.tk 8 rfl hP hSW339 (pr_build (zs := [(.slice none 0 0), (.slice none 0 0), (.int .i64 0), (.int .i64 0)]) (out := [v330, v287, (.int .i64 x0.2.2.1), (.int .i64 x0.2.2.2)]) (vs := [v330, v287, (.int .i64 x0.2.2.1), (.int .i64 x0.2.2.2)]) (css := [[v330], [v287], [(.int .i64 x0.2.2.1)], [(.int .i64 x0.2.2.2)]]) tf_27 pl_27 rfl rfl (by simp only [List.map_cons, List.map_nil, cells_one ((hS335.own_ro (i := 0) rfl).one), cells_one ((hS335.own_ro (i := 2) rfl).one)] <;> rfl) rfl rfl (WH.on1 10 rfl (wl_store_blk (i := 1) (vs := [v330, v287, (.int .i64 x0.2.2.1), (.int .i64 x0.2.2.2)]) (cs' := [v330, v287, (.int .i64 x0.2.2.1), (.int .i64 x0.2.2.2)]) tf_27 rfl rfl rfl rfl hB334 hS335 rfl rfl ⟨(hS335.own_ro (i := 0) rfl).one, (hS335.own_ro (i := 2) rfl).one, rfl, rfl, trivial⟩ rfl ?_)))))
   intro w340 hk343 hB341 hS342
   have hSW344 := hSW339.wr' hk343.1 hk343.2.1 (fun b hlt hb => absurd hlt (Nat.not_lt.2 (hn328 b hb)))
   refine WL.nil (WH.ret hSW344 (WH.done (by kernel_rfl) ?_))
   exact fun a ha => hJ26 ([]) (u286) (x0.2.2.1) (x0.2.2.2) (v330) (F331) (v287) (F288) (b321) _ hF hB341 (hS342.sel [4, 3, 0, 2, 1] rfl) a (ha.sub ⟨rfl, rfl, rfl, trivial⟩)
 ·
  refine wl_alloc (cs := [(.slice none 0 0), (.slice none 0 0), (.int .i64 0), (.int .i64 0)]) tf_27 rfl rfl (Below.self w221) (Sep.nil _ _) ?_
  intro b346 w347 hb348 hB351 hM352
  have hB349 := hB223.trans (hb348.mono hB223.size)
  have hS350 := hS224.join hb348 hM352 hB223.size
  have hn353 : ∀ b ∈ [b346], w221.heap.size ≤ b := fun b hb => Nat.le_trans hSW225.size ((hM352.1 _ (List.mem_cons_self ..)).2.1 b hb).1
  have hSW354 := hSW225.ext hb348
  refine WL.nil (WH.ret hSW354 (WH.many (is := [0, 3]) (by kernel_rfl) rfl (List.forall_mem_cons.2 ⟨⟨_, rfl, ?_⟩, List.forall_mem_cons.2 ⟨⟨_, rfl, ?_⟩, fun _ h => by cases h⟩⟩)))
  ·
   refine wl_lit0 (e := ty_51) Tryz.underlying24 rfl (Below.self w347) (Sep.nil _ _) ?_
   intro v355 F356 w357 hb358 hB361 hM362
   have hB359 := hB349.trans (hb358.mono hB349.size)
   have hS360 := hS350.join hb358 hM362 hB349.size
   have hSW364 := hSW354.ext hb358
   refine WL.nil (WH.ret hSW364 (WH.on1 3 rfl ?_))
   obtain ⟨u365, hu365, hF⟩ := bindE hF
   refine wl_call rfl Tryz.call89 (C_impl_copyInts w357 x0.2.1 v0_1 (h0_1.ro hB359) _ hu365) rfl ?_
   rintro _ w368 ⟨v366, F367, rfl, hb369, hM372⟩
   refine ⟨_, rfl, ?_⟩
   have hB370 := hB359.trans (hb369.mono hB359.size)
   have hS371 := hS360.join hb369 hM372 hB359.size
   have hSW374 := hSW364.ext hb369
   refine WL.nil (WH.ret hSW374 (WH.tk 8 rfl hP hSW374 (pr_build (zs := [(.slice none 0 0), (.slice none 0 0), (.int .i64 0), (.int .i64 0)]) (out := [v355, v366, (.int .i64 x0.2.2.1), (.int .i64 x0.2.2.2)]) (vs := [v355, v366, (.int .i64 x0.2.2.1), (.int .i64 x0.2.2.2)]) (css := [[v355], [v366], [(.int .i64 x0.2.2.1)], [(.int .i64 x0.2.2.2)]]) tf_27 pl_27 rfl rfl (by simp only [List.map_cons, List.map_nil, cells_one ((hS371.own_ro (i := 1) rfl).one), cells_one ((hS371.own_ro (i := 0) rfl).one)] <;> rfl) rfl rfl (WH.on1 10 rfl (wl_store_blk (i := 2) (vs := [v355, v366, (.int .i64 x0.2.2.1), (.int .i64 x0.2.2.2)]) (cs' := [v355, v366, (.int .i64 x0.2.2.1), (.int .i64 x0.2.2.2)]) tf_27 rfl rfl rfl rfl hB370 hS371 rfl rfl ⟨(hS371.own_ro (i := 1) rfl).one, (hS371.own_ro (i := 0) rfl).one, rfl, rfl, trivial⟩ rfl ?_)))))
   intro w375 hk378 hB376 hS377
   have hSW379 := hSW374.wr' hk378.1 hk378.2.1 (fun b hlt hb => absurd hlt (Nat.not_lt.2 (hn353 b hb)))
   refine WL.nil (WH.ret hSW379 (WH.done (by kernel_rfl) ?_))
   exact fun a ha => hJ26 ([]) (u365) (x0.2.2.1) (x0.2.2.2) (v355) (F356) (v366) (F367) (b346) _ hF hB376 (hS377.sel [4, 3, 1, 0, 2] rfl) a (ha.sub ⟨rfl, rfl, rfl, trivial⟩)
  ·
   obtain ⟨u381, hu381, hF⟩ := bindE hF
   refine wl_call rfl Tryz.call89 (C_impl_copyInts w347 x0.2.1 v0_1 (h0_1.ro hB349) _ hu381) rfl ?_
   rintro _ w384 ⟨v382, F383, rfl, hb385, hM388⟩
   refine ⟨_, rfl, ?_⟩
   have hB386 := hB349.trans (hb385.mono hB349.size)
   have hS387 := hS350.join hb385 hM388 hB349.size
   have hSW390 := hSW354.ext hb385
   refine WL.nil (WH.ret hSW390 (WH.on1 0 rfl (wl_lit0 (e := ty_51) Tryz.underlying24 rfl (Below.self w384) (Sep.nil _ _) ?_)))
   intro v391 F392 w393 hb394 hB397 hM398
   have hB395 := hB386.trans (hb394.mono hB386.size)
   have hS396 := hS387.join hb394 hM398 hB386.size
   have hSW400 := hSW390.ext hb394
   refine WL.nil (WH.ret hSW400 (WH.tk 8 rfl hP hSW400 (pr_build (zs := [(.slice none 0 0), (.slice none 0 0), (.int .i64 0), (.int .i64 0)]) (out := [v391, v382, (.int .i64 x0.2.2.1), (.int .i64 x0.2.2.2)]) (vs := [v391, v382, (.int .i64 x0.2.2.1), (.int .i64 x0.2.2.2)]) (css := [[v391], [v382], [(.int .i64 x0.2.2.1)], [(.int .i64 x0.2.2.2)]]) tf_27 pl_27 rfl rfl (by simp only [List.map_cons, List.map_nil, cells_one ((hS396.own_ro (i := 0) rfl).one), cells_one ((hS396.own_ro (i := 1) rfl).one)] <;> rfl) rfl rfl (WH.on1 10 rfl (wl_store_blk (i := 2) (vs := [v391, v382, (.int .i64 x0.2.2.1), (.int .i64 x0.2.2.2)]) (cs' := [v391, v382, (.int .i64 x0.2.2.1), (.int .i64 x0.2.2.2)]) tf_27 rfl rfl rfl rfl hB395 hS396 rfl rfl ⟨(hS396.own_ro (i := 0) rfl).one, (hS396.own_ro (i := 1) rfl).one, rfl, rfl, trivial⟩ rfl ?_)))))
   intro w401 hk404 hB402 hS403
   have hSW405 := hSW400.wr' hk404.1 hk404.2.1 (fun b hlt hb => absurd hlt (Nat.not_lt.2 (hn353 b hb)))
   refine WL.nil (WH.ret hSW405 (WH.done (by kernel_rfl) ?_))
   exact fun a ha => hJ26 ([]) (u381) (x0.2.2.1) (x0.2.2.2) (v391) (F392) (v382) (F383) (b346) _ hF hB402 (hS403.sel [4, 3, 0, 1, 2] rfl) a (ha.sub ⟨rfl, rfl, rfl, trivial⟩)
theorem C_impl_NewMarch (w0 : World) (x0 : ((List (List (Int × Int))) × (List Int) × Int × Int)) (v0_0 : Value) (h0_0 : rdS ty_51 (· < w0.heap.size) w0 v0_0 x0.1) (v0_1 : Value) (h0_1 : rdS ty_3 (· < w0.heap.size) w0 v0_1 x0.2.1) (r : ((((List (List (Int × Int))) × (List Int) × Int × Int) × Int × (List Int) × (List Int)) × Bool)) (hF : F_impl_NewMarch x0 = some r) :
  Calls Tryz.prog 19 [(.agg #[v0_0, v0_1, (.int .i64 x0.2.2.1), (.int .i64 x0.2.2.2)])].toArray w0 fun e w' => ∃ (q0 : Value) (G0 : List Nat) (q1 : Value) (G1 : List Nat) (q2 : Value) (G2 : List Nat) (q3 : Value) (G3 : List Nat), e = .returned (.tuple #[(.agg #[q0, q1, (.int .i64 r.1.1.2.2.1), (.int .i64 r.1.1.2.2.2), (.int .i64 r.1.2.1), q2, q3]), (.bool r.2)]) ∧ Below w0.heap.size w0 w' ∧ Sep w0.heap.size w' [R.own ty_51 G0 q0 r.1.1.1, R.own ty_3 G1 q1 r.1.1.2.1, R.own ty_3 G2 q2 r.1.2.2.1, R.own ty_3 G3 q3 r.1.2.2.2] := by
 refine calls_mk' Tryz.func19 rfl Tryz.ntmps19 rfl rfl fun Q hQ hP => ?_
 have hB : Below w0.heap.size w0 w0 := Below.refl _ _
 have hS : Sep w0.heap.size w0 [] := Sep.nil _ _
 unfold F_impl_NewMarch at hF
 refine W.seq fun K1 hK1 => W.region (wl_box (cs := [v0_0, v0_1, (.int .i64 x0.2.2.1), (.int .i64 x0.2.2.2)]) rfl rfl rfl hB hS ?_)
 intro b2 w3 hb4 hB5 hS6
 refine wl_alloc (cs := [(.slice none 0 0), (.slice none 0 0), (.int .i64 0), (.int .i64 0), (.int .i64 0), (.slice none 0 0), (.slice none 0 0)]) tf_58 rfl rfl hB5 hS6 ?_
 intro b7 w8 hb9 hB10 hS11
 refine wl_assign rfl rfl (WL.nil (fun a ha => hK1 _ _ (W.seq fun K12 hK12 => (W.seq fun K13 hK13 => (W.region (wl_load_blk (i := 1) (vs := [v0_0, v0_1, (.int .i64 x0.2.2.1), (.int .i64 x0.2.2.2)]) (v := (.agg #[v0_0, v0_1, (.int .i64 x0.2.2.1), (.int .i64 x0.2.2.2)])) tf_27 rfl rfl hS11 rfl rfl rfl ?_)))) a ha))
 obtain ⟨u14, hu14, hF⟩ := bindE hF
 refine wl_call rfl Tryz.call27 (C_impl_IsShow w8 x0 v0_0 (h0_0.ro hB10) v0_1 (h0_1.ro hB10) _ hu14) rfl ?_
 rintro _ w15 ⟨rfl, hb16⟩
 refine ⟨_, rfl, ?_⟩
 have hB17 := hB10.trans (hb16.mono hB10.size)
 have hS18 := hS11.below hb16
 refine wl_not rfl rfl (WL.nil (fun a ha => hK13 _ _ (W.cond rfl (fun h20 => ?_) (fun h20 => ?_)) a ha))
 ·replace hF := ifP h20 hF
  refine W.seq fun K21 hK21 => W.region (wl_build (zs := [(.slice none 0 0), (.slice none 0 0), (.int .i64 0), (.int .i64 0), (.int .i64 0), (.slice none 0 0), (.slice none 0 0)]) (out := [(.slice none 0 0), (.slice none 0 0), (.int .i64 0), (.int .i64 0), (.int .i64 0), (.slice none 0 0), (.slice none 0 0)]) (vs := []) (css := []) tf_58 pl_58 rfl rfl rfl rfl rfl (wl_store_blk (i := 0) (vs := [(.slice none 0 0), (.slice none 0 0), (.int .i64 0), (.int .i64 0), (.int .i64 0), (.slice none 0 0), (.slice none 0 0)]) (cs' := [(.slice none 0 0), (.slice none 0 0), (.int .i64 0), (.int .i64 0), (.int .i64 0), (.slice none 0 0), (.slice none 0 0)]) tf_58 rfl rfl rfl rfl hB17 hS18 rfl rfl ⟨rfl, rfl, rfl, rfl, rfl, rfl, rfl, trivial⟩ rfl ?_))
  intro w22 hk25 hB23 hS24
  refine wl_assign rfl rfl (WL.nil (fun a ha => hK21 _ _ (W.ret ?_) a ha))
  have hS26 := hS24.push0 (r := R.own ty_51 [] (.slice none 0 0) []) rfl fun _ => .inl ⟨rfl, rfl, rfl⟩
  have hS27 := hS26.push0 (r := R.own ty_3 [] (.slice none 0 0) []) rfl fun _ => .inl ⟨rfl, rfl, rfl⟩
  have hS28 := hS27.push0 (r := R.own ty_3 [] (.slice none 0 0) []) rfl fun _ => .inl ⟨rfl, rfl, rfl⟩
  have hS29 := hS28.push0 (r := R.own ty_3 [] (.slice none 0 0) []) rfl fun _ => .inl ⟨rfl, rfl, rfl⟩
  have hr := Option.some.inj hF
  subst hr
  exact rets (vs := [(.agg #[(.slice none 0 0), (.slice none 0 0), (.int .i64 0), (.int .i64 0), (.int .i64 0), (.slice none 0 0), (.slice none 0 0)]), (.bool false)]) hQ rfl ⟨rv_cell (i := 0) tf_58 rfl hS24 rfl rfl rfl, rv_tmp rfl, trivial⟩ ⟨(.slice none 0 0), [], (.slice none 0 0), [], (.slice none 0 0), [], (.slice none 0 0), [], rfl, hB23, hS29.sel [3, 2, 1, 0] rfl⟩
 ·replace hF := ifN h20 hF
  refine W.skip fun a ha => hK12 _ _ (W.seq fun K30 hK30 => ?_) a ha
  obtain ⟨k49, hk49, hF⟩ := jE7 hF
  have hJ50 : ∀ (l34 : (List (List (Int × Int)))) (l37 : (List Int)) (y40 : Int) (y41 : Int) (l42 : (List Int)) (l45 : (List Int)) (y48 : Bool) (v35 : Value) (F36 : List Nat) (v38 : Value) (F39 : List Nat) (v43 : Value) (F44 : List Nat) (v46 : Value) (F47 : List Nat) (w31 : World) (_ : k49 l34 l37 y40 y41 l42 l45 y48 = some r) (_ : Below w0.heap.size w0 w31) (_ : Sep w0.heap.size w31 [R.own ty_51 F36 v35 l34, R.own ty_3 F39 v38 l37, R.own ty_3 F44 v43 l42, R.own ty_3 F47 v46 l45, R.blk b7 58 [v35, v38, (.int .i64 y40), (.int .i64 y41), (.int .i64 0), v43, v46]]), ∀ a, St 18 [(2, (.pointer (some ⟨b7, 0, none⟩))), (3, (.bool y48))] a → K30 a w31 := by
   intro l34 l37 y40 y41 l42 l45 y48 v35 F36 v38 F39 v43 F44 v46 F47 w31 hF hB32 hS33
   subst hk49
   refine fun a ha => hK30 _ _ (W.ret ?_) a ha
   have hr := Option.some.inj hF
   subst hr
   exact rets (vs := [(.agg #[v35, v38, (.int .i64 y40), (.int .i64 y41), (.int .i64 0), v43, v46]), (.bool y48)]) hQ rfl ⟨rv_cell (i := 4) tf_58 rfl hS33 rfl rfl rfl, rv_tmp rfl, trivial⟩ ⟨v35, F36, v38, F39, v43, F44, v46, F47, rfl, hB32, hS33.sel [0, 1, 2, 3] rfl⟩
  refine W.regionH mixed_ [b7] hB17 hS18 ?_
  intro w51 hb52 hB53 hS54
  have hSW55 := KeepX.refl w51 [b7]
  refine WH.tk 0 rfl hP hSW55 (pr_load_blk (i := 1) (vs := [v0_0, v0_1, (.int .i64 x0.2.2.1), (.int .i64 x0.2.2.2)]) (v := (.agg #[v0_0, v0_1, (.int .i64 x0.2.2.1), (.int .i64 x0.2.2.2)])) tf_27 rfl rfl hS54 rfl rfl rfl (hS54.disj (i := 1) (j := 0) rfl rfl rfl b2 (by simp [R.blk])) (WH.tk 3 rfl hP hSW55 (pr_field (o := 0) (off' := 0) ff_27_0 rfl rfl rfl (WH.tk 4 rfl hP hSW55 (pr_load_blk (i := 1) (vs := [v0_0]) (v := v0_0) tf_24 rfl rfl hS54 rfl rfl rfl (hS54.disj (i := 1) (j := 0) rfl rfl rfl b2 (by simp [R.blk])) ?_)))))
  obtain ⟨u56, hu56, hF⟩ := bindE hF
  refine WH.tk 5 rfl hP hSW55 (pr_index (e := ty_51) Tryz.underlying24 rfl rfl rfl h0_0 hu56 ?_)
  rintro p57 _ ⟨v59, rfl, hv60⟩ hp58
  refine WH.tk 6 rfl hP hSW55 (pr_load_p (vs := [v59]) (v := v59) tf_51 rfl rfl (hp58.kx hB53 (fun b hb => (((hS54.get (i := 0) rfl).2.1 b hb).1))) rfl rfl (WH.tk 7 rfl hP hSW55 (pr_lenr (e := ty_38) (l := u56) Tryz.underlying51 rfl rfl hv60 (WH.many (is := [1, 2, 8]) (by kernel_rfl) rfl (List.forall_mem_cons.2 ⟨⟨_, rfl, ?_⟩, List.forall_mem_cons.2 ⟨⟨_, rfl, ?_⟩, List.forall_mem_cons.2 ⟨⟨_, rfl, ?_⟩, fun _ h => by cases h⟩⟩⟩)))))
  ·
   obtain ⟨u61, hu61, hF⟩ := bindE hF
   refine wl_call rfl Tryz.call53 (C_impl_copyShow w51 x0 v0_0 (h0_0.ro hB53) v0_1 (h0_1.ro hB53) _ hu61) rfl ?_
   rintro _ w66 ⟨v62, F63, v64, F65, rfl, hb67, hM70⟩
   refine ⟨_, rfl, ?_⟩
   have hB68 := hB53.trans (hb67.mono hB53.size)
   have hS69 := hS54.join hb67 hM70 hB53.size
   have hSW73 := hSW55.ext hb67
   refine WL.nil (WH.ret hSW73 (WH.many (is := [2, 8]) (by kernel_rfl) rfl (List.forall_mem_cons.2 ⟨⟨_, rfl, ?_⟩, List.forall_mem_cons.2 ⟨⟨_, rfl, ?_⟩, fun _ h => by cases h⟩⟩)))
   ·
    refine wl_lit (vs := []) (l := []) fl_3 Tryz.underlying25 rfl rfl rfl rfl rfl rfl (Below.self w66) (Sep.nil _ _) ?_
    intro v75 F76 w77 hb78 hB81 hM82
    have hB79 := hB68.trans (hb78.mono hB68.size)
    have hS80 := hS69.join hb78 hM82 hB68.size
    have hSW84 := hSW73.ext hb78
    refine WL.nil (WH.ret hSW84 (WH.on1 8 rfl ?_))
    obtain ⟨u86, hu86, hF⟩ := bindE hF
    refine wl_make (e := ty_3) Tryz.underlying25 rfl rfl hu86 (Below.self w77) (Sep.nil _ _) ?_
    intro v87 F88 w89 hb90 hB93 hM94
    have hB91 := hB79.trans (hb90.mono hB79.size)
    have hS92 := hS80.join hb90 hM94 hB79.size
    have hSW96 := hSW84.ext hb90
    refine WL.nil (WH.ret hSW96 (WH.tk 9 rfl hP hSW96 (pr_build (zs := [(.slice none 0 0), (.slice none 0 0), (.int .i64 0), (.int .i64 0), (.int .i64 0), (.slice none 0 0), (.slice none 0 0)]) (out := [v62, v64, (.int .i64 u61.2.2.1), (.int .i64 u61.2.2.2), (.int .i64 0), v75, v87]) (vs := [(.agg #[v62, v64, (.int .i64 u61.2.2.1), (.int .i64 u61.2.2.2)]), v75, v87]) (css := [[v62, v64, (.int .i64 u61.2.2.1), (.int .i64 u61.2.2.2)], [v75], [v87]]) tf_58 pl_58 rfl rfl (by simp only [List.map_cons, List.map_nil, cells_one ((hS92.own_ro (i := 1) rfl).one), cells_one ((hS92.own_ro (i := 0) rfl).one)] <;> rfl) rfl rfl (WH.on1 10 rfl ?_))))
    refine wl_store_blk (i := 4) (vs := [v62, v64, (.int .i64 u61.2.2.1), (.int .i64 u61.2.2.2), (.int .i64 0), v75, v87]) (cs' := [v62, v64, (.int .i64 u61.2.2.1), (.int .i64 u61.2.2.2), (.int .i64 0), v75, v87]) tf_58 rfl rfl rfl rfl hB91 hS92 rfl rfl ⟨(hS92.own_ro (i := 2) rfl).one, (hS92.own_ro (i := 3) rfl).one, rfl, rfl, rfl, (hS92.own_ro (i := 1) rfl).one, (hS92.own_ro (i := 0) rfl).one, trivial⟩ rfl ?_
    intro w98 hk101 hB99 hS100
    have hSW102 := hSW96.wr' hk101.1 hk101.2.1 (fun _ _ h => h)
    refine WL.nil (WH.ret hSW102 (WH.tk 11 rfl hP hSW102 (pr_assign rfl rfl (WH.done (by kernel_rfl) ?_))))
    exact fun a ha => hJ50 (u61.1) (u61.2.1) (u61.2.2.1) (u61.2.2.2) ([]) (u86) (true) (v62) (F63) (v64) (F65) (v75) (F76) (v87) (F88) _ hF hB99 (hS100.sel [2, 3, 1, 0, 4] rfl) a (ha.sub ⟨rfl, rfl, trivial⟩)
   ·
    obtain ⟨u104, hu104, hF⟩ := bindE hF
    refine wl_make (e := ty_3) Tryz.underlying25 rfl rfl hu104 (Below.self w66) (Sep.nil _ _) ?_
    intro v105 F106 w107 hb108 hB111 hM112
    have hB109 := hB68.trans (hb108.mono hB68.size)
    have hS110 := hS69.join hb108 hM112 hB68.size
    have hSW114 := hSW73.ext hb108
    refine WL.nil (WH.ret hSW114 (WH.on1 2 rfl (wl_lit (vs := []) (l := []) fl_3 Tryz.underlying25 rfl rfl rfl rfl rfl rfl (Below.self w107) (Sep.nil _ _) ?_)))
    intro v116 F117 w118 hb119 hB122 hM123
    have hB120 := hB109.trans (hb119.mono hB109.size)
    have hS121 := hS110.join hb119 hM123 hB109.size
    have hSW125 := hSW114.ext hb119
    refine WL.nil (WH.ret hSW125 (WH.tk 9 rfl hP hSW125 (pr_build (zs := [(.slice none 0 0), (.slice none 0 0), (.int .i64 0), (.int .i64 0), (.int .i64 0), (.slice none 0 0), (.slice none 0 0)]) (out := [v62, v64, (.int .i64 u61.2.2.1), (.int .i64 u61.2.2.2), (.int .i64 0), v116, v105]) (vs := [(.agg #[v62, v64, (.int .i64 u61.2.2.1), (.int .i64 u61.2.2.2)]), v116, v105]) (css := [[v62, v64, (.int .i64 u61.2.2.1), (.int .i64 u61.2.2.2)], [v116], [v105]]) tf_58 pl_58 rfl rfl (by simp only [List.map_cons, List.map_nil, cells_one ((hS121.own_ro (i := 0) rfl).one), cells_one ((hS121.own_ro (i := 1) rfl).one)] <;> rfl) rfl rfl (WH.on1 10 rfl ?_))))
    refine wl_store_blk (i := 4) (vs := [v62, v64, (.int .i64 u61.2.2.1), (.int .i64 u61.2.2.2), (.int .i64 0), v116, v105]) (cs' := [v62, v64, (.int .i64 u61.2.2.1), (.int .i64 u61.2.2.2), (.int .i64 0), v116, v105]) tf_58 rfl rfl rfl rfl hB120 hS121 rfl rfl ⟨(hS121.own_ro (i := 2) rfl).one, (hS121.own_ro (i := 3) rfl).one, rfl, rfl, rfl, (hS121.own_ro (i := 0) rfl).one, (hS121.own_ro (i := 1) rfl).one, trivial⟩ rfl ?_
    intro w127 hk130 hB128 hS129
    have hSW131 := hSW125.wr' hk130.1 hk130.2.1 (fun _ _ h => h)
    refine WL.nil (WH.ret hSW131 (WH.tk 11 rfl hP hSW131 (pr_assign rfl rfl (WH.done (by kernel_rfl) ?_))))
    exact fun a ha => hJ50 (u61.1) (u61.2.1) (u61.2.2.1) (u61.2.2.2) ([]) (u104) (true) (v62) (F63) (v64) (F65) (v116) (F117) (v105) (F106) _ hF hB128 (hS129.sel [2, 3, 0, 1, 4] rfl) a (ha.sub ⟨rfl, rfl, trivial⟩)
  ·
   refine wl_lit (vs := []) (l := []) fl_3 Tryz.underlying25 rfl rfl rfl rfl rfl rfl (Below.self w51) (Sep.nil _ _) ?_
   intro v133 F134 w135 hb136 hB139 hM140
   have hB137 := hB53.trans (hb136.mono hB53.size)
   have hS138 := hS54.join hb136 hM140 hB53.size
   have hSW142 := hSW55.ext hb136
   refine WL.nil (WH.ret hSW142 (WH.many (is := [1, 8]) (by kernel_rfl) rfl (List.forall_mem_cons.2 ⟨⟨_, rfl, ?_⟩, List.forall_mem_cons.2 ⟨⟨_, rfl, ?_⟩, fun _ h => by cases h⟩⟩)))
   ·
    obtain ⟨u144, hu144, hF⟩ := bindE hF
    refine wl_call rfl Tryz.call53 (C_impl_copyShow w135 x0 v0_0 (h0_0.ro hB137) v0_1 (h0_1.ro hB137) _ hu144) rfl ?_
    rintro _ w149 ⟨v145, F146, v147, F148, rfl, hb150, hM153⟩
    refine ⟨_, rfl, ?_⟩
    have hB151 := hB137.trans (hb150.mono hB137.size)
    have hS152 := hS138.join hb150 hM153 hB137.size
    have hSW156 := hSW142.ext hb150
    refine WL.nil (WH.ret hSW156 (WH.on1 8 rfl ?_))
    obtain ⟨u158, hu158, hF⟩ := bindE hF
    refine wl_make (e := ty_3) Tryz.underlying25 rfl rfl hu158 (Below.self w149) (Sep.nil _ _) ?_
    intro v159 F160 w161 hb162 hB165 hM166
    have hB163 := hB151.trans (hb162.mono hB151.size)
    have hS164 := hS152.join hb162 hM166 hB151.size
    have hSW168 := hSW156.ext hb162
    refine WL.nil (WH.ret hSW168 (WH.tk 9 rfl hP hSW168 (pr_build (zs := [(.slice none 0 0), (.slice none 0 0), (.int .i64 0), (.int .i64 0), (.int .i64 0), (.slice none 0 0), (.slice none 0 0)]) (out := [v145, v147, (.int .i64 u144.2.2.1), (.int .i64 u144.2.2.2), (.int .i64 0), v133, v159]) (vs := [(.agg #[v145, v147, (.int .i64 u144.2.2.1), (.int .i64 u144.2.2.2)]), v133, v159]) (css := [[v145, v147, (.int .i64 u144.2.2.1), (.int .i64 u144.2.2.2)], [v133], [v159]]) tf_58 pl_58 rfl rfl (by simp only [List.map_cons, List.map_nil, cells_one ((hS164.own_ro (i := 3) rfl).one), cells_one ((hS164.own_ro (i := 0) rfl).one)] <;> rfl) rfl rfl (WH.on1 10 rfl ?_))))
    refine wl_store_blk (i := 4) (vs := [v145, v147, (.int .i64 u144.2.2.1), (.int .i64 u144.2.2.2), (.int .i64 0), v133, v159]) (cs' := [v145, v147, (.int .i64 u144.2.2.1), (.int .i64 u144.2.2.2), (.int .i64 0), v133, v159]) tf_58 rfl rfl rfl rfl hB163 hS164 rfl rfl ⟨(hS164.own_ro (i := 1) rfl).one, (hS164.own_ro (i := 2) rfl).one, rfl, rfl, rfl, (hS164.own_ro (i := 3) rfl).one, (hS164.own_ro (i := 0) rfl).one, trivial⟩ rfl ?_
    intro w170 hk173 hB171 hS172
    have hSW174 := hSW168.wr' hk173.1 hk173.2.1 (fun _ _ h => h)
    refine WL.nil (WH.ret hSW174 (WH.tk 11 rfl hP hSW174 (pr_assign rfl rfl (WH.done (by kernel_rfl) ?_))))
    exact fun a ha => hJ50 (u144.1) (u144.2.1) (u144.2.2.1) (u144.2.2.2) ([]) (u158) (true) (v145) (F146) (v147) (F148) (v133) (F134) (v159) (F160) _ hF hB171 (hS172.sel [1, 2, 3, 0, 4] rfl) a (ha.sub ⟨rfl, rfl, trivial⟩)
   ·
    obtain ⟨u176, hu176, hF⟩ := bindE hF
    obtain ⟨u177, hu177, hF⟩ := bindE hF
    refine wl_make (e := ty_3) Tryz.underlying25 rfl rfl hu177 (Below.self w135) (Sep.nil _ _) ?_
    intro v178 F179 w180 hb181 hB184 hM185
    have hB182 := hB137.trans (hb181.mono hB137.size)
    have hS183 := hS138.join hb181 hM185 hB137.size
    have hSW187 := hSW142.ext hb181
    refine WL.nil (WH.ret hSW187 (WH.on1 1 rfl (wl_call rfl Tryz.call53 (C_impl_copyShow w180 x0 v0_0 (h0_0.ro hB182) v0_1 (h0_1.ro hB182) _ hu176) rfl ?_)))
    rintro _ w193 ⟨v189, F190, v191, F192, rfl, hb194, hM197⟩
    refine ⟨_, rfl, ?_⟩
    have hB195 := hB182.trans (hb194.mono hB182.size)
    have hS196 := hS183.join hb194 hM197 hB182.size
    have hSW200 := hSW187.ext hb194
    refine WL.nil (WH.ret hSW200 (WH.tk 9 rfl hP hSW200 (pr_build (zs := [(.slice none 0 0), (.slice none 0 0), (.int .i64 0), (.int .i64 0), (.int .i64 0), (.slice none 0 0), (.slice none 0 0)]) (out := [v189, v191, (.int .i64 u176.2.2.1), (.int .i64 u176.2.2.2), (.int .i64 0), v133, v178]) (vs := [(.agg #[v189, v191, (.int .i64 u176.2.2.1), (.int .i64 u176.2.2.2)]), v133, v178]) (css := [[v189, v191, (.int .i64 u176.2.2.1), (.int .i64 u176.2.2.2)], [v133], [v178]]) tf_58 pl_58 rfl rfl (by simp only [List.map_cons, List.map_nil, cells_one ((hS196.own_ro (i := 3) rfl).one), cells_one ((hS196.own_ro (i := 2) rfl).one)] <;> rfl) rfl rfl (WH.on1 10 rfl ?_))))
    refine wl_store_blk (i := 4) (vs := [v189, v191, (.int .i64 u176.2.2.1), (.int .i64 u176.2.2.2), (.int .i64 0), v133, v178]) (cs' := [v189, v191, (.int .i64 u176.2.2.1), (.int .i64 u176.2.2.2), (.int .i64 0), v133, v178]) tf_58 rfl rfl rfl rfl hB195 hS196 rfl rfl ⟨(hS196.own_ro (i := 0) rfl).one, (hS196.own_ro (i := 1) rfl).one, rfl, rfl, rfl, (hS196.own_ro (i := 3) rfl).one, (hS196.own_ro (i := 2) rfl).one, trivial⟩ rfl ?_
    intro w202 hk205 hB203 hS204
    have hSW206 := hSW200.wr' hk205.1 hk205.2.1 (fun _ _ h => h)
    refine WL.nil (WH.ret hSW206 (WH.tk 11 rfl hP hSW206 (pr_assign rfl rfl (WH.done (by kernel_rfl) ?_))))
    exact fun a ha => hJ50 (u176.1) (u176.2.1) (u176.2.2.1) (u176.2.2.2) ([]) (u177) (true) (v189) (F190) (v191) (F192) (v133) (F134) (v178) (F179) _ hF hB203 (hS204.sel [0, 1, 3, 2, 4] rfl) a (ha.sub ⟨rfl, rfl, trivial⟩)
  ·
   obtain ⟨u208, hu208, hF⟩ := bindE hF
   obtain ⟨u209, hu209, hF⟩ := bindE hF
   refine wl_make (e := ty_3) Tryz.underlying25 rfl rfl hu209 (Below.self w51) (Sep.nil _ _) ?_
   intro v210 F211 w212 hb213 hB216 hM217
   have hB214 := hB53.trans (hb213.mono hB53.size)
   have hS215 := hS54.join hb213 hM217 hB53.size
   have hSW219 := hSW55.ext hb213
   refine WL.nil (WH.ret hSW219 (WH.many (is := [1, 2]) (by kernel_rfl) rfl (List.forall_mem_cons.2 ⟨⟨_, rfl, ?_⟩, List.forall_mem_cons.2 ⟨⟨_, rfl, ?_⟩, fun _ h => by cases h⟩⟩)))
   ·
    refine wl_call rfl Tryz.call53 (C_impl_copyShow w212 x0 v0_0 (h0_0.ro hB214) v0_1 (h0_1.ro hB214) _ hu208) rfl ?_
    rintro _ w225 ⟨v221, F222, v223, F224, rfl, hb226, hM229⟩
    refine ⟨_, rfl, ?_⟩
    have hB227 := hB214.trans (hb226.mono hB214.size)
    have hS228 := hS215.join hb226 hM229 hB214.size
    have hSW232 := hSW219.ext hb226
    refine WL.nil (WH.ret hSW232 (WH.on1 2 rfl (wl_lit (vs := []) (l := []) fl_3 Tryz.underlying25 rfl rfl rfl rfl rfl rfl (Below.self w225) (Sep.nil _ _) ?_)))
    intro v234 F235 w236 hb237 hB240 hM241
    have hB238 := hB227.trans (hb237.mono hB227.size)
    have hS239 := hS228.join hb237 hM241 hB227.size
    have hSW243 := hSW232.ext hb237
    refine WL.nil (WH.ret hSW243 (WH.tk 9 rfl hP hSW243 (pr_build (zs := [(.slice none 0 0), (.slice none 0 0), (.int .i64 0), (.int .i64 0), (.int .i64 0), (.slice none 0 0), (.slice none 0 0)]) (out := [v221, v223, (.int .i64 u208.2.2.1), (.int .i64 u208.2.2.2), (.int .i64 0), v234, v210]) (vs := [(.agg #[v221, v223, (.int .i64 u208.2.2.1), (.int .i64 u208.2.2.2)]), v234, v210]) (css := [[v221, v223, (.int .i64 u208.2.2.1), (.int .i64 u208.2.2.2)], [v234], [v210]]) tf_58 pl_58 rfl rfl (by simp only [List.map_cons, List.map_nil, cells_one ((hS239.own_ro (i := 0) rfl).one), cells_one ((hS239.own_ro (i := 3) rfl).one)] <;> rfl) rfl rfl (WH.on1 10 rfl ?_))))
    refine wl_store_blk (i := 4) (vs := [v221, v223, (.int .i64 u208.2.2.1), (.int .i64 u208.2.2.2), (.int .i64 0), v234, v210]) (cs' := [v221, v223, (.int .i64 u208.2.2.1), (.int .i64 u208.2.2.2), (.int .i64 0), v234, v210]) tf_58 rfl rfl rfl rfl hB238 hS239 rfl rfl ⟨(hS239.own_ro (i := 1) rfl).one, (hS239.own_ro (i := 2) rfl).one, rfl, rfl, rfl, (hS239.own_ro (i := 0) rfl).one, (hS239.own_ro (i := 3) rfl).one, trivial⟩ rfl ?_
    intro w245 hk248 hB246 hS247
    have hSW249 := hSW243.wr' hk248.1 hk248.2.1 (fun _ _ h => h)
    refine WL.nil (WH.ret hSW249 (WH.tk 11 rfl hP hSW249 (pr_assign rfl rfl (WH.done (by kernel_rfl) ?_))))
    exact fun a ha => hJ50 (u208.1) (u208.2.1) (u208.2.2.1) (u208.2.2.2) ([]) (u209) (true) (v221) (F222) (v223) (F224) (v234) (F235) (v210) (F211) _ hF hB246 (hS247.sel [1, 2, 0, 3, 4] rfl) a (ha.sub ⟨rfl, rfl, trivial⟩)
   ·
    refine wl_lit (vs := []) (l := []) fl_3 Tryz.underlying25 rfl rfl rfl rfl rfl rfl (Below.self w212) (Sep.nil _ _) ?_
    intro v251 F252 w253 hb254 hB257 hM258
    have hB255 := hB214.trans (hb254.mono hB214.size)
    have hS256 := hS215.join hb254 hM258 hB214.size
    have hSW260 := hSW219.ext hb254
    refine WL.nil (WH.ret hSW260 (WH.on1 1 rfl (wl_call rfl Tryz.call53 (C_impl_copyShow w253 x0 v0_0 (h0_0.ro hB255) v0_1 (h0_1.ro hB255) _ hu208) rfl ?_)))
    rintro _ w266 ⟨v262, F263, v264, F265, rfl, hb267, hM270⟩
    refine ⟨_, rfl, ?_⟩
    have hB268 := hB255.trans (hb267.mono hB255.size)
    have hS269 := hS256.join hb267 hM270 hB255.size
    have hSW273 := hSW260.ext hb267
    refine WL.nil (WH.ret hSW273 (WH.tk 9 rfl hP hSW273 (pr_build (zs := [(.slice none 0 0), (.slice none 0 0), (.int .i64 0), (.int .i64 0), (.int .i64 0), (.slice none 0 0), (.slice none 0 0)]) (out := [v262, v264, (.int .i64 u208.2.2.1), (.int .i64 u208.2.2.2), (.int .i64 0), v251, v210]) (vs := [(.agg #[v262, v264, (.int .i64 u208.2.2.1), (.int .i64 u208.2.2.2)]), v251, v210]) (css := [[v262, v264, (.int .i64 u208.2.2.1), (.int .i64 u208.2.2.2)], [v251], [v210]]) tf_58 pl_58 rfl rfl (by simp only [List.map_cons, List.map_nil, cells_one ((hS269.own_ro (i := 2) rfl).one), cells_one ((hS269.own_ro (i := 3) rfl).one)] <;> rfl) rfl rfl (WH.on1 10 rfl ?_))))
    refine wl_store_blk (i := 4) (vs := [v262, v264, (.int .i64 u208.2.2.1), (.int .i64 u208.2.2.2), (.int .i64 0), v251, v210]) (cs' := [v262, v264, (.int .i64 u208.2.2.1), (.int .i64 u208.2.2.2), (.int .i64 0), v251, v210]) tf_58 rfl rfl rfl rfl hB268 hS269 rfl rfl ⟨(hS269.own_ro (i := 0) rfl).one, (hS269.own_ro (i := 1) rfl).one, rfl, rfl, rfl, (hS269.own_ro (i := 2) rfl).one, (hS269.own_ro (i := 3) rfl).one, trivial⟩ rfl ?_
    intro w275 hk278 hB276 hS277
    have hSW279 := hSW273.wr' hk278.1 hk278.2.1 (fun _ _ h => h)
    refine WL.nil (WH.ret hSW279 (WH.tk 11 rfl hP hSW279 (pr_assign rfl rfl (WH.done (by kernel_rfl) ?_))))
    exact fun a ha => hJ50 (u208.1) (u208.2.1) (u208.2.2.1) (u208.2.2.2) ([]) (u209) (true) (v262) (F263) (v264) (F265) (v251) (F252) (v210) (F211) _ hF hB276 (hS277.sel [0, 1, 2, 3, 4] rfl) a (ha.sub ⟨rfl, rfl, trivial⟩)
theorem C_impl_totalCounts (w0 : World) (x0 : ((List (List (Int × Int))) × (List Int) × Int × Int)) (v0_0 : Value) (h0_0 : rdS ty_51 (· < w0.heap.size) w0 v0_0 x0.1) (v0_1 : Value) (h0_1 : rdS ty_3 (· < w0.heap.size) w0 v0_1 x0.2.1) (r : Int) (hF : F_impl_totalCounts x0 = some r) :
  Calls Tryz.prog 54 [(.agg #[v0_0, v0_1, (.int .i64 x0.2.2.1), (.int .i64 x0.2.2.2)])].toArray w0 fun e w' => e = .returned (.int .i64 r) ∧ Below w0.heap.size w0 w' := by
 refine calls_mk' Tryz.func54 rfl Tryz.ntmps54 rfl rfl fun Q hQ hP => ?_
 have hB : Below w0.heap.size w0 w0 := Below.refl _ _
 have hS : Sep w0.heap.size w0 [] := Sep.nil _ _
 unfold F_impl_totalCounts at hF
 refine W.seq fun K1 hK1 => W.region (wl_box (cs := [v0_0, v0_1, (.int .i64 x0.2.2.1), (.int .i64 x0.2.2.2)]) rfl rfl rfl hB hS ?_)
 intro b2 w3 hb4 hB5 hS6
 refine wl_assign rfl rfl (WL.nil (fun a ha => hK1 _ _ (W.seq fun K7 hK7 => (W.region (wl_assign rfl rfl (WL.nil (fun a ha => hK7 _ _ (W.seq fun K8 hK8 => (W.seq fun K9 hK9 => (W.region (wl_field (o := 1) (off' := 1) ff_27_1 rfl rfl rfl (wl_load_blk (i := 0) (vs := [v0_1]) (v := v0_1) tf_25 rfl rfl hS6 rfl rfl rfl (wl_lenr (e := ty_3) (l := x0.2.1) Tryz.underlying25 rfl rfl h0_1 ?_)))))) a ha))))) a ha))
 refine wl_move rfl rfl (WL.nil (fun a ha => hK9 _ _ (W.block (W.loopk (fun m a w10 => ∃ (y13 : Int) (y14 : Int), St 18 [(3, (.int .i64 y13)), (7, v0_1), (8, (.int .i64 (List.length x0.2.1 : Int))), (9, (.int .i64 y14))] a ∧ Below w0.heap.size w0 w10 ∧ Sep w0.heap.size w10 [] ∧ F_impl_totalCounts_L1 x0 m y13 y14 = some r) FU ?_ ?_)) a ha))
 ·
  exact fun a ha => ⟨0, 0, ha.sub ⟨rfl, rfl, rfl, rfl, trivial⟩, hB5, (hS6.sel [] rfl), hF⟩
 ·
  rintro m17 a w10 ⟨y13, y14, ha, hB11, hS12, hF⟩ KL16 hKL16
  refine W.at ?_ ha
  cases m17 with
  | zero => exact noneE hF
  | succ m17 =>
   obtain ⟨nx15, hnx15⟩ : ∃ k, k = F_impl_totalCounts_L1 x0 m17 := ⟨_, rfl⟩
   rw [F_impl_totalCounts_L1, ← hnx15] at hF
   refine W.seq fun K18 hK18 => W.region (wl_lss rfl rfl rfl (WL.nil (fun a ha => hK18 _ _ (W.seq fun K19 hK19 => (W.cond rfl (fun h20 => ?_) (fun h20 => ?_))) a ha)))
   ·replace hF := ifP h20 hF
    refine W.skip fun a ha => hK19 _ _ (W.seq fun K21 hK21 => (W.block (W.seq fun K22 hK22 => (W.region ?_)))) a ha
    obtain ⟨u23, hu23, hF⟩ := bindE hF
    refine wl_index (e := ty_3) Tryz.underlying25 rfl rfl rfl h0_1 hu23 ?_
    rintro p24 _ rfl hp25
    refine wl_load_p (vs := [(.int .i64 u23)]) (v := (.int .i64 u23)) tf_3 rfl rfl (hp25.ro hB11) rfl rfl (wl_assign rfl rfl (WL.nil (fun a ha => hK22 _ _ (W.region (wl_move rfl rfl (wl_move rfl rfl (wl_add rfl rfl rfl (wl_assign rfl rfl (WL.nil (fun a ha => hK21 _ _ (W.region (wl_add rfl rfl rfl (wl_move rfl rfl ?_))) a ha))))))) a ha)))
    refine WL.nil ?_
    rw [hnx15] at hF
    exact fun a ha => hKL16 a _ m17 (Nat.lt_succ_self m17) ⟨(w64 (y13 + u23)), (w64 (y14 + 1)), ha.sub ⟨rfl, rfl, rfl, rfl, trivial⟩, hB11, (hS12.sel [] rfl), hF⟩
   ·replace hF := ifN h20 hF
    refine W.exit fun a ha => hK8 _ _ (W.seq fun K26 hK26 => (W.region (wl_move rfl rfl (wl_assign rfl rfl (WL.nil (fun a ha => hK26 _ _ (W.ret ?_) a ha)))))) a ha
    have hr := Option.some.inj hF
    subst hr
    exact rets (vs := [(.int .i64 y13)]) hQ rfl ⟨rv_tmp rfl, trivial⟩ ⟨rfl, hB11⟩
theorem C_impl_TotalCounts (w0 : World) (x0 : ((List (List (Int × Int))) × (List Int) × Int × Int)) (v0_0 : Value) (h0_0 : rdS ty_51 (· < w0.heap.size) w0 v0_0 x0.1) (v0_1 : Value) (h0_1 : rdS ty_3 (· < w0.heap.size) w0 v0_1 x0.2.1) (r : (Int × Bool)) (hF : F_impl_TotalCounts x0 = some r) :
  Calls Tryz.prog 20 [(.agg #[v0_0, v0_1, (.int .i64 x0.2.2.1), (.int .i64 x0.2.2.2)])].toArray w0 fun e w' => e = .returned (.tuple #[(.int .i64 r.1), (.bool r.2)]) ∧ Below w0.heap.size w0 w' := by
 refine calls_mk' Tryz.func20 rfl Tryz.ntmps20 rfl rfl fun Q hQ hP => ?_
 have hB : Below w0.heap.size w0 w0 := Below.refl _ _
 have hS : Sep w0.heap.size w0 [] := Sep.nil _ _
 unfold F_impl_TotalCounts at hF
 refine W.seq fun K1 hK1 => W.region (wl_box (cs := [v0_0, v0_1, (.int .i64 x0.2.2.1), (.int .i64 x0.2.2.2)]) rfl rfl rfl hB hS ?_)
 intro b2 w3 hb4 hB5 hS6
 refine wl_assign rfl rfl (wl_assign rfl rfl (WL.nil (fun a ha => hK1 _ _ (W.seq fun K7 hK7 => (W.seq fun K8 hK8 => (W.region (wl_load_blk (i := 0) (vs := [v0_0, v0_1, (.int .i64 x0.2.2.1), (.int .i64 x0.2.2.2)]) (v := (.agg #[v0_0, v0_1, (.int .i64 x0.2.2.1), (.int .i64 x0.2.2.2)])) tf_27 rfl rfl hS6 rfl rfl rfl ?_)))) a ha)))
 obtain ⟨u9, hu9, hF⟩ := bindE hF
 refine wl_call rfl Tryz.call27 (C_impl_IsShow w3 x0 v0_0 (h0_0.ro hB5) v0_1 (h0_1.ro hB5) _ hu9) rfl ?_
 rintro _ w10 ⟨rfl, hb11⟩
 refine ⟨_, rfl, ?_⟩
 have hB12 := hB5.trans (hb11.mono hB5.size)
 have hS13 := hS6.below hb11
 refine wl_not rfl rfl (WL.nil (fun a ha => hK8 _ _ (W.cond rfl (fun h15 => ?_) (fun h15 => ?_)) a ha))
 ·replace hF := ifP h15 hF
  refine W.seq fun K16 hK16 => W.region (wl_assign rfl rfl (wl_assign rfl rfl (WL.nil (fun a ha => hK16 _ _ (W.ret ?_) a ha))))
  have hr := Option.some.inj hF
  subst hr
  exact rets (vs := [(.int .i64 0), (.bool false)]) hQ rfl ⟨rv_tmp rfl, rv_tmp rfl, trivial⟩ ⟨rfl, hB12⟩
 ·replace hF := ifN h15 hF
  refine W.skip fun a ha => hK7 _ _ (W.seq fun K17 hK17 => (W.region (wl_load_blk (i := 0) (vs := [v0_0, v0_1, (.int .i64 x0.2.2.1), (.int .i64 x0.2.2.2)]) (v := (.agg #[v0_0, v0_1, (.int .i64 x0.2.2.1), (.int .i64 x0.2.2.2)])) tf_27 rfl rfl hS13 rfl rfl rfl ?_))) a ha
  obtain ⟨u18, hu18, hF⟩ := bindE hF
  refine wl_call rfl Tryz.call54 (C_impl_totalCounts w10 x0 v0_0 (h0_0.ro hB12) v0_1 (h0_1.ro hB12) _ hu18) rfl ?_
  rintro _ w19 ⟨rfl, hb20⟩
  refine ⟨_, rfl, ?_⟩
  have hB21 := hB12.trans (hb20.mono hB12.size)
  refine wl_assign rfl rfl (wl_assign rfl rfl (WL.nil (fun a ha => hK17 _ _ (W.ret ?_) a ha)))
  have hr := Option.some.inj hF
  subst hr
  exact rets (vs := [(.int .i64 u18), (.bool true)]) hQ rfl ⟨rv_tmp rfl, rv_tmp rfl, trivial⟩ ⟨rfl, hB21⟩
theorem C_laws_pSum (w0 : World) (x0 : (List Int)) (v0_0 : Value) (h0_0 : rdS ty_3 (· < w0.heap.size) w0 v0_0 x0) (r : Int) (hF : F_laws_pSum x0 = some r) :
  Calls Tryz.prog 21 [v0_0].toArray w0 fun e w' => e = .returned (.int .i64 r) ∧ Below w0.heap.size w0 w' := by
 refine calls_mk' Tryz.func21 rfl Tryz.ntmps21 rfl rfl fun Q hQ hP => ?_
 have hB : Below w0.heap.size w0 w0 := Below.refl _ _
 have hS : Sep w0.heap.size w0 [] := Sep.nil _ _
 unfold F_laws_pSum at hF
 refine W.seq fun K1 hK1 => W.region (wl_assign rfl rfl (WL.nil (fun a ha => hK1 _ _ (W.seq fun K2 hK2 => (W.region (wl_assign rfl rfl (WL.nil (fun a ha => hK2 _ _ (W.seq fun K3 hK3 => (W.seq fun K4 hK4 => (W.region (wl_move rfl rfl ?_)))) a ha))))) a ha)))
 refine wl_lenr (e := ty_3) (l := x0) Tryz.underlying25 rfl rfl h0_0 (wl_move rfl rfl (WL.nil (fun a ha => hK4 _ _ (W.block (W.loopk (fun m a w5 => ∃ (y8 : Int) (y9 : Int), St 17 [(3, (.int .i64 y8)), (6, v0_0), (7, (.int .i64 (List.length x0 : Int))), (8, (.int .i64 y9))] a ∧ Below w0.heap.size w0 w5 ∧ Sep w0.heap.size w5 [] ∧ F_laws_pSum_L1 x0 m y8 y9 = some r) FU ?_ ?_)) a ha)))
 ·
  exact fun a ha => ⟨0, 0, ha.sub ⟨rfl, rfl, rfl, rfl, trivial⟩, hB, (hS.sel [] rfl), hF⟩
 ·
  rintro m12 a w5 ⟨y8, y9, ha, hB6, hS7, hF⟩ KL11 hKL11
  refine W.at ?_ ha
  cases m12 with
  | zero => exact noneE hF
  | succ m12 =>
   obtain ⟨nx10, hnx10⟩ : ∃ k, k = F_laws_pSum_L1 x0 m12 := ⟨_, rfl⟩
   rw [F_laws_pSum_L1, ← hnx10] at hF
   refine W.seq fun K13 hK13 => W.region (wl_lss rfl rfl rfl (WL.nil (fun a ha => hK13 _ _ (W.seq fun K14 hK14 => (W.cond rfl (fun h15 => ?_) (fun h15 => ?_))) a ha)))
   ·replace hF := ifP h15 hF
    refine W.skip fun a ha => hK14 _ _ (W.seq fun K16 hK16 => (W.block (W.seq fun K17 hK17 => (W.region ?_)))) a ha
    obtain ⟨u18, hu18, hF⟩ := bindE hF
    refine wl_index (e := ty_3) Tryz.underlying25 rfl rfl rfl h0_0 hu18 ?_
    rintro p19 _ rfl hp20
    refine wl_load_p (vs := [(.int .i64 u18)]) (v := (.int .i64 u18)) tf_3 rfl rfl (hp20.ro hB6) rfl rfl (wl_assign rfl rfl (WL.nil (fun a ha => hK17 _ _ (W.region (wl_move rfl rfl (wl_move rfl rfl (wl_add rfl rfl rfl (wl_assign rfl rfl (WL.nil (fun a ha => hK16 _ _ (W.region (wl_add rfl rfl rfl (wl_move rfl rfl ?_))) a ha))))))) a ha)))
    refine WL.nil ?_
    rw [hnx10] at hF
    exact fun a ha => hKL11 a _ m12 (Nat.lt_succ_self m12) ⟨(w64 (y8 + u18)), (w64 (y9 + 1)), ha.sub ⟨rfl, rfl, rfl, rfl, trivial⟩, hB6, (hS7.sel [] rfl), hF⟩
   ·replace hF := ifN h15 hF
    refine W.exit fun a ha => hK3 _ _ (W.seq fun K21 hK21 => (W.region (wl_move rfl rfl (wl_assign rfl rfl (WL.nil (fun a ha => hK21 _ _ (W.ret ?_) a ha)))))) a ha
    have hr := Option.some.inj hF
    subst hr
    exact rets (vs := [(.int .i64 y8)]) hQ rfl ⟨rv_tmp rfl, trivial⟩ ⟨rfl, hB6⟩
theorem C_impl_arePerformers (w0 : World) (x0 : (List Int)) (v0_0 : Value) (h0_0 : rdS ty_3 (· < w0.heap.size) w0 v0_0 x0) (x1 : Int) (r : Bool) (hF : F_impl_arePerformers x0 x1 = some r) :
  Calls Tryz.prog 90 [v0_0, (.int .i64 x1)].toArray w0 fun e w' => e = .returned (.bool r) ∧ Below w0.heap.size w0 w' := by
 refine calls_mk' Tryz.func90 rfl Tryz.ntmps90 rfl rfl fun Q hQ hP => ?_
 have hB : Below w0.heap.size w0 w0 := Below.refl _ _
 have hS : Sep w0.heap.size w0 [] := Sep.nil _ _
 unfold F_impl_arePerformers at hF
 refine W.seq fun K1 hK1 => W.region (wl_assign rfl rfl (WL.nil (fun a ha => hK1 _ _ (W.seq fun K2 hK2 => (W.seq fun K3 hK3 => (W.region (wl_move rfl rfl (wl_lenr (e := ty_3) (l := x0) Tryz.underlying25 rfl rfl h0_0 (wl_move rfl rfl (WL.nil (fun a ha => hK3 _ _ (W.block ?_) a ha)))))))) a ha)))
 refine W.loopk (fun m a w4 => ∃ (y7 : Int), St 33 [(0, v0_0), (1, (.int .i64 x1)), (7, v0_0), (8, (.int .i64 (List.length x0 : Int))), (9, (.int .i64 y7))] a ∧ Below w0.heap.size w0 w4 ∧ Sep w0.heap.size w4 [] ∧ F_impl_arePerformers_L1 x0 x1 m y7 = some r) FU ?_ ?_
 ·
  exact fun a ha => ⟨0, ha.sub ⟨rfl, rfl, rfl, rfl, rfl, trivial⟩, hB, (hS.sel [] rfl), hF⟩
 ·
  rintro m10 a w4 ⟨y7, ha, hB5, hS6, hF⟩ KL9 hKL9
  refine W.at ?_ ha
  cases m10 with
  | zero => exact noneE hF
  | succ m10 =>
   obtain ⟨nx8, hnx8⟩ : ∃ k, k = F_impl_arePerformers_L1 x0 x1 m10 := ⟨_, rfl⟩
   rw [F_impl_arePerformers_L1, ← hnx8] at hF
   refine W.seq fun K11 hK11 => W.region (wl_lss rfl rfl rfl (WL.nil (fun a ha => hK11 _ _ (W.seq fun K12 hK12 => (W.cond rfl (fun h13 => ?_) (fun h13 => ?_))) a ha)))
   ·replace hF := ifP h13 hF
    refine W.skip fun a ha => hK12 _ _ (W.seq fun K14 hK14 => (W.block (W.seq fun K15 hK15 => (W.region (wl_move rfl rfl ?_))))) a ha
    obtain ⟨u16, hu16, hF⟩ := bindE hF
    refine wl_index (e := ty_3) Tryz.underlying25 rfl rfl rfl h0_0 hu16 ?_
    rintro p17 _ rfl hp18
    refine wl_load_p (vs := [(.int .i64 u16)]) (v := (.int .i64 u16)) tf_3 rfl rfl (hp18.ro hB5) rfl rfl (wl_assign rfl rfl (wl_assign rfl rfl (WL.nil (fun a ha => hK15 _ _ (W.seq fun K19 hK19 => ?_) a ha))))
    obtain ⟨k24, hk24, hF⟩ := jE1 hF
    have hJ25 : ∀ (y23 : Bool) (w20 : World) (_ : k24 y23 = some r) (_ : Below w0.heap.size w0 w20) (_ : Sep w0.heap.size w20 []), ∀ a, St 33 [(0, v0_0), (1, (.int .i64 x1)), (7, v0_0), (8, (.int .i64 (List.length x0 : Int))), (9, (.int .i64 y7)), (31, (.bool y23))] a → K19 a w20 := by
     intro y23 w20 hF hB21 hS22
     subst hk24
     refine fun a ha => hK19 _ _ (W.cond rfl (fun h26 => ?_) (fun h26 => ?_)) a ha
     ·replace hF := ifP h26 hF
      refine W.seq fun K27 hK27 => W.region (wl_assign rfl rfl (WL.nil (fun a ha => hK27 _ _ (W.ret ?_) a ha)))
      have hr := Option.some.inj hF
      subst hr
      exact rets (vs := [(.bool false)]) hQ rfl ⟨rv_tmp rfl, trivial⟩ ⟨rfl, hB21⟩
     ·replace hF := ifN h26 hF
      refine W.skip fun a ha => hK14 _ _ (W.region (wl_add rfl rfl rfl (wl_move rfl rfl (WL.nil ?_)))) a ha
      rw [hnx8] at hF
      exact fun a ha => hKL9 a _ m10 (Nat.lt_succ_self m10) ⟨(w64 (y7 + 1)), ha.sub ⟨rfl, rfl, rfl, rfl, rfl, trivial⟩, hB21, (hS22.sel [] rfl), hF⟩
    refine W.region (wl_move rfl rfl (wl_move rfl rfl (wl_sub rfl rfl rfl ?_)))
    obtain ⟨u28, hu28, hF⟩ := bindE hF
    refine wl_call rfl Tryz.call38 (C_impl_within w4 u16 0 (w64 (x1 - 1)) _ hu28) rfl ?_
    rintro _ w29 ⟨rfl, hb30⟩
    refine ⟨_, rfl, ?_⟩
    have hB31 := hB5.trans (hb30.mono hB5.size)
    have hS32 := hS6.below hb30
    refine wl_not rfl rfl (wl_move rfl rfl ?_)
    rcases bE (!u28) with h34 | h34
    ·replace hF := ifP h34 hF
     refine wl_off rfl rfl rfl h34 (wl_off rfl rfl rfl h34 (wl_off rfl rfl rfl h34 (wl_offu rfl rfl rfl (wl_offu rfl rfl rfl (wl_offu rfl rfl rfl (wl_offu rfl rfl rfl (wl_offu rfl rfl rfl (wl_offu rfl rfl rfl (wl_offu rfl rfl rfl (wl_off rfl rfl rfl h34 (wl_pick_t rfl rfl h34 rfl (WL.nil ?_))))))))))))
     exact fun a ha => hJ25 (true) _ hF hB31 (hS32.sel [] rfl) a (ha.sub ⟨rfl, rfl, rfl, rfl, rfl, rfl, trivial⟩)
    ·replace hF := ifN h34 hF
     refine wl_on rfl rfl h34 (wl_move rfl rfl (wl_on rfl rfl h34 (wl_gtr rfl rfl rfl (wl_on rfl rfl h34 (wl_move rfl rfl ?_)))))
     rcases bE (decide (0 < y7)) with h35 | h35
     ·replace hF := ifP h35 hF
      refine wl_on rfl rfl h35 (wl_move rfl rfl (wl_on rfl rfl h35 (wl_move rfl rfl (wl_on rfl rfl h35 (wl_sub rfl rfl rfl (wl_on rfl rfl h35 ?_))))))
      obtain ⟨u36, hu36, hF⟩ := bindE hF
      refine wl_index (e := ty_3) Tryz.underlying25 rfl rfl rfl h0_0 hu36 ?_
      rintro p37 _ rfl hp38
      refine wl_on rfl rfl h35 (wl_load_p (vs := [(.int .i64 u36)]) (v := (.int .i64 u36)) tf_3 rfl rfl (hp38.ro hB31) rfl rfl (wl_on rfl rfl h35 (wl_move rfl rfl (wl_on rfl rfl h35 (wl_geq rfl rfl rfl (wl_on rfl rfl h34 (wl_pick_t rfl rfl h35 rfl (wl_pick_f rfl rfl h34 rfl (WL.nil ?_)))))))))
      exact fun a ha => hJ25 ((decide (u16 ≤ u36))) _ hF hB31 (hS32.sel [] rfl) a (ha.sub ⟨rfl, rfl, rfl, rfl, rfl, rfl, trivial⟩)
     ·replace hF := ifN h35 hF
      refine wl_off rfl rfl rfl h35 (wl_off rfl rfl rfl h35 (wl_off rfl rfl rfl h35 (wl_off rfl rfl rfl h35 (wl_off rfl rfl rfl h35 (wl_off rfl rfl rfl h35 (wl_off rfl rfl rfl h35 (wl_on rfl rfl h34 (wl_pick_f rfl rfl h35 rfl (wl_pick_f rfl rfl h34 rfl (WL.nil ?_))))))))))
      exact fun a ha => hJ25 (false) _ hF hB31 (hS32.sel [] rfl) a (ha.sub ⟨rfl, rfl, rfl, rfl, rfl, rfl, trivial⟩)
   ·replace hF := ifN h13 hF
    refine W.exit fun a ha => hK2 _ _ (W.seq fun K39 hK39 => (W.region (wl_assign rfl rfl (WL.nil (fun a ha => hK39 _ _ (W.ret ?_) a ha))))) a ha
    have hr := Option.some.inj hF
    subst hr
    exact rets (vs := [(.bool true)]) hQ rfl ⟨rv_tmp rfl, trivial⟩ ⟨rfl, hB5⟩
theorem C_impl_IsMarch (w0 : World) (x0 : (((List (List (Int × Int))) × (List Int) × Int × Int) × Int × (List Int) × (List Int))) (v0_0 : Value) (h0_0 : rdS ty_51 (· < w0.heap.size) w0 v0_0 x0.1.1) (v0_1 : Value) (h0_1 : rdS ty_3 (· < w0.heap.size) w0 v0_1 x0.1.2.1) (v0_2 : Value) (h0_2 : rdS ty_3 (· < w0.heap.size) w0 v0_2 x0.2.2.1) (v0_3 : Value) (h0_3 : rdS ty_3 (· < w0.heap.size) w0 v0_3 x0.2.2.2) (r : Bool) (hF : F_impl_IsMarch x0 = some r) :
  Calls Tryz.prog 55 [(.agg #[v0_0, v0_1, (.int .i64 x0.1.2.2.1), (.int .i64 x0.1.2.2.2), (.int .i64 x0.2.1), v0_2, v0_3])].toArray w0 fun e w' => e = .returned (.bool r) ∧ Below w0.heap.size w0 w' := by
 refine calls_mk' Tryz.func55 rfl Tryz.ntmps55 rfl rfl fun Q hQ hP => ?_
 have hB : Below w0.heap.size w0 w0 := Below.refl _ _
 have hS : Sep w0.heap.size w0 [] := Sep.nil _ _
 unfold F_impl_IsMarch at hF
 refine W.seq fun K1 hK1 => W.region (wl_box (cs := [v0_0, v0_1, (.int .i64 x0.1.2.2.1), (.int .i64 x0.1.2.2.2), (.int .i64 x0.2.1), v0_2, v0_3]) rfl rfl rfl hB hS ?_)
 intro b2 w3 hb4 hB5 hS6
 refine wl_assign rfl rfl (WL.nil (fun a ha => hK1 _ _ (W.seq fun K7 hK7 => (W.seq fun K8 hK8 => ?_)) a ha))
 obtain ⟨k13, hk13, hF⟩ := jE1 hF
 have hJ14 : ∀ (y12 : Bool) (w9 : World) (_ : k13 y12 = some r) (_ : Below w0.heap.size w0 w9) (_ : Sep w0.heap.size w9 [R.blk b2 58 [v0_0, v0_1, (.int .i64 x0.1.2.2.1), (.int .i64 x0.1.2.2.2), (.int .i64 x0.2.1), v0_2, v0_3]]), ∀ a, St 52 [(1, (.pointer (some ⟨b2, 0, none⟩))), (38, (.bool y12))] a → K8 a w9 := by
  intro y12 w9 hF hB10 hS11
  subst hk13
  refine fun a ha => hK8 _ _ (W.cond rfl (fun h15 => ?_) (fun h15 => ?_)) a ha
  ·replace hF := ifP h15 hF
   refine W.seq fun K16 hK16 => W.region (wl_assign rfl rfl (WL.nil (fun a ha => hK16 _ _ (W.ret ?_) a ha)))
   have hr := Option.some.inj hF
   subst hr
   exact rets (vs := [(.bool false)]) hQ rfl ⟨rv_tmp rfl, trivial⟩ ⟨rfl, hB10⟩
  ·replace hF := ifN h15 hF
   refine W.skip fun a ha => hK7 _ _ (W.seq fun K17 hK17 => (W.seq fun K18 hK18 => (W.region (wl_field (o := 6) (off' := 6) ff_58_3 rfl rfl rfl (wl_load_blk (i := 0) (vs := [v0_3]) (v := v0_3) tf_25 rfl rfl hS11 rfl rfl rfl (wl_lenr (e := ty_3) (l := x0.2.2.2) Tryz.underlying25 rfl rfl h0_3 (wl_move rfl rfl (WL.nil (fun a ha => hK18 _ _ (W.block (W.loopk (fun m a w19 => ∃ (y22 : Int), St 52 [(1, (.pointer (some ⟨b2, 0, none⟩))), (40, v0_3), (41, (.int .i64 (List.length x0.2.2.2 : Int))), (42, (.int .i64 y22))] a ∧ Below w0.heap.size w0 w19 ∧ Sep w0.heap.size w19 [R.blk b2 58 [v0_0, v0_1, (.int .i64 x0.1.2.2.1), (.int .i64 x0.1.2.2.2), (.int .i64 x0.2.1), v0_2, v0_3]] ∧ F_impl_IsMarch_L1 x0 m y22 = some r) FU ?_ ?_)) a ha))))))))) a ha
   ·
    exact fun a ha => ⟨0, ha.sub ⟨rfl, rfl, rfl, rfl, trivial⟩, hB10, (hS11.sel [0] rfl), hF⟩
   ·
    rintro m25 a w19 ⟨y22, ha, hB20, hS21, hF⟩ KL24 hKL24
    refine W.at ?_ ha
    cases m25 with
    | zero => exact noneE hF
    | succ m25 =>
     obtain ⟨nx23, hnx23⟩ : ∃ k, k = F_impl_IsMarch_L1 x0 m25 := ⟨_, rfl⟩
     rw [F_impl_IsMarch_L1, ← hnx23] at hF
     refine W.seq fun K26 hK26 => W.region (wl_lss rfl rfl rfl (WL.nil (fun a ha => hK26 _ _ (W.seq fun K27 hK27 => (W.cond rfl (fun h28 => ?_) (fun h28 => ?_))) a ha)))
     ·replace hF := ifP h28 hF
      refine W.skip fun a ha => hK27 _ _ (W.seq fun K29 hK29 => (W.block (W.seq fun K30 hK30 => (W.region ?_)))) a ha
      obtain ⟨u31, hu31, hF⟩ := bindE hF
      refine wl_index (e := ty_3) Tryz.underlying25 rfl rfl rfl h0_3 hu31 ?_
      rintro p32 _ rfl hp33
      refine wl_load_p (vs := [(.int .i64 u31)]) (v := (.int .i64 u31)) tf_3 rfl rfl (hp33.ro hB20) rfl rfl (wl_assign rfl rfl (WL.nil (fun a ha => hK30 _ _ (W.seq fun K34 hK34 => (W.region (wl_move rfl rfl (wl_field (o := 4) (off' := 4) ff_58_1 rfl rfl rfl (wl_load_blk (i := 0) (vs := [(.int .i64 x0.2.1)]) (v := (.int .i64 x0.2.1)) tf_3 rfl rfl hS21 rfl rfl rfl ?_))))) a ha)))
      obtain ⟨u35, hu35, hF⟩ := bindE hF
      refine wl_call rfl Tryz.call38 (C_impl_within w19 u31 0 x0.2.1 _ hu35) rfl ?_
      rintro _ w36 ⟨rfl, hb37⟩
      refine ⟨_, rfl, ?_⟩
      have hB38 := hB20.trans (hb37.mono hB20.size)
      have hS39 := hS21.below hb37
      refine wl_not rfl rfl (WL.nil (fun a ha => hK34 _ _ (W.cond rfl (fun h41 => ?_) (fun h41 => ?_)) a ha))
      ·replace hF := ifP h41 hF
       refine W.seq fun K42 hK42 => W.region (wl_assign rfl rfl (WL.nil (fun a ha => hK42 _ _ (W.ret ?_) a ha)))
       have hr := Option.some.inj hF
       subst hr
       exact rets (vs := [(.bool false)]) hQ rfl ⟨rv_tmp rfl, trivial⟩ ⟨rfl, hB38⟩
      ·replace hF := ifN h41 hF
       refine W.skip fun a ha => hK29 _ _ (W.region (wl_add rfl rfl rfl (wl_move rfl rfl (WL.nil ?_)))) a ha
       rw [hnx23] at hF
       exact fun a ha => hKL24 a _ m25 (Nat.lt_succ_self m25) ⟨(w64 (y22 + 1)), ha.sub ⟨rfl, rfl, rfl, rfl, trivial⟩, hB38, (hS39.sel [0] rfl), hF⟩
     ·replace hF := ifN h28 hF
      refine W.exit fun a ha => hK17 _ _ (W.seq fun K43 hK43 => (W.region (wl_assign rfl rfl (WL.nil (fun a ha => hK43 _ _ (W.ret ?_) a ha))))) a ha
      have hr := Option.some.inj hF
      subst hr
      exact rets (vs := [(.bool true)]) hQ rfl ⟨rv_tmp rfl, trivial⟩ ⟨rfl, hB20⟩
 refine W.regionH mixed_ [] hB5 hS6 ?_
 intro w44 hb45 hB46 hS47
 have hSW48 := KeepX.refl w44 []
 refine WH.tk 0 rfl hP hSW48 (pr_field (o := 0) (off' := 0) ff_58_0 rfl rfl rfl (WH.tk 1 rfl hP hSW48 (pr_load_blk (i := 0) (vs := [v0_0, v0_1, (.int .i64 x0.1.2.2.1), (.int .i64 x0.1.2.2.2)]) (v := (.agg #[v0_0, v0_1, (.int .i64 x0.1.2.2.1), (.int .i64 x0.1.2.2.2)])) tf_27 rfl rfl hS47 rfl rfl rfl (by simp) (WH.on1 2 rfl ?_))))
 obtain ⟨u49, hu49, hF⟩ := bindE hF
 refine wl_call rfl Tryz.call27 (C_impl_IsShow w44 x0.1 v0_0 (h0_0.ro hB46) v0_1 (h0_1.ro hB46) _ hu49) rfl ?_
 rintro _ w50 ⟨rfl, hb51⟩
 refine ⟨_, rfl, ?_⟩
 have hB52 := hB46.trans (hb51.mono hB46.size)
 have hS53 := hS47.below hb51
 have hSW55 := hSW48.ext hb51
 refine WL.nil (WH.ret hSW55 (WH.tk 3 rfl hP hSW55 (pr_not rfl rfl (WH.tk 4 rfl hP hSW55 (pr_move rfl rfl ?_)))))
 rcases bE (!u49) with h56 | h56
 ·replace hF := ifP h56 hF
  refine WH.off (i := 5) rfl (by kernel_rfl) (by kernel_rfl) (by kernel_rfl) hP rfl rfl h56 rfl hSW55 (WH.off (i := 6) rfl (by kernel_rfl) (by kernel_rfl) (by kernel_rfl) hP rfl rfl h56 rfl hSW55 (WH.off (i := 7) rfl (by kernel_rfl) (by kernel_rfl) (by kernel_rfl) hP rfl rfl h56 rfl hSW55 (WH.off (i := 8) rfl (by kernel_rfl) (by kernel_rfl) (by kernel_rfl) hP rfl rfl h56 rfl hSW55 (WH.tk 9 rfl hP hSW55 (pr_pick_t rfl rfl h56 rfl (WH.tk 10 rfl hP hSW55 (pr_move rfl rfl (WH.off (i := 11) rfl (by kernel_rfl) (by kernel_rfl) (by kernel_rfl) hP rfl rfl rfl rfl hSW55 (WH.off (i := 12) rfl (by kernel_rfl) (by kernel_rfl) (by kernel_rfl) hP rfl rfl rfl rfl hSW55 (WH.off (i := 13) rfl (by kernel_rfl) (by kernel_rfl) (by kernel_rfl) hP rfl rfl rfl rfl hSW55 (WH.off (i := 14) rfl (by kernel_rfl) (by kernel_rfl) (by kernel_rfl) hP rfl rfl rfl rfl hSW55 ?_)))))))))))
  refine WH.off (i := 15) rfl (by kernel_rfl) (by kernel_rfl) (by kernel_rfl) hP rfl rfl rfl rfl hSW55 (WH.off (i := 16) rfl (by kernel_rfl) (by kernel_rfl) (by kernel_rfl) hP rfl rfl rfl rfl hSW55 (WH.off (i := 17) rfl (by kernel_rfl) (by kernel_rfl) (by kernel_rfl) hP rfl rfl rfl rfl hSW55 (WH.off (i := 18) rfl (by kernel_rfl) (by kernel_rfl) (by kernel_rfl) hP rfl rfl rfl rfl hSW55 (WH.off (i := 19) rfl (by kernel_rfl) (by kernel_rfl) (by kernel_rfl) hP rfl rfl rfl rfl hSW55 (WH.off (i := 20) rfl (by kernel_rfl) (by kernel_rfl) (by kernel_rfl) hP rfl rfl rfl rfl hSW55 (WH.tk 21 rfl hP hSW55 (pr_pick_t rfl rfl rfl rfl (WH.tk 22 rfl hP hSW55 (pr_move rfl rfl (WH.off (i := 23) rfl (by kernel_rfl) (by kernel_rfl) (by kernel_rfl) hP rfl rfl rfl rfl hSW55 (WH.off (i := 24) rfl (by kernel_rfl) (by kernel_rfl) (by kernel_rfl) hP rfl rfl rfl rfl hSW55 ?_)))))))))))
  refine WH.off (i := 25) rfl (by kernel_rfl) (by kernel_rfl) (by kernel_rfl) hP rfl rfl rfl rfl hSW55 (WH.off (i := 26) rfl (by kernel_rfl) (by kernel_rfl) (by kernel_rfl) hP rfl rfl rfl rfl hSW55 (WH.off (i := 27) rfl (by kernel_rfl) (by kernel_rfl) (by kernel_rfl) hP rfl rfl rfl rfl hSW55 (WH.off (i := 28) rfl (by kernel_rfl) (by kernel_rfl) (by kernel_rfl) hP rfl rfl rfl rfl hSW55 (WH.off (i := 29) rfl (by kernel_rfl) (by kernel_rfl) (by kernel_rfl) hP rfl rfl rfl rfl hSW55 (WH.off (i := 30) rfl (by kernel_rfl) (by kernel_rfl) (by kernel_rfl) hP rfl rfl rfl rfl hSW55 (WH.off (i := 31) rfl (by kernel_rfl) (by kernel_rfl) (by kernel_rfl) hP rfl rfl rfl rfl hSW55 (WH.off (i := 32) rfl (by kernel_rfl) (by kernel_rfl) (by kernel_rfl) hP rfl rfl rfl rfl hSW55 (WH.tk 33 rfl hP hSW55 (pr_pick_t rfl rfl rfl rfl (WH.done (by kernel_rfl) ?_))))))))))
  exact fun a ha => hJ14 (true) _ hF hB52 (hS53.sel [0] rfl) a (ha.sub ⟨rfl, rfl, trivial⟩)
 ·replace hF := ifN h56 hF
  refine WH.takexg (i := 5) rfl (by kernel_rfl) (by kernel_rfl) (by kernel_rfl) hP rfl rfl h56 hSW55 (pr_field (o := 4) (off' := 4) ff_58_1 rfl rfl rfl (WH.takexg (i := 6) rfl (by kernel_rfl) (by kernel_rfl) (by kernel_rfl) hP rfl rfl h56 hSW55 (pr_load_blk (i := 0) (vs := [(.int .i64 x0.2.1)]) (v := (.int .i64 x0.2.1)) tf_3 rfl rfl hS47 rfl rfl rfl (by simp) (WH.on1 7 rfl (wl_on rfl rfl h56 ?_)))))
  obtain ⟨u57, hu57, hF⟩ := bindE hF
  refine wl_call rfl Tryz.call38 (C_impl_within w50 x0.2.1 0 1000 _ hu57) rfl ?_
  rintro _ w58 ⟨rfl, hb59⟩
  refine ⟨_, rfl, ?_⟩
  have hB60 := hB52.trans (hb59.mono hB52.size)
  have hS61 := hS53.below hb59
  have hSW63 := hSW55.ext hb59
  refine WL.nil (WH.ret hSW63 (WH.takexg (i := 8) rfl (by kernel_rfl) (by kernel_rfl) (by kernel_rfl) hP rfl rfl h56 hSW63 (pr_not rfl rfl (WH.tk 9 rfl hP hSW63 (pr_pick_f rfl rfl h56 rfl (WH.tk 10 rfl hP hSW63 (pr_move rfl rfl ?_)))))))
  rcases bE (!u57) with h64 | h64
  ·replace hF := ifP h64 hF
   refine WH.off (i := 11) rfl (by kernel_rfl) (by kernel_rfl) (by kernel_rfl) hP rfl rfl h64 rfl hSW63 (WH.off (i := 12) rfl (by kernel_rfl) (by kernel_rfl) (by kernel_rfl) hP rfl rfl h64 rfl hSW63 (WH.off (i := 13) rfl (by kernel_rfl) (by kernel_rfl) (by kernel_rfl) hP rfl rfl h64 rfl hSW63 (WH.off (i := 14) rfl (by kernel_rfl) (by kernel_rfl) (by kernel_rfl) hP rfl rfl h64 rfl hSW63 (WH.off (i := 15) rfl (by kernel_rfl) (by kernel_rfl) (by kernel_rfl) hP rfl rfl h64 rfl hSW63 (WH.off (i := 16) rfl (by kernel_rfl) (by kernel_rfl) (by kernel_rfl) hP rfl rfl h64 rfl hSW63 (WH.off (i := 17) rfl (by kernel_rfl) (by kernel_rfl) (by kernel_rfl) hP rfl rfl h64 rfl hSW63 (WH.off (i := 18) rfl (by kernel_rfl) (by kernel_rfl) (by kernel_rfl) hP rfl rfl h64 rfl hSW63 (WH.off (i := 19) rfl (by kernel_rfl) (by kernel_rfl) (by kernel_rfl) hP rfl rfl h64 rfl hSW63 ?_))))))))
   refine WH.off (i := 20) rfl (by kernel_rfl) (by kernel_rfl) (by kernel_rfl) hP rfl rfl h64 rfl hSW63 (WH.tk 21 rfl hP hSW63 (pr_pick_t rfl rfl h64 rfl (WH.tk 22 rfl hP hSW63 (pr_move rfl rfl (WH.off (i := 23) rfl (by kernel_rfl) (by kernel_rfl) (by kernel_rfl) hP rfl rfl rfl rfl hSW63 (WH.off (i := 24) rfl (by kernel_rfl) (by kernel_rfl) (by kernel_rfl) hP rfl rfl rfl rfl hSW63 (WH.off (i := 25) rfl (by kernel_rfl) (by kernel_rfl) (by kernel_rfl) hP rfl rfl rfl rfl hSW63 (WH.off (i := 26) rfl (by kernel_rfl) (by kernel_rfl) (by kernel_rfl) hP rfl rfl rfl rfl hSW63 (WH.off (i := 27) rfl (by kernel_rfl) (by kernel_rfl) (by kernel_rfl) hP rfl rfl rfl rfl hSW63 (WH.off (i := 28) rfl (by kernel_rfl) (by kernel_rfl) (by kernel_rfl) hP rfl rfl rfl rfl hSW63 (WH.off (i := 29) rfl (by kernel_rfl) (by kernel_rfl) (by kernel_rfl) hP rfl rfl rfl rfl hSW63 ?_)))))))))))
   refine WH.off (i := 30) rfl (by kernel_rfl) (by kernel_rfl) (by kernel_rfl) hP rfl rfl rfl rfl hSW63 (WH.off (i := 31) rfl (by kernel_rfl) (by kernel_rfl) (by kernel_rfl) hP rfl rfl rfl rfl hSW63 (WH.off (i := 32) rfl (by kernel_rfl) (by kernel_rfl) (by kernel_rfl) hP rfl rfl rfl rfl hSW63 (WH.tk 33 rfl hP hSW63 (pr_pick_t rfl rfl rfl rfl (WH.done (by kernel_rfl) ?_)))))
   exact fun a ha => hJ14 (true) _ hF hB60 (hS61.sel [0] rfl) a (ha.sub ⟨rfl, rfl, trivial⟩)
  ·replace hF := ifN h64 hF
   refine WH.takexg (i := 11) rfl (by kernel_rfl) (by kernel_rfl) (by kernel_rfl) hP rfl rfl h64 hSW63 (pr_field (o := 5) (off' := 5) ff_58_2 rfl rfl rfl (WH.takexg (i := 12) rfl (by kernel_rfl) (by kernel_rfl) (by kernel_rfl) hP rfl rfl h64 hSW63 (pr_load_blk (i := 0) (vs := [v0_2]) (v := v0_2) tf_25 rfl rfl hS47 rfl rfl rfl (by simp) (WH.takexg (i := 13) rfl (by kernel_rfl) (by kernel_rfl) (by kernel_rfl) hP rfl rfl h64 hSW63 (pr_field (o := 0) (off' := 0) ff_58_0 rfl rfl rfl (WH.takexg (i := 14) rfl (by kernel_rfl) (by kernel_rfl) (by kernel_rfl) hP rfl rfl h64 hSW63 (pr_field (o := 0) (off' := 0) ff_27_0 rfl rfl rfl (WH.takexg (i := 15) rfl (by kernel_rfl) (by kernel_rfl) (by kernel_rfl) hP rfl rfl h64 hSW63 (pr_load_blk (i := 0) (vs := [v0_0]) (v := v0_0) tf_24 rfl rfl hS47 rfl rfl rfl (by simp) ?_)))))))))
   obtain ⟨u65, hu65, hF⟩ := bindE hF
   refine WH.takexg (i := 16) rfl (by kernel_rfl) (by kernel_rfl) (by kernel_rfl) hP rfl rfl h64 hSW63 (pr_index (e := ty_51) Tryz.underlying24 rfl rfl rfl h0_0 hu65 ?_)
   rintro p66 _ ⟨v68, rfl, hv69⟩ hp67
   refine WH.takexg (i := 17) rfl (by kernel_rfl) (by kernel_rfl) (by kernel_rfl) hP rfl rfl h64 hSW63 (pr_load_p (vs := [v68]) (v := v68) tf_51 rfl rfl (hp67.kx hB46 (by simp)) rfl rfl (WH.takexg (i := 18) rfl (by kernel_rfl) (by kernel_rfl) (by kernel_rfl) hP rfl rfl h64 hSW63 (pr_lenr (e := ty_38) (l := u65) Tryz.underlying51 rfl rfl hv69 (WH.on1 19 rfl (wl_on rfl rfl h64 ?_)))))
   obtain ⟨u70, hu70, hF⟩ := bindE hF
   refine wl_call rfl Tryz.call90 (C_impl_arePerformers w58 x0.2.2.1 v0_2 (h0_2.ro hB60) (List.length u65 : Int) _ hu70) rfl ?_
   rintro _ w71 ⟨rfl, hb72⟩
   refine ⟨_, rfl, ?_⟩
   have hB73 := hB60.trans (hb72.mono hB60.size)
   have hS74 := hS61.below hb72
   have hSW76 := hSW63.ext hb72
   refine WL.nil (WH.ret hSW76 (WH.takexg (i := 20) rfl (by kernel_rfl) (by kernel_rfl) (by kernel_rfl) hP rfl rfl h64 hSW76 (pr_not rfl rfl (WH.tk 21 rfl hP hSW76 (pr_pick_f rfl rfl h64 rfl (WH.tk 22 rfl hP hSW76 (pr_move rfl rfl ?_)))))))
   rcases bE (!u70) with h77 | h77
   ·replace hF := ifP h77 hF
    refine WH.off (i := 23) rfl (by kernel_rfl) (by kernel_rfl) (by kernel_rfl) hP rfl rfl h77 rfl hSW76 (WH.off (i := 24) rfl (by kernel_rfl) (by kernel_rfl) (by kernel_rfl) hP rfl rfl h77 rfl hSW76 (WH.off (i := 25) rfl (by kernel_rfl) (by kernel_rfl) (by kernel_rfl) hP rfl rfl h77 rfl hSW76 (WH.off (i := 26) rfl (by kernel_rfl) (by kernel_rfl) (by kernel_rfl) hP rfl rfl h77 rfl hSW76 (WH.off (i := 27) rfl (by kernel_rfl) (by kernel_rfl) (by kernel_rfl) hP rfl rfl h77 rfl hSW76 (WH.off (i := 28) rfl (by kernel_rfl) (by kernel_rfl) (by kernel_rfl) hP rfl rfl h77 rfl hSW76 (WH.off (i := 29) rfl (by kernel_rfl) (by kernel_rfl) (by kernel_rfl) hP rfl rfl h77 rfl hSW76 (WH.off (i := 30) rfl (by kernel_rfl) (by kernel_rfl) (by kernel_rfl) hP rfl rfl h77 rfl hSW76 (WH.off (i := 31) rfl (by kernel_rfl) (by kernel_rfl) (by kernel_rfl) hP rfl rfl h77 rfl hSW76 ?_))))))))
    refine WH.off (i := 32) rfl (by kernel_rfl) (by kernel_rfl) (by kernel_rfl) hP rfl rfl h77 rfl hSW76 (WH.tk 33 rfl hP hSW76 (pr_pick_t rfl rfl h77 rfl (WH.done (by kernel_rfl) ?_)))
    exact fun a ha => hJ14 (true) _ hF hB73 (hS74.sel [0] rfl) a (ha.sub ⟨rfl, rfl, trivial⟩)
   ·replace hF := ifN h77 hF
    refine WH.takexg (i := 23) rfl (by kernel_rfl) (by kernel_rfl) (by kernel_rfl) hP rfl rfl h77 hSW76 (pr_field (o := 6) (off' := 6) ff_58_3 rfl rfl rfl (WH.takexg (i := 24) rfl (by kernel_rfl) (by kernel_rfl) (by kernel_rfl) hP rfl rfl h77 hSW76 (pr_load_blk (i := 0) (vs := [v0_3]) (v := v0_3) tf_25 rfl rfl hS47 rfl rfl rfl (by simp) (WH.takexg (i := 25) rfl (by kernel_rfl) (by kernel_rfl) (by kernel_rfl) hP rfl rfl h77 hSW76 (pr_lenr (e := ty_3) (l := x0.2.2.2) Tryz.underlying25 rfl rfl h0_3 (WH.takexg (i := 26) rfl (by kernel_rfl) (by kernel_rfl) (by kernel_rfl) hP rfl rfl h77 hSW76 (pr_field (o := 0) (off' := 0) ff_58_0 rfl rfl rfl (WH.takexg (i := 27) rfl (by kernel_rfl) (by kernel_rfl) (by kernel_rfl) hP rfl rfl h77 hSW76 (pr_field (o := 0) (off' := 0) ff_27_0 rfl rfl rfl (WH.takexg (i := 28) rfl (by kernel_rfl) (by kernel_rfl) (by kernel_rfl) hP rfl rfl h77 hSW76 ?_))))))))))
    refine pr_load_blk (i := 0) (vs := [v0_0]) (v := v0_0) tf_24 rfl rfl hS47 rfl rfl rfl (by simp) ?_
    obtain ⟨u78, hu78, hF⟩ := bindE hF
    refine WH.takexg (i := 29) rfl (by kernel_rfl) (by kernel_rfl) (by kernel_rfl) hP rfl rfl h77 hSW76 (pr_index (e := ty_51) Tryz.underlying24 rfl rfl rfl h0_0 hu78 ?_)
    rintro p79 _ ⟨v81, rfl, hv82⟩ hp80
    refine WH.takexg (i := 30) rfl (by kernel_rfl) (by kernel_rfl) (by kernel_rfl) hP rfl rfl h77 hSW76 (pr_load_p (vs := [v81]) (v := v81) tf_51 rfl rfl (hp80.kx hB46 (by simp)) rfl rfl (WH.takexg (i := 31) rfl (by kernel_rfl) (by kernel_rfl) (by kernel_rfl) hP rfl rfl h77 hSW76 (pr_lenr (e := ty_38) (l := u78) Tryz.underlying51 rfl rfl hv82 (WH.takexg (i := 32) rfl (by kernel_rfl) (by kernel_rfl) (by kernel_rfl) hP rfl rfl h77 hSW76 (pr_neq rfl rfl rfl (WH.tk 33 rfl hP hSW76 (pr_pick_f rfl rfl h77 rfl (WH.done (by kernel_rfl) ?_))))))))
    exact fun a ha => hJ14 (((List.length x0.2.2.2 : Int) != (List.length u78 : Int))) _ hF hB73 (hS74.sel [0] rfl) a (ha.sub ⟨rfl, rfl, trivial⟩)
theorem C_impl_copyMarch (w0 : World) (x0 : (((List (List (Int × Int))) × (List Int) × Int × Int) × Int × (List Int) × (List Int))) (v0_0 : Value) (h0_0 : rdS ty_51 (· < w0.heap.size) w0 v0_0 x0.1.1) (v0_1 : Value) (h0_1 : rdS ty_3 (· < w0.heap.size) w0 v0_1 x0.1.2.1) (v0_2 : Value) (h0_2 : rdS ty_3 (· < w0.heap.size) w0 v0_2 x0.2.2.1) (v0_3 : Value) (h0_3 : rdS ty_3 (· < w0.heap.size) w0 v0_3 x0.2.2.2) (r : (((List (List (Int × Int))) × (List Int) × Int × Int) × Int × (List Int) × (List Int))) (hF : F_impl_copyMarch x0 = some r) :
  Calls Tryz.prog 56 [(.agg #[v0_0, v0_1, (.int .i64 x0.1.2.2.1), (.int .i64 x0.1.2.2.2), (.int .i64 x0.2.1), v0_2, v0_3])].toArray w0 fun e w' => ∃ (q0 : Value) (G0 : List Nat) (q1 : Value) (G1 : List Nat) (q2 : Value) (G2 : List Nat) (q3 : Value) (G3 : List Nat), e = .returned (.agg #[q0, q1, (.int .i64 r.1.2.2.1), (.int .i64 r.1.2.2.2), (.int .i64 r.2.1), q2, q3]) ∧ Below w0.heap.size w0 w' ∧ Sep w0.heap.size w' [R.own ty_51 G0 q0 r.1.1, R.own ty_3 G1 q1 r.1.2.1, R.own ty_3 G2 q2 r.2.2.1, R.own ty_3 G3 q3 r.2.2.2] := by
 refine calls_mk' Tryz.func56 rfl Tryz.ntmps56 rfl rfl fun Q hQ hP => ?_
 have hB : Below w0.heap.size w0 w0 := Below.refl _ _
 have hS : Sep w0.heap.size w0 [] := Sep.nil _ _
 unfold F_impl_copyMarch at hF
 refine W.seq fun K1 hK1 => W.region (wl_box (cs := [v0_0, v0_1, (.int .i64 x0.1.2.2.1), (.int .i64 x0.1.2.2.2), (.int .i64 x0.2.1), v0_2, v0_3]) rfl rfl rfl hB hS ?_)
 intro b2 w3 hb4 hB5 hS6
 refine wl_alloc (cs := [(.slice none 0 0), (.slice none 0 0), (.int .i64 0), (.int .i64 0), (.int .i64 0), (.slice none 0 0), (.slice none 0 0)]) tf_58 rfl rfl hB5 hS6 ?_
 intro b7 w8 hb9 hB10 hS11
 refine WL.nil fun a ha => hK1 _ _ (W.seq fun K12 hK12 => (W.regionH mixed_ [b7] hB10 hS11 ?_)) a ha
 intro w13 hb14 hB15 hS16
 have hSW17 := KeepX.refl w13 [b7]
 refine WH.tk 0 rfl hP hSW17 (pr_field (o := 0) (off' := 0) ff_58_0 rfl rfl rfl (WH.tk 1 rfl hP hSW17 (pr_load_blk (i := 1) (vs := [v0_0, v0_1, (.int .i64 x0.1.2.2.1), (.int .i64 x0.1.2.2.2)]) (v := (.agg #[v0_0, v0_1, (.int .i64 x0.1.2.2.1), (.int .i64 x0.1.2.2.2)])) tf_27 rfl rfl hS16 rfl rfl rfl (hS16.disj (i := 1) (j := 0) rfl rfl rfl b2 (by simp [R.blk])) (WH.tk 3 rfl hP hSW17 (pr_field (o := 4) (off' := 4) ff_58_1 rfl rfl rfl (WH.tk 4 rfl hP hSW17 (pr_load_blk (i := 1) (vs := [(.int .i64 x0.2.1)]) (v := (.int .i64 x0.2.1)) tf_3 rfl rfl hS16 rfl rfl rfl (hS16.disj (i := 1) (j := 0) rfl rfl rfl b2 (by simp [R.blk])) (WH.tk 5 rfl hP hSW17 (pr_field (o := 5) (off' := 5) ff_58_2 rfl rfl rfl (WH.tk 6 rfl hP hSW17 (pr_load_blk (i := 1) (vs := [v0_2]) (v := v0_2) tf_25 rfl rfl hS16 rfl rfl rfl (hS16.disj (i := 1) (j := 0) rfl rfl rfl b2 (by simp [R.blk])) (WH.tk 8 rfl hP hSW17 ?_))))))))))))
 refine pr_field (o := 6) (off' := 6) ff_58_3 rfl rfl rfl (WH.tk 9 rfl hP hSW17 (pr_load_blk (i := 1) (vs := [v0_3]) (v := v0_3) tf_25 rfl rfl hS16 rfl rfl rfl (hS16.disj (i := 1) (j := 0) rfl rfl rfl b2 (by simp [R.blk])) (WH.on1 2 rfl ?_)))
 obtain ⟨u18, hu18, hF⟩ := bindE hF
 refine wl_call rfl Tryz.call53 (C_impl_copyShow w13 x0.1 v0_0 (h0_0.ro hB15) v0_1 (h0_1.ro hB15) _ hu18) rfl ?_
 rintro _ w23 ⟨v19, F20, v21, F22, rfl, hb24, hM27⟩
 refine ⟨_, rfl, ?_⟩
 have hB25 := hB15.trans (hb24.mono hB15.size)
 have hS26 := hS16.join hb24 hM27 hB15.size
 have hSW30 := hSW17.ext hb24
 refine WL.nil (WH.ret hSW30 (WH.on1 7 rfl ?_))
 obtain ⟨u32, hu32, hF⟩ := bindE hF
 refine wl_call rfl Tryz.call89 (C_impl_copyInts w23 x0.2.2.1 v0_2 (h0_2.ro hB25) _ hu32) rfl ?_
 rintro _ w35 ⟨v33, F34, rfl, hb36, hM39⟩
 refine ⟨_, rfl, ?_⟩
 have hB37 := hB25.trans (hb36.mono hB25.size)
 have hS38 := hS26.join hb36 hM39 hB25.size
 have hSW41 := hSW30.ext hb36
 refine WL.nil (WH.ret hSW41 (WH.on1 10 rfl ?_))
 obtain ⟨u43, hu43, hF⟩ := bindE hF
 refine wl_call rfl Tryz.call89 (C_impl_copyInts w35 x0.2.2.2 v0_3 (h0_3.ro hB37) _ hu43) rfl ?_
 rintro _ w46 ⟨v44, F45, rfl, hb47, hM50⟩
 refine ⟨_, rfl, ?_⟩
 have hB48 := hB37.trans (hb47.mono hB37.size)
 have hS49 := hS38.join hb47 hM50 hB37.size
 have hSW52 := hSW41.ext hb47
 refine WL.nil (WH.ret hSW52 (WH.tk 11 rfl hP hSW52 (pr_build (zs := [(.slice none 0 0), (.slice none 0 0), (.int .i64 0), (.int .i64 0), (.int .i64 0), (.slice none 0 0), (.slice none 0 0)]) (out := [v19, v21, (.int .i64 u18.2.2.1), (.int .i64 u18.2.2.2), (.int .i64 x0.2.1), v33, v44]) (vs := [(.agg #[v19, v21, (.int .i64 u18.2.2.1), (.int .i64 u18.2.2.2)]), (.int .i64 x0.2.1), v33, v44]) (css := [[v19, v21, (.int .i64 u18.2.2.1), (.int .i64 u18.2.2.2)], [(.int .i64 x0.2.1)], [v33], [v44]]) tf_58 pl_58 rfl rfl (by simp only [List.map_cons, List.map_nil, cells_one ((hS49.own_ro (i := 1) rfl).one), cells_one ((hS49.own_ro (i := 0) rfl).one)] <;> rfl) rfl rfl (WH.on1 12 rfl ?_))))
 refine wl_store_blk (i := 4) (vs := [v19, v21, (.int .i64 u18.2.2.1), (.int .i64 u18.2.2.2), (.int .i64 x0.2.1), v33, v44]) (cs' := [v19, v21, (.int .i64 u18.2.2.1), (.int .i64 u18.2.2.2), (.int .i64 x0.2.1), v33, v44]) tf_58 rfl rfl rfl rfl hB48 hS49 rfl rfl ⟨(hS49.own_ro (i := 2) rfl).one, (hS49.own_ro (i := 3) rfl).one, rfl, rfl, rfl, (hS49.own_ro (i := 1) rfl).one, (hS49.own_ro (i := 0) rfl).one, trivial⟩ rfl ?_
 intro w54 hk57 hB55 hS56
 have hSW58 := hSW52.wr' hk57.1 hk57.2.1 (fun _ _ h => h)
 refine WL.nil (WH.ret hSW58 (WH.done (by kernel_rfl) (fun a ha => hK12 _ _ (W.ret ?_) a ha)))
 have hr := Option.some.inj hF
 subst hr
 exact rets (vs := [(.agg #[v19, v21, (.int .i64 u18.2.2.1), (.int .i64 u18.2.2.2), (.int .i64 x0.2.1), v33, v44])]) hQ rfl ⟨rv_cell (i := 4) tf_58 rfl hS56 rfl rfl rfl, trivial⟩ ⟨v19, F20, v21, F22, v33, F34, v44, F45, rfl, hB55, hS56.sel [2, 3, 1, 0] rfl⟩
theorem C_impl_BeatOnce (w0 : World) (x0 : (((List (List (Int × Int))) × (List Int) × Int × Int) × Int × (List Int) × (List Int))) (v0_0 : Value) (h0_0 : rdS ty_51 (· < w0.heap.size) w0 v0_0 x0.1.1) (v0_1 : Value) (h0_1 : rdS ty_3 (· < w0.heap.size) w0 v0_1 x0.1.2.1) (v0_2 : Value) (h0_2 : rdS ty_3 (· < w0.heap.size) w0 v0_2 x0.2.2.1) (v0_3 : Value) (h0_3 : rdS ty_3 (· < w0.heap.size) w0 v0_3 x0.2.2.2) (r : ((((List (List (Int × Int))) × (List Int) × Int × Int) × Int × (List Int) × (List Int)) × Bool)) (hF : F_impl_BeatOnce x0 = some r) :
  Calls Tryz.prog 22 [(.agg #[v0_0, v0_1, (.int .i64 x0.1.2.2.1), (.int .i64 x0.1.2.2.2), (.int .i64 x0.2.1), v0_2, v0_3])].toArray w0 fun e w' => ∃ (q0 : Value) (G0 : List Nat) (q1 : Value) (G1 : List Nat) (q2 : Value) (G2 : List Nat) (q3 : Value) (G3 : List Nat), e = .returned (.tuple #[(.agg #[q0, q1, (.int .i64 r.1.1.2.2.1), (.int .i64 r.1.1.2.2.2), (.int .i64 r.1.2.1), q2, q3]), (.bool r.2)]) ∧ Below w0.heap.size w0 w' ∧ Sep w0.heap.size w' [R.own ty_51 G0 q0 r.1.1.1, R.own ty_3 G1 q1 r.1.1.2.1, R.own ty_3 G2 q2 r.1.2.2.1, R.own ty_3 G3 q3 r.1.2.2.2] := by
 refine calls_mk' Tryz.func22 rfl Tryz.ntmps22 rfl rfl fun Q hQ hP => ?_
 have hB : Below w0.heap.size w0 w0 := Below.refl _ _
 have hS : Sep w0.heap.size w0 [] := Sep.nil _ _
 unfold F_impl_BeatOnce at hF
 refine W.seq fun K1 hK1 => W.region (wl_box (cs := [v0_0, v0_1, (.int .i64 x0.1.2.2.1), (.int .i64 x0.1.2.2.2), (.int .i64 x0.2.1), v0_2, v0_3]) rfl rfl rfl hB hS ?_)
 intro b2 w3 hb4 hB5 hS6
 refine wl_alloc (cs := [(.slice none 0 0), (.slice none 0 0), (.int .i64 0), (.int .i64 0), (.int .i64 0), (.slice none 0 0), (.slice none 0 0)]) tf_58 rfl rfl hB5 hS6 ?_
 intro b7 w8 hb9 hB10 hS11
 refine wl_assign rfl rfl (WL.nil (fun a ha => hK1 _ _ (W.seq fun K12 hK12 => (W.seq fun K13 hK13 => ?_)) a ha))
 obtain ⟨k18, hk18, hF⟩ := jE1 hF
 have hJ19 : ∀ (y17 : Bool) (w14 : World) (_ : k18 y17 = some r) (_ : Below w0.heap.size w0 w14) (_ : Sep w0.heap.size w14 [R.blk b2 58 [v0_0, v0_1, (.int .i64 x0.1.2.2.1), (.int .i64 x0.1.2.2.2), (.int .i64 x0.2.1), v0_2, v0_3], R.blk b7 58 [(.slice none 0 0), (.slice none 0 0), (.int .i64 0), (.int .i64 0), (.int .i64 0), (.slice none 0 0), (.slice none 0 0)]]), ∀ a, St 38 [(1, (.pointer (some ⟨b2, 0, none⟩))), (2, (.pointer (some ⟨b7, 0, none⟩))), (14, (.bool y17))] a → K13 a w14 := by
  intro y17 w14 hF hB15 hS16
  subst hk18
  refine fun a ha => hK13 _ _ (W.cond rfl (fun h20 => ?_) (fun h20 => ?_)) a ha
  ·replace hF := ifP h20 hF
   refine W.seq fun K21 hK21 => W.region (wl_build (zs := [(.slice none 0 0), (.slice none 0 0), (.int .i64 0), (.int .i64 0), (.int .i64 0), (.slice none 0 0), (.slice none 0 0)]) (out := [(.slice none 0 0), (.slice none 0 0), (.int .i64 0), (.int .i64 0), (.int .i64 0), (.slice none 0 0), (.slice none 0 0)]) (vs := []) (css := []) tf_58 pl_58 rfl rfl rfl rfl rfl (wl_store_blk (i := 1) (vs := [(.slice none 0 0), (.slice none 0 0), (.int .i64 0), (.int .i64 0), (.int .i64 0), (.slice none 0 0), (.slice none 0 0)]) (cs' := [(.slice none 0 0), (.slice none 0 0), (.int .i64 0), (.int .i64 0), (.int .i64 0), (.slice none 0 0), (.slice none 0 0)]) tf_58 rfl rfl rfl rfl hB15 hS16 rfl rfl ⟨rfl, rfl, rfl, rfl, rfl, rfl, rfl, trivial⟩ rfl ?_))
   intro w22 hk25 hB23 hS24
   refine wl_assign rfl rfl (WL.nil (fun a ha => hK21 _ _ (W.ret ?_) a ha))
   have hS26 := hS24.push0 (r := R.own ty_51 [] (.slice none 0 0) []) rfl fun _ => .inl ⟨rfl, rfl, rfl⟩
   have hS27 := hS26.push0 (r := R.own ty_3 [] (.slice none 0 0) []) rfl fun _ => .inl ⟨rfl, rfl, rfl⟩
   have hS28 := hS27.push0 (r := R.own ty_3 [] (.slice none 0 0) []) rfl fun _ => .inl ⟨rfl, rfl, rfl⟩
   have hS29 := hS28.push0 (r := R.own ty_3 [] (.slice none 0 0) []) rfl fun _ => .inl ⟨rfl, rfl, rfl⟩
   have hr := Option.some.inj hF
   subst hr
   exact rets (vs := [(.agg #[(.slice none 0 0), (.slice none 0 0), (.int .i64 0), (.int .i64 0), (.int .i64 0), (.slice none 0 0), (.slice none 0 0)]), (.bool false)]) hQ rfl ⟨rv_cell (i := 1) tf_58 rfl hS24 rfl rfl rfl, rv_tmp rfl, trivial⟩ ⟨(.slice none 0 0), [], (.slice none 0 0), [], (.slice none 0 0), [], (.slice none 0 0), [], rfl, hB23, hS29.sel [3, 2, 1, 0] rfl⟩
  ·replace hF := ifN h20 hF
   refine W.skip fun a ha => hK12 _ _ (W.seq fun K30 hK30 => (W.region (wl_load_blk (i := 0) (vs := [v0_0, v0_1, (.int .i64 x0.1.2.2.1), (.int .i64 x0.1.2.2.2), (.int .i64 x0.2.1), v0_2, v0_3]) (v := (.agg #[v0_0, v0_1, (.int .i64 x0.1.2.2.1), (.int .i64 x0.1.2.2.2), (.int .i64 x0.2.1), v0_2, v0_3])) tf_58 rfl rfl hS16 rfl rfl rfl ?_))) a ha
   obtain ⟨u31, hu31, hF⟩ := bindE hF
   refine wl_call rfl Tryz.call56 (C_impl_copyMarch w14 x0 v0_0 (h0_0.ro hB15) v0_1 (h0_1.ro hB15) v0_2 (h0_2.ro hB15) v0_3 (h0_3.ro hB15) _ hu31) rfl ?_
   rintro _ w40 ⟨v32, F33, v34, F35, v36, F37, v38, F39, rfl, hb41, hM44⟩
   refine ⟨_, rfl, ?_⟩
   have hB42 := hB15.trans (hb41.mono hB15.size)
   have hS43 := hS16.join hb41 hM44 hB15.size
   refine wl_alloc (cs := [(.slice none 0 0), (.slice none 0 0), (.int .i64 0), (.int .i64 0), (.int .i64 0), (.slice none 0 0), (.slice none 0 0)]) tf_58 rfl rfl hB42 hS43 ?_
   intro b45 w46 hb47 hB48 hS49
   refine wl_store_blk (i := 0) (vs := [v32, v34, (.int .i64 u31.1.2.2.1), (.int .i64 u31.1.2.2.2), (.int .i64 u31.2.1), v36, v38]) (cs' := [v32, v34, (.int .i64 u31.1.2.2.1), (.int .i64 u31.1.2.2.2), (.int .i64 u31.2.1), v36, v38]) tf_58 rfl rfl rfl rfl hB48 hS49 rfl rfl ⟨(hS49.own_ro (i := 1) rfl).one, (hS49.own_ro (i := 2) rfl).one, rfl, rfl, rfl, (hS49.own_ro (i := 3) rfl).one, (hS49.own_ro (i := 4) rfl).one, trivial⟩ rfl ?_
   intro w50 hk53 hB51 hS52
   refine WL.nil fun a ha => hK30 _ _ (W.seq fun K54 hK54 => (W.region (wl_field (o := 4) (off' := 4) ff_58_1 rfl rfl rfl (wl_load_blk (i := 0) (vs := [(.int .i64 u31.2.1)]) (v := (.int .i64 u31.2.1)) tf_3 rfl rfl hS52 rfl rfl rfl (wl_add rfl rfl rfl (wl_field (o := 4) (off' := 4) ff_58_1 rfl rfl rfl (wl_store_blk (i := 0) (vs := [(.int .i64 (w64 (u31.2.1 + 1)))]) (cs' := [v32, v34, (.int .i64 u31.1.2.2.1), (.int .i64 u31.1.2.2.2), (.int .i64 (w64 (u31.2.1 + 1))), v36, v38]) tf_3 rfl rfl rfl rfl hB51 hS52 rfl rfl ⟨rfl, trivial⟩ rfl ?_))))))) a ha
   intro w55 hk58 hB56 hS57
   refine WL.nil fun a ha => hK54 _ _ (W.seq fun K59 hK59 => (W.seq fun K60 hK60 => (W.region (wl_field (o := 5) (off' := 5) ff_58_2 rfl rfl rfl (wl_load_blk (i := 0) (vs := [v36]) (v := v36) tf_25 rfl rfl hS57 rfl rfl rfl (wl_lenr (e := ty_3) (l := u31.2.2.1) Tryz.underlying25 rfl rfl (hS57.own_ro (i := 3) rfl) (wl_move rfl rfl (WL.nil (fun a ha => hK60 _ _ (W.block ?_) a ha))))))))) a ha
   refine W.loopk (fun m a w61 => ∃ (l64 : (List Int)) (y67 : Int) (v65 : Value) (F66 : List Nat), St 38 [(2, (.pointer (some ⟨b7, 0, none⟩))), (4, (.pointer (some ⟨b45, 0, none⟩))), (23, v36), (24, (.int .i64 (List.length u31.2.2.1 : Int))), (25, (.int .i64 y67))] a ∧ Below w0.heap.size w0 w61 ∧ Sep w0.heap.size w61 [R.blk b7 58 [(.slice none 0 0), (.slice none 0 0), (.int .i64 0), (.int .i64 0), (.int .i64 0), (.slice none 0 0), (.slice none 0 0)], R.own ty_51 F33 v32 u31.1.1, R.own ty_3 F35 v34 u31.1.2.1, R.own ty_3 F37 v36 u31.2.2.1, R.own ty_3 F66 v65 l64, R.blk b45 58 [v32, v34, (.int .i64 u31.1.2.2.1), (.int .i64 u31.1.2.2.2), (.int .i64 (w64 (u31.2.1 + 1))), v36, v65]] ∧ F_impl_BeatOnce_L1 u31 m l64 y67 = some r) FU ?_ ?_
   ·
    exact fun a ha => ⟨u31.2.2.2, 0, v38, F39, ha.sub ⟨rfl, rfl, rfl, rfl, rfl, trivial⟩, hB56, (hS57.sel [6, 1, 2, 3, 4, 0] rfl), hF⟩
   ·
    rintro m70 a w61 ⟨l64, y67, v65, F66, ha, hB62, hS63, hF⟩ KL69 hKL69
    refine W.at ?_ ha
    cases m70 with
    | zero => exact noneE hF
    | succ m70 =>
     obtain ⟨nx68, hnx68⟩ : ∃ k, k = F_impl_BeatOnce_L1 u31 m70 := ⟨_, rfl⟩
     rw [F_impl_BeatOnce_L1, ← hnx68] at hF
     refine W.seq fun K71 hK71 => W.region (wl_lss rfl rfl rfl (WL.nil (fun a ha => hK71 _ _ (W.seq fun K72 hK72 => (W.cond rfl (fun h73 => ?_) (fun h73 => ?_))) a ha)))
     ·replace hF := ifP h73 hF
      refine W.skip fun a ha => hK72 _ _ (W.seq fun K74 hK74 => (W.block (W.seq fun K75 hK75 => (W.region ?_)))) a ha
      obtain ⟨u76, hu76, hF⟩ := bindE hF
      refine wl_indexo (e := ty_3) (i := 3) Tryz.underlying25 rfl rfl rfl hS63 rfl hu76 ?_
      rintro p77 _ rfl hp78 ho79
      refine wl_load_p (vs := [(.int .i64 u76)]) (v := (.int .i64 u76)) tf_3 rfl rfl hp78 rfl rfl (wl_assign rfl rfl (WL.nil (fun a ha => hK75 _ _ (W.region (wl_field (o := 6) (off' := 6) ff_58_3 rfl rfl rfl (wl_load_blk (i := 5) (vs := [v65]) (v := v65) tf_25 rfl rfl hS63 rfl rfl rfl (wl_move rfl rfl ?_)))) a ha)))
      obtain ⟨u80, hu80, hF⟩ := bindE hF
      refine wl_indexo (e := ty_3) (i := 4) Tryz.underlying25 rfl rfl rfl hS63 rfl hu80 ?_
      rintro p81 _ rfl hp82 ho83
      refine wl_load_p (vs := [(.int .i64 u80)]) (v := (.int .i64 u80)) tf_3 rfl rfl hp82 rfl rfl (wl_add rfl rfl rfl ?_)
      obtain ⟨u84, hu84, hF⟩ := bindE hF
      refine wl_indexo (e := ty_3) (i := 4) Tryz.underlying25 rfl rfl rfl hS63 rfl hu84 ?_
      rintro p85 _ rfl hp86 ho87
      refine wl_storeo (i := 4) (o := 0) (vs := [(.int .i64 (w64 (u80 + 1)))]) (u' := (w64 (u80 + 1))) fl_3 tf_3 rfl rfl rfl rfl ho87 hu84 hB62 hS63 rfl rfl ⟨rfl, trivial⟩ rfl ?_
      intro w88 hk91 hB89 hS90
      refine WL.nil fun a ha => hK74 _ _ (W.region (wl_add rfl rfl rfl (wl_move rfl rfl (WL.nil ?_)))) a ha
      rw [hnx68] at hF
      exact fun a ha => hKL69 a _ m70 (Nat.lt_succ_self m70) ⟨(seti l64 u76 (w64 (u80 + 1))), (w64 (y67 + 1)), v65, F66, ha.sub ⟨rfl, rfl, rfl, rfl, rfl, trivial⟩, hB89, (hS90.sel [0, 1, 2, 3, 4, 5] rfl), hF⟩
     ·replace hF := ifN h73 hF
      refine W.exit fun a ha => hK59 _ _ (W.seq fun K92 hK92 => (W.region (wl_load_blk (i := 5) (vs := [v32, v34, (.int .i64 u31.1.2.2.1), (.int .i64 u31.1.2.2.2), (.int .i64 (w64 (u31.2.1 + 1))), v36, v65]) (v := (.agg #[v32, v34, (.int .i64 u31.1.2.2.1), (.int .i64 u31.1.2.2.2), (.int .i64 (w64 (u31.2.1 + 1))), v36, v65])) tf_58 rfl rfl hS63 rfl rfl rfl (wl_store_blk (i := 0) (vs := [v32, v34, (.int .i64 u31.1.2.2.1), (.int .i64 u31.1.2.2.2), (.int .i64 (w64 (u31.2.1 + 1))), v36, v65]) (cs' := [v32, v34, (.int .i64 u31.1.2.2.1), (.int .i64 u31.1.2.2.2), (.int .i64 (w64 (u31.2.1 + 1))), v36, v65]) tf_58 rfl rfl rfl rfl hB62 hS63 rfl rfl ⟨(hS63.own_ro (i := 1) rfl).one, (hS63.own_ro (i := 2) rfl).one, rfl, rfl, rfl, (hS63.own_ro (i := 3) rfl).one, (hS63.own_ro (i := 4) rfl).one, trivial⟩ rfl ?_)))) a ha
      intro w93 hk96 hB94 hS95
      refine wl_assign rfl rfl (WL.nil (fun a ha => hK92 _ _ (W.ret ?_) a ha))
      have hr := Option.some.inj hF
      subst hr
      exact rets (vs := [(.agg #[v32, v34, (.int .i64 u31.1.2.2.1), (.int .i64 u31.1.2.2.2), (.int .i64 (w64 (u31.2.1 + 1))), v36, v65]), (.bool true)]) hQ rfl ⟨rv_cell (i := 0) tf_58 rfl hS95 rfl rfl rfl, rv_tmp rfl, trivial⟩ ⟨v32, F33, v34, F35, v36, F37, v65, F66, rfl, hB94, hS95.sel [1, 2, 3, 4] rfl⟩
 refine W.region (wl_load_blk (i := 1) (vs := [v0_0, v0_1, (.int .i64 x0.1.2.2.1), (.int .i64 x0.1.2.2.2), (.int .i64 x0.2.1), v0_2, v0_3]) (v := (.agg #[v0_0, v0_1, (.int .i64 x0.1.2.2.1), (.int .i64 x0.1.2.2.2), (.int .i64 x0.2.1), v0_2, v0_3])) tf_58 rfl rfl hS11 rfl rfl rfl ?_)
 obtain ⟨u97, hu97, hF⟩ := bindE hF
 refine wl_call rfl Tryz.call55 (C_impl_IsMarch w8 x0 v0_0 (h0_0.ro hB10) v0_1 (h0_1.ro hB10) v0_2 (h0_2.ro hB10) v0_3 (h0_3.ro hB10) _ hu97) rfl ?_
 rintro _ w98 ⟨rfl, hb99⟩
 refine ⟨_, rfl, ?_⟩
 have hB100 := hB10.trans (hb99.mono hB10.size)
 have hS101 := hS11.below hb99
 refine wl_not rfl rfl (wl_move rfl rfl ?_)
 rcases bE (!u97) with h103 | h103
 ·replace hF := ifP h103 hF
  refine wl_off rfl rfl rfl h103 (wl_off rfl rfl rfl h103 (wl_off rfl rfl rfl h103 (wl_pick_t rfl rfl h103 rfl (WL.nil ?_))))
  exact fun a ha => hJ19 (true) _ hF hB100 (hS101.sel [1, 0] rfl) a (ha.sub ⟨rfl, rfl, rfl, trivial⟩)
 ·replace hF := ifN h103 hF
  refine wl_on rfl rfl h103 (wl_field (o := 4) (off' := 4) ff_58_1 rfl rfl rfl (wl_on rfl rfl h103 (wl_load_blk (i := 1) (vs := [(.int .i64 x0.2.1)]) (v := (.int .i64 x0.2.1)) tf_3 rfl rfl hS101 rfl rfl rfl (wl_on rfl rfl h103 (wl_eql rfl rfl rfl (wl_pick_f rfl rfl h103 rfl (WL.nil ?_)))))))
  exact fun a ha => hJ19 ((x0.2.1 == 1000)) _ hF hB100 (hS101.sel [1, 0] rfl) a (ha.sub ⟨rfl, rfl, rfl, trivial⟩)
theorem C_impl_ownCount (w0 : World) (x0 : (((List (List (Int × Int))) × (List Int) × Int × Int) × Int × (List Int) × (List Int))) (v0_0 : Value) (h0_0 : rdS ty_51 (· < w0.heap.size) w0 v0_0 x0.1.1) (v0_1 : Value) (h0_1 : rdS ty_3 (· < w0.heap.size) w0 v0_1 x0.1.2.1) (v0_2 : Value) (h0_2 : rdS ty_3 (· < w0.heap.size) w0 v0_2 x0.2.2.1) (v0_3 : Value) (h0_3 : rdS ty_3 (· < w0.heap.size) w0 v0_3 x0.2.2.2) (x1 : Int) (r : Int) (hF : F_impl_ownCount x0 x1 = some r) :
  Calls Tryz.prog 58 [(.agg #[v0_0, v0_1, (.int .i64 x0.1.2.2.1), (.int .i64 x0.1.2.2.2), (.int .i64 x0.2.1), v0_2, v0_3]), (.int .i64 x1)].toArray w0 fun e w' => e = .returned (.int .i64 r) ∧ Below w0.heap.size w0 w' := by
 refine calls_mk' Tryz.func58 rfl Tryz.ntmps58 rfl rfl fun Q hQ hP => ?_
 have hB : Below w0.heap.size w0 w0 := Below.refl _ _
 have hS : Sep w0.heap.size w0 [] := Sep.nil _ _
 unfold F_impl_ownCount at hF
 refine W.seq fun K1 hK1 => W.region (wl_box (cs := [v0_0, v0_1, (.int .i64 x0.1.2.2.1), (.int .i64 x0.1.2.2.2), (.int .i64 x0.2.1), v0_2, v0_3]) rfl rfl rfl hB hS ?_)
 intro b2 w3 hb4 hB5 hS6
 refine wl_assign rfl rfl (WL.nil (fun a ha => hK1 _ _ (W.seq fun K7 hK7 => (W.regionH mixed_ [] hB5 hS6 ?_)) a ha))
 intro w8 hb9 hB10 hS11
 have hSW12 := KeepX.refl w8 []
 refine WH.tk 0 rfl hP hSW12 (pr_field (o := 4) (off' := 4) ff_58_1 rfl rfl rfl (WH.tk 1 rfl hP hSW12 (pr_load_blk (i := 0) (vs := [(.int .i64 x0.2.1)]) (v := (.int .i64 x0.2.1)) tf_3 rfl rfl hS11 rfl rfl rfl (by simp) (WH.tk 2 rfl hP hSW12 (pr_field (o := 6) (off' := 6) ff_58_3 rfl rfl rfl (WH.tk 3 rfl hP hSW12 (pr_load_blk (i := 0) (vs := [v0_3]) (v := v0_3) tf_25 rfl rfl hS11 rfl rfl rfl (by simp) (WH.tk 4 rfl hP hSW12 (pr_move rfl rfl ?_)))))))))
 obtain ⟨u13, hu13, hF⟩ := bindE hF
 refine WH.tk 5 rfl hP hSW12 (pr_index (e := ty_3) Tryz.underlying25 rfl rfl rfl h0_3 hu13 ?_)
 rintro p14 _ rfl hp15
 refine WH.tk 6 rfl hP hSW12 (pr_load_p (vs := [(.int .i64 u13)]) (v := (.int .i64 u13)) tf_3 rfl rfl (hp15.kx hB10 (by simp)) rfl rfl (WH.tk 7 rfl hP hSW12 (pr_sub rfl rfl rfl (WH.tk 8 rfl hP hSW12 (pr_field (o := 0) (off' := 0) ff_58_0 rfl rfl rfl (WH.tk 9 rfl hP hSW12 (pr_load_blk (i := 0) (vs := [v0_0, v0_1, (.int .i64 x0.1.2.2.1), (.int .i64 x0.1.2.2.2)]) (v := (.agg #[v0_0, v0_1, (.int .i64 x0.1.2.2.1), (.int .i64 x0.1.2.2.2)])) tf_27 rfl rfl hS11 rfl rfl rfl (by simp) (WH.on1 10 rfl ?_))))))))
 obtain ⟨u16, hu16, hF⟩ := bindE hF
 refine wl_call rfl Tryz.call54 (C_impl_totalCounts w8 x0.1 v0_0 (h0_0.ro hB10) v0_1 (h0_1.ro hB10) _ hu16) rfl ?_
 rintro _ w17 ⟨rfl, hb18⟩
 refine ⟨_, rfl, ?_⟩
 have hB19 := hB10.trans (hb18.mono hB10.size)
 have hSW22 := hSW12.ext hb18
 refine WL.nil (WH.ret hSW22 (WH.tk 11 rfl hP hSW22 (pr_min rfl rfl rfl (WH.tk 12 rfl hP hSW22 (pr_assign rfl rfl (WH.done (by kernel_rfl) (fun a ha => hK7 _ _ (W.ret ?_) a ha)))))))
 have hr := Option.some.inj hF
 subst hr
 exact rets (vs := [(.int .i64 (minI (w64 (x0.2.1 - u13)) u16))]) hQ rfl ⟨rv_tmp rfl, trivial⟩ ⟨rfl, hB19⟩
theorem C_impl_whereNow (w0 : World) (x0 : (((List (List (Int × Int))) × (List Int) × Int × Int) × Int × (List Int) × (List Int))) (v0_0 : Value) (h0_0 : rdS ty_51 (· < w0.heap.size) w0 v0_0 x0.1.1) (v0_1 : Value) (h0_1 : rdS ty_3 (· < w0.heap.size) w0 v0_1 x0.1.2.1) (v0_2 : Value) (h0_2 : rdS ty_3 (· < w0.heap.size) w0 v0_2 x0.2.2.1) (v0_3 : Value) (h0_3 : rdS ty_3 (· < w0.heap.size) w0 v0_3 x0.2.2.2) (x1 : Int) (r : (Int × Int)) (hF : F_impl_whereNow x0 x1 = some r) :
  Calls Tryz.prog 91 [(.agg #[v0_0, v0_1, (.int .i64 x0.1.2.2.1), (.int .i64 x0.1.2.2.2), (.int .i64 x0.2.1), v0_2, v0_3]), (.int .i64 x1)].toArray w0 fun e w' => e = .returned (.agg #[(.int .i64 r.1), (.int .i64 r.2)]) ∧ Below w0.heap.size w0 w' := by
 refine calls_mk' Tryz.func91 rfl Tryz.ntmps91 rfl rfl fun Q hQ hP => ?_
 have hB : Below w0.heap.size w0 w0 := Below.refl _ _
 have hS : Sep w0.heap.size w0 [] := Sep.nil _ _
 unfold F_impl_whereNow at hF
 refine W.seq fun K1 hK1 => W.region (wl_box (cs := [v0_0, v0_1, (.int .i64 x0.1.2.2.1), (.int .i64 x0.1.2.2.2), (.int .i64 x0.2.1), v0_2, v0_3]) rfl rfl rfl hB hS ?_)
 intro b2 w3 hb4 hB5 hS6
 refine wl_alloc (cs := [(.int .i64 0), (.int .i64 0)]) tf_38 rfl rfl hB5 hS6 ?_
 intro b7 w8 hb9 hB10 hS11
 refine WL.nil fun a ha => hK1 _ _ (W.seq fun K12 hK12 => ?_) a ha
 obtain ⟨k19, hk19, hF⟩ := jE2 hF
 have hJ20 : ∀ (y17 : Int) (y18 : Int) (b16 : Nat) (w13 : World) (_ : k19 y17 y18 = some r) (_ : Below w0.heap.size w0 w13) (_ : Sep w0.heap.size w13 [R.blk b7 38 [(.int .i64 0), (.int .i64 0)], R.blk b16 38 [(.int .i64 y17), (.int .i64 y18)]]), ∀ a, St 23 [(4, (.pointer (some ⟨b7, 0, none⟩))), (5, (.pointer (some ⟨b16, 0, none⟩)))] a → K12 a w13 := by
  intro y17 y18 b16 w13 hF hB14 hS15
  subst hk19
  refine fun a ha => hK12 _ _ (W.seq fun K21 hK21 => (W.region (wl_load_blk (i := 1) (vs := [(.int .i64 y17), (.int .i64 y18)]) (v := (.agg #[(.int .i64 y17), (.int .i64 y18)])) tf_38 rfl rfl hS15 rfl rfl rfl (wl_store_blk (i := 0) (vs := [(.int .i64 y17), (.int .i64 y18)]) (cs' := [(.int .i64 y17), (.int .i64 y18)]) tf_38 rfl rfl rfl rfl hB14 hS15 rfl rfl ⟨rfl, rfl, trivial⟩ rfl ?_)))) a ha
  intro w22 hk25 hB23 hS24
  refine WL.nil fun a ha => hK21 _ _ (W.ret ?_) a ha
  have hr := Option.some.inj hF
  subst hr
  exact rets (vs := [(.agg #[(.int .i64 y17), (.int .i64 y18)])]) hQ rfl ⟨rv_cell (i := 0) tf_38 rfl hS24 rfl rfl rfl, trivial⟩ ⟨rfl, hB23⟩
 refine W.regionH mixed_ [] hB10 hS11 ?_
 intro w26 hb27 hB28 hS29
 have hSW30 := KeepX.refl w26 []
 refine WH.tk 0 rfl hP hSW30 (pr_field (o := 0) (off' := 0) ff_58_0 rfl rfl rfl (WH.tk 1 rfl hP hSW30 (pr_field (o := 0) (off' := 0) ff_27_0 rfl rfl rfl (WH.tk 2 rfl hP hSW30 (pr_load_blk (i := 1) (vs := [v0_0]) (v := v0_0) tf_24 rfl rfl hS29 rfl rfl rfl (by simp) (WH.tk 3 rfl hP hSW30 (pr_field (o := 0) (off' := 0) ff_58_0 rfl rfl rfl (WH.tk 4 rfl hP hSW30 (pr_field (o := 1) (off' := 1) ff_27_1 rfl rfl rfl (WH.tk 5 rfl hP hSW30 (pr_load_blk (i := 1) (vs := [v0_1]) (v := v0_1) tf_25 rfl rfl hS29 rfl rfl rfl (by simp) (WH.tk 6 rfl hP hSW30 (pr_move rfl rfl ?_)))))))))))))
 refine WH.tk 8 rfl hP hSW30 (pr_load_blk (i := 1) (vs := [v0_0, v0_1, (.int .i64 x0.1.2.2.1), (.int .i64 x0.1.2.2.2), (.int .i64 x0.2.1), v0_2, v0_3]) (v := (.agg #[v0_0, v0_1, (.int .i64 x0.1.2.2.1), (.int .i64 x0.1.2.2.2), (.int .i64 x0.2.1), v0_2, v0_3])) tf_58 rfl rfl hS29 rfl rfl rfl (by simp) (WH.tk 9 rfl hP hSW30 (pr_move rfl rfl (WH.many (is := [7, 15]) (by kernel_rfl) rfl (List.forall_mem_cons.2 ⟨⟨_, rfl, ?_⟩, List.forall_mem_cons.2 ⟨⟨_, rfl, ?_⟩, fun _ h => by cases h⟩⟩)))))
 ·
  obtain ⟨u31, hu31, hF⟩ := bindE hF
  refine wl_call rfl Tryz.call29 (C_impl_sheetOf w26 x0.1.1 v0_0 (h0_0.ro hB28) x0.1.2.1 v0_1 (h0_1.ro hB28) x1 _ hu31) rfl ?_
  rintro _ w34 ⟨v32, F33, rfl, hb35, hM38⟩
  refine ⟨_, rfl, ?_⟩
  have hB36 := hB28.trans (hb35.mono hB28.size)
  have hS37 := hS29.join hb35 hM38 hB28.size
  have hSW40 := hSW30.ext hb35
  refine WL.nil (WH.ret hSW40 (WH.many (is := [10, 15]) (by kernel_rfl) rfl (List.forall_mem_cons.2 ⟨⟨_, rfl, ?_⟩, List.forall_mem_cons.2 ⟨⟨_, rfl, ?_⟩, fun _ h => by cases h⟩⟩)))
  ·
   obtain ⟨u41, hu41, hF⟩ := bindE hF
   refine wl_call rfl Tryz.call58 (C_impl_ownCount w34 x0 v0_0 (h0_0.ro hB36) v0_1 (h0_1.ro hB36) v0_2 (h0_2.ro hB36) v0_3 (h0_3.ro hB36) x1 _ hu41) rfl ?_
   rintro _ w42 ⟨rfl, hb43⟩
   refine ⟨_, rfl, ?_⟩
   have hB44 := hB36.trans (hb43.mono hB36.size)
   have hS45 := hS37.below hb43
   have hSW47 := hSW40.ext hb43
   refine WL.nil (WH.ret hSW47 (WH.many (is := [11, 15]) (by kernel_rfl) rfl (List.forall_mem_cons.2 ⟨⟨_, rfl, ?_⟩, List.forall_mem_cons.2 ⟨⟨_, rfl, ?_⟩, fun _ h => by cases h⟩⟩)))
   ·
    obtain ⟨u48, hu48, hF⟩ := bindE hF
    refine wl_call rfl Tryz.call15 (C_impl_SpotAfter w42 u31 v32 (hS45.own_ro (i := 0) rfl) u41 _ hu48) rfl ?_
    rintro _ w49 ⟨rfl, hb50⟩
    refine ⟨_, rfl, ?_⟩
    have hB51 := hB44.trans (hb50.mono hB44.size)
    have hS52 := hS45.below hb50
    have hSW54 := hSW47.ext hb50
    refine WL.nil (WH.ret hSW54 (WH.tk 12 rfl hP hSW54 (pr_move rfl rfl (WH.tk 13 rfl hP hSW54 (pr_extract rfl rfl rfl (WH.tk 14 rfl hP hSW54 (pr_extract rfl rfl rfl (WH.on1 15 rfl (wl_alloc (cs := [(.int .i64 0), (.int .i64 0)]) tf_38 rfl rfl (Below.self w49) (Sep.nil _ _) ?_)))))))))
    intro b55 w56 hb57 hB60 hM61
    have hB58 := hB51.trans (hb57.mono hB51.size)
    have hS59 := hS52.join hb57 hM61 hB51.size
    have hn62 : ∀ b ∈ [b55], w26.heap.size ≤ b := fun b hb => Nat.le_trans hSW54.size ((hM61.1 _ (List.mem_cons_self ..)).2.1 b hb).1
    have hSW63 := hSW54.ext hb57
    refine WL.nil (WH.ret hSW63 (WH.on1 16 rfl (wl_store_blk (i := 0) (vs := [(.int .i64 u48.1.1), (.int .i64 u48.1.2)]) (cs' := [(.int .i64 u48.1.1), (.int .i64 u48.1.2)]) tf_38 rfl rfl rfl rfl hB58 hS59 rfl rfl ⟨rfl, rfl, trivial⟩ rfl ?_)))
    intro w65 hk68 hB66 hS67
    have hSW69 := hSW63.wr' hk68.1 hk68.2.1 (fun b hlt hb => absurd hlt (Nat.not_lt.2 (hn62 b hb)))
    refine WL.nil (WH.ret hSW69 (WH.tk 17 rfl hP hSW69 (pr_assign rfl rfl (WH.done (by kernel_rfl) ?_))))
    exact fun a ha => hJ20 (u48.1.1) (u48.1.2) (b55) _ hF hB66 (hS67.sel [2, 0] rfl) a (ha.sub ⟨rfl, rfl, trivial⟩)
   ·
    refine wl_alloc (cs := [(.int .i64 0), (.int .i64 0)]) tf_38 rfl rfl (Below.self w42) (Sep.nil _ _) ?_
    intro b71 w72 hb73 hB76 hM77
    have hB74 := hB44.trans (hb73.mono hB44.size)
    have hS75 := hS45.join hb73 hM77 hB44.size
    have hn78 : ∀ b ∈ [b71], w26.heap.size ≤ b := fun b hb => Nat.le_trans hSW47.size ((hM77.1 _ (List.mem_cons_self ..)).2.1 b hb).1
    have hSW79 := hSW47.ext hb73
    refine WL.nil (WH.ret hSW79 (WH.on1 11 rfl ?_))
    obtain ⟨u80, hu80, hF⟩ := bindE hF
    refine wl_call rfl Tryz.call15 (C_impl_SpotAfter w72 u31 v32 (hS75.own_ro (i := 1) rfl) u41 _ hu80) rfl ?_
    rintro _ w81 ⟨rfl, hb82⟩
    refine ⟨_, rfl, ?_⟩
    have hB83 := hB74.trans (hb82.mono hB74.size)
    have hS84 := hS75.below hb82
    have hSW86 := hSW79.ext hb82
    refine WL.nil (WH.ret hSW86 (WH.tk 12 rfl hP hSW86 (pr_move rfl rfl (WH.tk 13 rfl hP hSW86 (pr_extract rfl rfl rfl (WH.tk 14 rfl hP hSW86 (pr_extract rfl rfl rfl (WH.on1 16 rfl (wl_store_blk (i := 0) (vs := [(.int .i64 u80.1.1), (.int .i64 u80.1.2)]) (cs' := [(.int .i64 u80.1.1), (.int .i64 u80.1.2)]) tf_38 rfl rfl rfl rfl hB83 hS84 rfl rfl ⟨rfl, rfl, trivial⟩ rfl ?_)))))))))
    intro w87 hk90 hB88 hS89
    have hSW91 := hSW86.wr' hk90.1 hk90.2.1 (fun b hlt hb => absurd hlt (Nat.not_lt.2 (hn78 b hb)))
    refine WL.nil (WH.ret hSW91 (WH.tk 17 rfl hP hSW91 (pr_assign rfl rfl (WH.done (by kernel_rfl) ?_))))
    exact fun a ha => hJ20 (u80.1.1) (u80.1.2) (b71) _ hF hB88 (hS89.sel [2, 0] rfl) a (ha.sub ⟨rfl, rfl, trivial⟩)
  ·
   refine wl_alloc (cs := [(.int .i64 0), (.int .i64 0)]) tf_38 rfl rfl (Below.self w34) (Sep.nil _ _) ?_
   intro b93 w94 hb95 hB98 hM99
   have hB96 := hB36.trans (hb95.mono hB36.size)
   have hS97 := hS37.join hb95 hM99 hB36.size
   have hn100 : ∀ b ∈ [b93], w26.heap.size ≤ b := fun b hb => Nat.le_trans hSW40.size ((hM99.1 _ (List.mem_cons_self ..)).2.1 b hb).1
   have hSW101 := hSW40.ext hb95
   refine WL.nil (WH.ret hSW101 (WH.on1 10 rfl ?_))
   obtain ⟨u102, hu102, hF⟩ := bindE hF
   refine wl_call rfl Tryz.call58 (C_impl_ownCount w94 x0 v0_0 (h0_0.ro hB96) v0_1 (h0_1.ro hB96) v0_2 (h0_2.ro hB96) v0_3 (h0_3.ro hB96) x1 _ hu102) rfl ?_
   rintro _ w103 ⟨rfl, hb104⟩
   refine ⟨_, rfl, ?_⟩
   have hB105 := hB96.trans (hb104.mono hB96.size)
   have hS106 := hS97.below hb104
   have hSW108 := hSW101.ext hb104
   refine WL.nil (WH.ret hSW108 (WH.on1 11 rfl ?_))
   obtain ⟨u109, hu109, hF⟩ := bindE hF
   refine wl_call rfl Tryz.call15 (C_impl_SpotAfter w103 u31 v32 (hS106.own_ro (i := 1) rfl) u102 _ hu109) rfl ?_
   rintro _ w110 ⟨rfl, hb111⟩
   refine ⟨_, rfl, ?_⟩
   have hB112 := hB105.trans (hb111.mono hB105.size)
   have hS113 := hS106.below hb111
   have hSW115 := hSW108.ext hb111
   refine WL.nil (WH.ret hSW115 (WH.tk 12 rfl hP hSW115 (pr_move rfl rfl (WH.tk 13 rfl hP hSW115 (pr_extract rfl rfl rfl (WH.tk 14 rfl hP hSW115 (pr_extract rfl rfl rfl (WH.on1 16 rfl (wl_store_blk (i := 0) (vs := [(.int .i64 u109.1.1), (.int .i64 u109.1.2)]) (cs' := [(.int .i64 u109.1.1), (.int .i64 u109.1.2)]) tf_38 rfl rfl rfl rfl hB112 hS113 rfl rfl ⟨rfl, rfl, trivial⟩ rfl ?_)))))))))
   intro w116 hk119 hB117 hS118
   have hSW120 := hSW115.wr' hk119.1 hk119.2.1 (fun b hlt hb => absurd hlt (Nat.not_lt.2 (hn100 b hb)))
   refine WL.nil (WH.ret hSW120 (WH.tk 17 rfl hP hSW120 (pr_assign rfl rfl (WH.done (by kernel_rfl) ?_))))
   exact fun a ha => hJ20 (u109.1.1) (u109.1.2) (b93) _ hF hB117 (hS118.sel [2, 0] rfl) a (ha.sub ⟨rfl, rfl, trivial⟩)
 ·
  refine wl_alloc (cs := [(.int .i64 0), (.int .i64 0)]) tf_38 rfl rfl (Below.self w26) (Sep.nil _ _) ?_
  intro b122 w123 hb124 hB127 hM128
  have hB125 := hB28.trans (hb124.mono hB28.size)
  have hS126 := hS29.join hb124 hM128 hB28.size
  have hn129 : ∀ b ∈ [b122], w26.heap.size ≤ b := fun b hb => Nat.le_trans hSW30.size ((hM128.1 _ (List.mem_cons_self ..)).2.1 b hb).1
  have hSW130 := hSW30.ext hb124
  refine WL.nil (WH.ret hSW130 (WH.on1 7 rfl ?_))
  obtain ⟨u131, hu131, hF⟩ := bindE hF
  refine wl_call rfl Tryz.call29 (C_impl_sheetOf w123 x0.1.1 v0_0 (h0_0.ro hB125) x0.1.2.1 v0_1 (h0_1.ro hB125) x1 _ hu131) rfl ?_
  rintro _ w134 ⟨v132, F133, rfl, hb135, hM138⟩
  refine ⟨_, rfl, ?_⟩
  have hB136 := hB125.trans (hb135.mono hB125.size)
  have hS137 := hS126.join hb135 hM138 hB125.size
  have hSW140 := hSW130.ext hb135
  refine WL.nil (WH.ret hSW140 (WH.on1 10 rfl ?_))
  obtain ⟨u141, hu141, hF⟩ := bindE hF
  refine wl_call rfl Tryz.call58 (C_impl_ownCount w134 x0 v0_0 (h0_0.ro hB136) v0_1 (h0_1.ro hB136) v0_2 (h0_2.ro hB136) v0_3 (h0_3.ro hB136) x1 _ hu141) rfl ?_
  rintro _ w142 ⟨rfl, hb143⟩
  refine ⟨_, rfl, ?_⟩
  have hB144 := hB136.trans (hb143.mono hB136.size)
  have hS145 := hS137.below hb143
  have hSW147 := hSW140.ext hb143
  refine WL.nil (WH.ret hSW147 (WH.on1 11 rfl ?_))
  obtain ⟨u148, hu148, hF⟩ := bindE hF
  refine wl_call rfl Tryz.call15 (C_impl_SpotAfter w142 u131 v132 (hS145.own_ro (i := 0) rfl) u141 _ hu148) rfl ?_
  rintro _ w149 ⟨rfl, hb150⟩
  refine ⟨_, rfl, ?_⟩
  have hB151 := hB144.trans (hb150.mono hB144.size)
  have hS152 := hS145.below hb150
  have hSW154 := hSW147.ext hb150
  refine WL.nil (WH.ret hSW154 (WH.tk 12 rfl hP hSW154 (pr_move rfl rfl (WH.tk 13 rfl hP hSW154 (pr_extract rfl rfl rfl (WH.tk 14 rfl hP hSW154 (pr_extract rfl rfl rfl (WH.on1 16 rfl (wl_store_blk (i := 1) (vs := [(.int .i64 u148.1.1), (.int .i64 u148.1.2)]) (cs' := [(.int .i64 u148.1.1), (.int .i64 u148.1.2)]) tf_38 rfl rfl rfl rfl hB151 hS152 rfl rfl ⟨rfl, rfl, trivial⟩ rfl ?_)))))))))
  intro w155 hk158 hB156 hS157
  have hSW159 := hSW154.wr' hk158.1 hk158.2.1 (fun b hlt hb => absurd hlt (Nat.not_lt.2 (hn129 b hb)))
  refine WL.nil (WH.ret hSW159 (WH.tk 17 rfl hP hSW159 (pr_assign rfl rfl (WH.done (by kernel_rfl) ?_))))
  exact fun a ha => hJ20 (u148.1.1) (u148.1.2) (b122) _ hF hB156 (hS157.sel [2, 1] rfl) a (ha.sub ⟨rfl, rfl, trivial⟩)
theorem C_impl_placesNow (w0 : World) (x0 : (((List (List (Int × Int))) × (List Int) × Int × Int) × Int × (List Int) × (List Int))) (v0_0 : Value) (h0_0 : rdS ty_51 (· < w0.heap.size) w0 v0_0 x0.1.1) (v0_1 : Value) (h0_1 : rdS ty_3 (· < w0.heap.size) w0 v0_1 x0.1.2.1) (v0_2 : Value) (h0_2 : rdS ty_3 (· < w0.heap.size) w0 v0_2 x0.2.2.1) (v0_3 : Value) (h0_3 : rdS ty_3 (· < w0.heap.size) w0 v0_3 x0.2.2.2) (r : (List (Int × Int))) (hF : F_impl_placesNow x0 = some r) :
  Calls Tryz.prog 57 [(.agg #[v0_0, v0_1, (.int .i64 x0.1.2.2.1), (.int .i64 x0.1.2.2.2), (.int .i64 x0.2.1), v0_2, v0_3])].toArray w0 fun e w' => ∃ (q0 : Value) (G0 : List Nat), e = .returned q0 ∧ Below w0.heap.size w0 w' ∧ Sep w0.heap.size w' [R.own ty_38 G0 q0 r] := by
 refine calls_mk' Tryz.func57 rfl Tryz.ntmps57 rfl rfl fun Q hQ hP => ?_
 have hB : Below w0.heap.size w0 w0 := Below.refl _ _
 have hS : Sep w0.heap.size w0 [] := Sep.nil _ _
 unfold F_impl_placesNow at hF
 refine W.seq fun K1 hK1 => W.region (wl_box (cs := [v0_0, v0_1, (.int .i64 x0.1.2.2.1), (.int .i64 x0.1.2.2.2), (.int .i64 x0.2.1), v0_2, v0_3]) rfl rfl rfl hB hS ?_)
 intro b2 w3 hb4 hB5 hS6
 refine wl_assign rfl rfl (WL.nil (fun a ha => hK1 _ _ (W.seq fun K7 hK7 => (W.region (wl_lit (vs := []) (l := []) fl_38 Tryz.underlying51 rfl rfl rfl rfl rfl rfl hB5 hS6 ?_))) a ha))
 intro v8 F9 w10 hb11 hB12 hS13
 refine wl_assign rfl rfl (WL.nil (fun a ha => hK7 _ _ (W.seq fun K14 hK14 => (W.seq fun K15 hK15 => (W.region (wl_field (o := 6) (off' := 6) ff_58_3 rfl rfl rfl (wl_load_blk (i := 1) (vs := [v0_3]) (v := v0_3) tf_25 rfl rfl hS13 rfl rfl rfl (wl_lenr (e := ty_3) (l := x0.2.2.2) Tryz.underlying25 rfl rfl h0_3 (wl_move rfl rfl (WL.nil (fun a ha => hK15 _ _ (W.block (W.loopk (fun m a w16 => ∃ (l19 : (List (Int × Int))) (y22 : Int) (v20 : Value) (F21 : List Nat), St 20 [(1, (.pointer (some ⟨b2, 0, none⟩))), (3, v20), (8, (.int .i64 (List.length x0.2.2.2 : Int))), (9, (.int .i64 y22))] a ∧ Below w0.heap.size w0 w16 ∧ Sep w0.heap.size w16 [R.blk b2 58 [v0_0, v0_1, (.int .i64 x0.1.2.2.1), (.int .i64 x0.1.2.2.2), (.int .i64 x0.2.1), v0_2, v0_3], R.own ty_38 F21 v20 l19] ∧ F_impl_placesNow_L1 x0 m l19 y22 = some r) FU ?_ ?_)) a ha))))))))) a ha))
 ·
  exact fun a ha => ⟨[], 0, v8, F9, ha.sub ⟨rfl, rfl, rfl, rfl, trivial⟩, hB12, (hS13.sel [1, 0] rfl), hF⟩
 ·
  rintro m25 a w16 ⟨l19, y22, v20, F21, ha, hB17, hS18, hF⟩ KL24 hKL24
  refine W.at ?_ ha
  cases m25 with
  | zero => exact noneE hF
  | succ m25 =>
   obtain ⟨nx23, hnx23⟩ : ∃ k, k = F_impl_placesNow_L1 x0 m25 := ⟨_, rfl⟩
   rw [F_impl_placesNow_L1, ← hnx23] at hF
   refine W.seq fun K26 hK26 => W.region (wl_lss rfl rfl rfl (WL.nil (fun a ha => hK26 _ _ (W.seq fun K27 hK27 => (W.cond rfl (fun h28 => ?_) (fun h28 => ?_))) a ha)))
   ·replace hF := ifP h28 hF
    refine W.skip fun a ha => hK27 _ _ (W.seq fun K29 hK29 => (W.block (W.seq fun K30 hK30 => (W.region (wl_move rfl rfl (wl_assign rfl rfl (WL.nil (fun a ha => hK30 _ _ (W.region (wl_move rfl rfl (wl_load_blk (i := 0) (vs := [v0_0, v0_1, (.int .i64 x0.1.2.2.1), (.int .i64 x0.1.2.2.2), (.int .i64 x0.2.1), v0_2, v0_3]) (v := (.agg #[v0_0, v0_1, (.int .i64 x0.1.2.2.1), (.int .i64 x0.1.2.2.2), (.int .i64 x0.2.1), v0_2, v0_3])) tf_58 rfl rfl hS18 rfl rfl rfl (wl_move rfl rfl ?_)))) a ha)))))))) a ha
    obtain ⟨u31, hu31, hF⟩ := bindE hF
    refine wl_call rfl Tryz.call91 (C_impl_whereNow w16 x0 v0_0 (h0_0.ro hB17) v0_1 (h0_1.ro hB17) v0_2 (h0_2.ro hB17) v0_3 (h0_3.ro hB17) y22 _ hu31) rfl ?_
    rintro _ w32 ⟨rfl, hb33⟩
    refine ⟨_, rfl, ?_⟩
    have hB34 := hB17.trans (hb33.mono hB17.size)
    have hS35 := hS18.below hb33
    refine wl_lit (vs := [(.agg #[(.int .i64 u31.1), (.int .i64 u31.2)])]) (l := [u31]) fl_38 Tryz.underlying51 rfl rfl rfl rfl rfl rfl hB34 hS35 ?_
    intro v37 F38 w39 hb40 hB41 hS42
    obtain ⟨u43, hu43, hF⟩ := bindE hF
    refine wl_append (i := 2) (S := (· < w39.heap.size)) fl_38 Tryz.underlying51 rfl rfl rfl hB41 hS42 rfl (hS42.own_ro (i := 0) rfl) hu43 ?_
    intro v44 F45 w46 hk47 hB48 hS49
    refine wl_assign rfl rfl (WL.nil (fun a ha => hK29 _ _ (W.region (wl_add rfl rfl rfl (wl_move rfl rfl (WL.nil ?_)))) a ha))
    rw [hnx23] at hF
    exact fun a ha => hKL24 a _ m25 (Nat.lt_succ_self m25) ⟨u43, (w64 (y22 + 1)), v44, F45, ha.sub ⟨rfl, rfl, rfl, rfl, trivial⟩, hB48, (hS49.sel [1, 2] rfl), hF⟩
   ·replace hF := ifN h28 hF
    refine W.exit fun a ha => hK14 _ _ (W.seq fun K50 hK50 => (W.region (wl_move rfl rfl (wl_assign rfl rfl (WL.nil (fun a ha => hK50 _ _ (W.ret ?_) a ha)))))) a ha
    have hr := Option.some.inj hF
    subst hr
    exact rets (vs := [v20]) hQ rfl ⟨rv_tmp rfl, trivial⟩ ⟨v20, F21, rfl, hB17, hS18.sel [1] rfl⟩
theorem C_impl_PlacesNow (w0 : World) (x0 : (((List (List (Int × Int))) × (List Int) × Int × Int) × Int × (List Int) × (List Int))) (v0_0 : Value) (h0_0 : rdS ty_51 (· < w0.heap.size) w0 v0_0 x0.1.1) (v0_1 : Value) (h0_1 : rdS ty_3 (· < w0.heap.size) w0 v0_1 x0.1.2.1) (v0_2 : Value) (h0_2 : rdS ty_3 (· < w0.heap.size) w0 v0_2 x0.2.2.1) (v0_3 : Value) (h0_3 : rdS ty_3 (· < w0.heap.size) w0 v0_3 x0.2.2.2) (r : ((List (Int × Int)) × Bool)) (hF : F_impl_PlacesNow x0 = some r) :
  Calls Tryz.prog 23 [(.agg #[v0_0, v0_1, (.int .i64 x0.1.2.2.1), (.int .i64 x0.1.2.2.2), (.int .i64 x0.2.1), v0_2, v0_3])].toArray w0 fun e w' => ∃ (q0 : Value) (G0 : List Nat), e = .returned (.tuple #[q0, (.bool r.2)]) ∧ Below w0.heap.size w0 w' ∧ Sep w0.heap.size w' [R.own ty_38 G0 q0 r.1] := by
 refine calls_mk' Tryz.func23 rfl Tryz.ntmps23 rfl rfl fun Q hQ hP => ?_
 have hB : Below w0.heap.size w0 w0 := Below.refl _ _
 have hS : Sep w0.heap.size w0 [] := Sep.nil _ _
 unfold F_impl_PlacesNow at hF
 refine W.seq fun K1 hK1 => W.region (wl_box (cs := [v0_0, v0_1, (.int .i64 x0.1.2.2.1), (.int .i64 x0.1.2.2.2), (.int .i64 x0.2.1), v0_2, v0_3]) rfl rfl rfl hB hS ?_)
 intro b2 w3 hb4 hB5 hS6
 refine wl_assign rfl rfl (wl_assign rfl rfl (WL.nil (fun a ha => hK1 _ _ (W.seq fun K7 hK7 => (W.seq fun K8 hK8 => (W.region (wl_load_blk (i := 0) (vs := [v0_0, v0_1, (.int .i64 x0.1.2.2.1), (.int .i64 x0.1.2.2.2), (.int .i64 x0.2.1), v0_2, v0_3]) (v := (.agg #[v0_0, v0_1, (.int .i64 x0.1.2.2.1), (.int .i64 x0.1.2.2.2), (.int .i64 x0.2.1), v0_2, v0_3])) tf_58 rfl rfl hS6 rfl rfl rfl ?_)))) a ha)))
 obtain ⟨u9, hu9, hF⟩ := bindE hF
 refine wl_call rfl Tryz.call55 (C_impl_IsMarch w3 x0 v0_0 (h0_0.ro hB5) v0_1 (h0_1.ro hB5) v0_2 (h0_2.ro hB5) v0_3 (h0_3.ro hB5) _ hu9) rfl ?_
 rintro _ w10 ⟨rfl, hb11⟩
 refine ⟨_, rfl, ?_⟩
 have hB12 := hB5.trans (hb11.mono hB5.size)
 have hS13 := hS6.below hb11
 refine wl_not rfl rfl (WL.nil (fun a ha => hK8 _ _ (W.cond rfl (fun h15 => ?_) (fun h15 => ?_)) a ha))
 ·replace hF := ifP h15 hF
  refine W.seq fun K16 hK16 => W.region (wl_assign rfl rfl (wl_assign rfl rfl (WL.nil (fun a ha => hK16 _ _ (W.ret ?_) a ha))))
  have hS17 := hS13.push0 (r := R.own ty_38 [] (.slice none 0 0) []) rfl fun _ => .inl ⟨rfl, rfl, rfl⟩
  have hr := Option.some.inj hF
  subst hr
  exact rets (vs := [(.slice none 0 0), (.bool false)]) hQ rfl ⟨rv_tmp rfl, rv_tmp rfl, trivial⟩ ⟨(.slice none 0 0), [], rfl, hB12, hS17.sel [0] rfl⟩
 ·replace hF := ifN h15 hF
  refine W.skip fun a ha => hK7 _ _ (W.seq fun K18 hK18 => (W.region (wl_load_blk (i := 0) (vs := [v0_0, v0_1, (.int .i64 x0.1.2.2.1), (.int .i64 x0.1.2.2.2), (.int .i64 x0.2.1), v0_2, v0_3]) (v := (.agg #[v0_0, v0_1, (.int .i64 x0.1.2.2.1), (.int .i64 x0.1.2.2.2), (.int .i64 x0.2.1), v0_2, v0_3])) tf_58 rfl rfl hS13 rfl rfl rfl ?_))) a ha
  obtain ⟨u19, hu19, hF⟩ := bindE hF
  refine wl_call rfl Tryz.call57 (C_impl_placesNow w10 x0 v0_0 (h0_0.ro hB12) v0_1 (h0_1.ro hB12) v0_2 (h0_2.ro hB12) v0_3 (h0_3.ro hB12) _ hu19) rfl ?_
  rintro _ w22 ⟨v20, F21, rfl, hb23, hM26⟩
  refine ⟨_, rfl, ?_⟩
  have hB24 := hB12.trans (hb23.mono hB12.size)
  have hS25 := hS13.join hb23 hM26 hB12.size
  refine wl_assign rfl rfl (wl_assign rfl rfl (WL.nil (fun a ha => hK18 _ _ (W.ret ?_) a ha)))
  have hr := Option.some.inj hF
  subst hr
  exact rets (vs := [v20, (.bool true)]) hQ rfl ⟨rv_tmp rfl, rv_tmp rfl, trivial⟩ ⟨v20, F21, rfl, hB24, hS25.sel [0] rfl⟩
theorem C_impl_StillGoing (w0 : World) (x0 : (((List (List (Int × Int))) × (List Int) × Int × Int) × Int × (List Int) × (List Int))) (v0_0 : Value) (h0_0 : rdS ty_51 (· < w0.heap.size) w0 v0_0 x0.1.1) (v0_1 : Value) (h0_1 : rdS ty_3 (· < w0.heap.size) w0 v0_1 x0.1.2.1) (v0_2 : Value) (h0_2 : rdS ty_3 (· < w0.heap.size) w0 v0_2 x0.2.2.1) (v0_3 : Value) (h0_3 : rdS ty_3 (· < w0.heap.size) w0 v0_3 x0.2.2.2) (r : ((List Int) × Bool)) (hF : F_impl_StillGoing x0 = some r) :
  Calls Tryz.prog 24 [(.agg #[v0_0, v0_1, (.int .i64 x0.1.2.2.1), (.int .i64 x0.1.2.2.2), (.int .i64 x0.2.1), v0_2, v0_3])].toArray w0 fun e w' => ∃ (q0 : Value) (G0 : List Nat), e = .returned (.tuple #[q0, (.bool r.2)]) ∧ Below w0.heap.size w0 w' ∧ Sep w0.heap.size w' [R.own ty_3 G0 q0 r.1] := by
 refine calls_mk' Tryz.func24 rfl Tryz.ntmps24 rfl rfl fun Q hQ hP => ?_
 have hB : Below w0.heap.size w0 w0 := Below.refl _ _
 have hS : Sep w0.heap.size w0 [] := Sep.nil _ _
 unfold F_impl_StillGoing at hF
 refine W.seq fun K1 hK1 => W.region (wl_box (cs := [v0_0, v0_1, (.int .i64 x0.1.2.2.1), (.int .i64 x0.1.2.2.2), (.int .i64 x0.2.1), v0_2, v0_3]) rfl rfl rfl hB hS ?_)
 intro b2 w3 hb4 hB5 hS6
 refine wl_assign rfl rfl (wl_assign rfl rfl (WL.nil (fun a ha => hK1 _ _ (W.seq fun K7 hK7 => (W.seq fun K8 hK8 => (W.region (wl_load_blk (i := 0) (vs := [v0_0, v0_1, (.int .i64 x0.1.2.2.1), (.int .i64 x0.1.2.2.2), (.int .i64 x0.2.1), v0_2, v0_3]) (v := (.agg #[v0_0, v0_1, (.int .i64 x0.1.2.2.1), (.int .i64 x0.1.2.2.2), (.int .i64 x0.2.1), v0_2, v0_3])) tf_58 rfl rfl hS6 rfl rfl rfl ?_)))) a ha)))
 obtain ⟨u9, hu9, hF⟩ := bindE hF
 refine wl_call rfl Tryz.call55 (C_impl_IsMarch w3 x0 v0_0 (h0_0.ro hB5) v0_1 (h0_1.ro hB5) v0_2 (h0_2.ro hB5) v0_3 (h0_3.ro hB5) _ hu9) rfl ?_
 rintro _ w10 ⟨rfl, hb11⟩
 refine ⟨_, rfl, ?_⟩
 have hB12 := hB5.trans (hb11.mono hB5.size)
 have hS13 := hS6.below hb11
 refine wl_not rfl rfl (WL.nil (fun a ha => hK8 _ _ (W.cond rfl (fun h15 => ?_) (fun h15 => ?_)) a ha))
 ·replace hF := ifP h15 hF
  refine W.seq fun K16 hK16 => W.region (wl_assign rfl rfl (wl_assign rfl rfl (WL.nil (fun a ha => hK16 _ _ (W.ret ?_) a ha))))
  have hS17 := hS13.push0 (r := R.own ty_3 [] (.slice none 0 0) []) rfl fun _ => .inl ⟨rfl, rfl, rfl⟩
  have hr := Option.some.inj hF
  subst hr
  exact rets (vs := [(.slice none 0 0), (.bool false)]) hQ rfl ⟨rv_tmp rfl, rv_tmp rfl, trivial⟩ ⟨(.slice none 0 0), [], rfl, hB12, hS17.sel [0] rfl⟩
 ·replace hF := ifN h15 hF
  refine W.skip fun a ha => hK7 _ _ (W.seq fun K18 hK18 => (W.region (wl_lit (vs := []) (l := []) fl_3 Tryz.underlying25 rfl rfl rfl rfl rfl rfl hB12 hS13 ?_))) a ha
  intro v19 F20 w21 hb22 hB23 hS24
  refine wl_assign rfl rfl (WL.nil (fun a ha => hK18 _ _ (W.seq fun K25 hK25 => (W.seq fun K26 hK26 => (W.region (wl_field (o := 6) (off' := 6) ff_58_3 rfl rfl rfl (wl_load_blk (i := 1) (vs := [v0_3]) (v := v0_3) tf_25 rfl rfl hS24 rfl rfl rfl (wl_lenr (e := ty_3) (l := x0.2.2.2) Tryz.underlying25 rfl rfl h0_3 (wl_move rfl rfl (WL.nil (fun a ha => hK26 _ _ (W.block (W.loopk (fun m a w27 => ∃ (l30 : (List Int)) (y33 : Int) (v31 : Value) (F32 : List Nat), St 29 [(1, (.pointer (some ⟨b2, 0, none⟩))), (4, v31), (12, (.int .i64 (List.length x0.2.2.2 : Int))), (13, (.int .i64 y33))] a ∧ Below w0.heap.size w0 w27 ∧ Sep w0.heap.size w27 [R.blk b2 58 [v0_0, v0_1, (.int .i64 x0.1.2.2.1), (.int .i64 x0.1.2.2.2), (.int .i64 x0.2.1), v0_2, v0_3], R.own ty_3 F32 v31 l30] ∧ F_impl_StillGoing_L1 x0 m l30 y33 = some r) FU ?_ ?_)) a ha))))))))) a ha))
  ·
   exact fun a ha => ⟨[], 0, v19, F20, ha.sub ⟨rfl, rfl, rfl, rfl, trivial⟩, hB23, (hS24.sel [1, 0] rfl), hF⟩
  ·
   rintro m36 a w27 ⟨l30, y33, v31, F32, ha, hB28, hS29, hF⟩ KL35 hKL35
   refine W.at ?_ ha
   cases m36 with
   | zero => exact noneE hF
   | succ m36 =>
    obtain ⟨nx34, hnx34⟩ : ∃ k, k = F_impl_StillGoing_L1 x0 m36 := ⟨_, rfl⟩
    rw [F_impl_StillGoing_L1, ← hnx34] at hF
    refine W.seq fun K37 hK37 => W.region (wl_lss rfl rfl rfl (WL.nil (fun a ha => hK37 _ _ (W.seq fun K38 hK38 => (W.cond rfl (fun h39 => ?_) (fun h39 => ?_))) a ha)))
    ·replace hF := ifP h39 hF
     refine W.skip fun a ha => hK38 _ _ (W.seq fun K40 hK40 => ?_) a ha
     obtain ⟨k47, hk47, hF⟩ := jE1 hF
     have hJ48 : ∀ (l44 : (List Int)) (v45 : Value) (F46 : List Nat) (w41 : World) (_ : k47 l44 = some r) (_ : Below w0.heap.size w0 w41) (_ : Sep w0.heap.size w41 [R.blk b2 58 [v0_0, v0_1, (.int .i64 x0.1.2.2.1), (.int .i64 x0.1.2.2.2), (.int .i64 x0.2.1), v0_2, v0_3], R.own ty_3 F46 v45 l44]), ∀ a, St 29 [(1, (.pointer (some ⟨b2, 0, none⟩))), (4, v45), (12, (.int .i64 (List.length x0.2.2.2 : Int))), (13, (.int .i64 y33))] a → K40 a w41 := by
      intro l44 v45 F46 w41 hF hB42 hS43
      subst hk47
      refine fun a ha => hK40 _ _ (W.region (wl_add rfl rfl rfl (wl_move rfl rfl (WL.nil ?_)))) a ha
      rw [hnx34] at hF
      exact fun a ha => hKL35 a _ m36 (Nat.lt_succ_self m36) ⟨l44, (w64 (y33 + 1)), v45, F46, ha.sub ⟨rfl, rfl, rfl, rfl, trivial⟩, hB42, (hS43.sel [0, 1] rfl), hF⟩
     refine W.block (W.seq fun K49 hK49 => (W.region (wl_move rfl rfl (wl_assign rfl rfl (WL.nil (fun a ha => hK49 _ _ (W.seq fun K50 hK50 => (W.regionH mixed_ [] hB28 hS29 ?_)) a ha))))))
     intro w51 hb52 hB53 hS54
     have hSW55 := KeepX.refl w51 []
     refine WH.tk 0 rfl hP hSW55 (pr_load_blk (i := 0) (vs := [v0_0, v0_1, (.int .i64 x0.1.2.2.1), (.int .i64 x0.1.2.2.2), (.int .i64 x0.2.1), v0_2, v0_3]) (v := (.agg #[v0_0, v0_1, (.int .i64 x0.1.2.2.1), (.int .i64 x0.1.2.2.2), (.int .i64 x0.2.1), v0_2, v0_3])) tf_58 rfl rfl hS54 rfl rfl rfl (by simp) (WH.tk 1 rfl hP hSW55 (pr_move rfl rfl (WH.tk 3 rfl hP hSW55 (pr_field (o := 0) (off' := 0) ff_58_0 rfl rfl rfl (WH.tk 4 rfl hP hSW55 (pr_load_blk (i := 0) (vs := [v0_0, v0_1, (.int .i64 x0.1.2.2.1), (.int .i64 x0.1.2.2.2)]) (v := (.agg #[v0_0, v0_1, (.int .i64 x0.1.2.2.1), (.int .i64 x0.1.2.2.2)])) tf_27 rfl rfl hS54 rfl rfl rfl (by simp) (WH.on1 2 rfl ?_))))))))
     obtain ⟨u56, hu56, hF⟩ := bindE hF
     refine wl_call rfl Tryz.call58 (C_impl_ownCount w51 x0 v0_0 (h0_0.ro hB53) v0_1 (h0_1.ro hB53) v0_2 (h0_2.ro hB53) v0_3 (h0_3.ro hB53) y33 _ hu56) rfl ?_
     rintro _ w57 ⟨rfl, hb58⟩
     refine ⟨_, rfl, ?_⟩
     have hB59 := hB53.trans (hb58.mono hB53.size)
     have hS60 := hS54.below hb58
     have hSW62 := hSW55.ext hb58
     refine WL.nil (WH.ret hSW62 (WH.on1 5 rfl ?_))
     obtain ⟨u63, hu63, hF⟩ := bindE hF
     refine wl_call rfl Tryz.call54 (C_impl_totalCounts w57 x0.1 v0_0 (h0_0.ro hB59) v0_1 (h0_1.ro hB59) _ hu63) rfl ?_
     rintro _ w65 ⟨rfl, hb66⟩
     refine ⟨_, rfl, ?_⟩
     have hB67 := hB59.trans (hb66.mono hB59.size)
     have hS68 := hS60.below hb66
     have hSW70 := hSW62.ext hb66
     refine WL.nil (WH.ret hSW70 (WH.tk 6 rfl hP hSW70 (pr_lss rfl rfl rfl (WH.done (by kernel_rfl) (fun a ha => hK50 _ _ (W.cond rfl (fun h71 => ?_) (fun h71 => ?_)) a ha)))))
     ·replace hF := ifP h71 hF
      refine W.region (wl_move rfl rfl (wl_move rfl rfl (wl_lit (vs := [(.int .i64 y33)]) (l := [y33]) fl_3 Tryz.underlying25 rfl rfl rfl rfl rfl rfl hB67 hS68 ?_)))
      intro v72 F73 w74 hb75 hB76 hS77
      obtain ⟨u78, hu78, hF⟩ := bindE hF
      refine wl_append (i := 2) (S := (· < w74.heap.size)) fl_3 Tryz.underlying25 rfl rfl rfl hB76 hS77 rfl (hS77.own_ro (i := 0) rfl) hu78 ?_
      intro v79 F80 w81 hk82 hB83 hS84
      refine wl_assign rfl rfl (WL.nil ?_)
      exact fun a ha => hJ48 (u78) (v79) (F80) _ hF hB83 (hS84.sel [1, 2] rfl) a (ha.sub ⟨rfl, rfl, rfl, rfl, trivial⟩)
     ·replace hF := ifN h71 hF
      refine W.skip ?_
      exact fun a ha => hJ48 (l30) (v31) (F32) _ hF hB67 (hS68.sel [0, 1] rfl) a (ha.sub ⟨rfl, rfl, rfl, rfl, trivial⟩)
    ·replace hF := ifN h39 hF
     refine W.exit fun a ha => hK25 _ _ (W.seq fun K85 hK85 => (W.region (wl_move rfl rfl (wl_assign rfl rfl (wl_assign rfl rfl (WL.nil (fun a ha => hK85 _ _ (W.ret ?_) a ha))))))) a ha
     have hr := Option.some.inj hF
     subst hr
     exact rets (vs := [v31, (.bool true)]) hQ rfl ⟨rv_tmp rfl, rv_tmp rfl, trivial⟩ ⟨v31, F32, rfl, hB28, hS29.sel [1] rfl⟩
theorem C_laws_pSameSpots (w0 : World) (x0 : (List (Int × Int))) (v0_0 : Value) (h0_0 : rdS ty_38 (· < w0.heap.size) w0 v0_0 x0) (x1 : (List (Int × Int))) (v1_0 : Value) (h1_0 : rdS ty_38 (· < w0.heap.size) w0 v1_0 x1) (r : Bool) (hF : F_laws_pSameSpots x0 x1 = some r) :
  Calls Tryz.prog 25 [v0_0, v1_0].toArray w0 fun e w' => e = .returned (.bool r) ∧ Below w0.heap.size w0 w' := by
 refine calls_mk' Tryz.func25 rfl Tryz.ntmps25 rfl rfl fun Q hQ hP => ?_
 have hB : Below w0.heap.size w0 w0 := Below.refl _ _
 have hS : Sep w0.heap.size w0 [] := Sep.nil _ _
 unfold F_laws_pSameSpots at hF
 refine W.seq fun K1 hK1 => W.region (wl_assign rfl rfl (WL.nil (fun a ha => hK1 _ _ (W.seq fun K2 hK2 => (W.seq fun K3 hK3 => (W.region (wl_move rfl rfl (wl_lenr (e := ty_38) (l := x0) Tryz.underlying51 rfl rfl h0_0 (wl_move rfl rfl (wl_lenr (e := ty_38) (l := x1) Tryz.underlying51 rfl rfl h1_0 (wl_neq rfl rfl rfl (WL.nil ?_))))))))) a ha)))
 refine fun a ha => hK3 _ _ (W.cond rfl (fun h4 => ?_) (fun h4 => ?_)) a ha
 ·replace hF := ifP h4 hF
  refine W.seq fun K5 hK5 => W.region (wl_assign rfl rfl (WL.nil (fun a ha => hK5 _ _ (W.ret ?_) a ha)))
  have hr := Option.some.inj hF
  subst hr
  exact rets (vs := [(.bool false)]) hQ rfl ⟨rv_tmp rfl, trivial⟩ ⟨rfl, hB⟩
 ·replace hF := ifN h4 hF
  refine W.skip fun a ha => hK2 _ _ (W.seq fun K6 hK6 => (W.seq fun K7 hK7 => (W.region (wl_move rfl rfl (wl_lenr (e := ty_38) (l := x0) Tryz.underlying51 rfl rfl h0_0 (wl_move rfl rfl (WL.nil (fun a ha => hK7 _ _ (W.block (W.loopk (fun m a w8 => ∃ (y11 : Int), St 26 [(0, v0_0), (1, v1_0), (12, (.int .i64 (List.length x0 : Int))), (13, (.int .i64 y11))] a ∧ Below w0.heap.size w0 w8 ∧ Sep w0.heap.size w8 [] ∧ F_laws_pSameSpots_L1 x0 x1 m y11 = some r) FU ?_ ?_)) a ha)))))))) a ha
  ·
   exact fun a ha => ⟨0, ha.sub ⟨rfl, rfl, rfl, rfl, trivial⟩, hB, (hS.sel [] rfl), hF⟩
  ·
   rintro m14 a w8 ⟨y11, ha, hB9, hS10, hF⟩ KL13 hKL13
   refine W.at ?_ ha
   cases m14 with
   | zero => exact noneE hF
   | succ m14 =>
    obtain ⟨nx12, hnx12⟩ : ∃ k, k = F_laws_pSameSpots_L1 x0 x1 m14 := ⟨_, rfl⟩
    rw [F_laws_pSameSpots_L1, ← hnx12] at hF
    refine W.seq fun K15 hK15 => W.region (wl_lss rfl rfl rfl (WL.nil (fun a ha => hK15 _ _ (W.seq fun K16 hK16 => (W.cond rfl (fun h17 => ?_) (fun h17 => ?_))) a ha)))
    ·replace hF := ifP h17 hF
     refine W.skip fun a ha => hK16 _ _ (W.seq fun K18 hK18 => (W.block (W.seq fun K19 hK19 => (W.region (wl_move rfl rfl (wl_assign rfl rfl (WL.nil (fun a ha => hK19 _ _ (W.seq fun K20 hK20 => (W.regionH mixed_ [] hB9 hS10 ?_)) a ha)))))))) a ha
     intro w21 hb22 hB23 hS24
     have hSW25 := KeepX.refl w21 []
     refine WH.tk 0 rfl hP hSW25 (pr_move rfl rfl (WH.tk 1 rfl hP hSW25 (pr_move rfl rfl ?_)))
     obtain ⟨u26, hu26, hF⟩ := bindE hF
     refine WH.tk 2 rfl hP hSW25 (pr_index (e := ty_38) Tryz.underlying51 rfl rfl rfl h0_0 hu26 ?_)
     rintro p27 _ rfl hp28
     refine WH.tk 3 rfl hP hSW25 (pr_load_p (vs := [(.int .i64 u26.1), (.int .i64 u26.2)]) (v := (.agg #[(.int .i64 u26.1), (.int .i64 u26.2)])) tf_38 rfl rfl (hp28.kx hB23 (by simp)) rfl rfl (WH.tk 4 rfl hP hSW25 (pr_move rfl rfl (WH.tk 5 rfl hP hSW25 (pr_move rfl rfl ?_)))))
     obtain ⟨u29, hu29, hF⟩ := bindE hF
     refine WH.tk 6 rfl hP hSW25 (pr_index (e := ty_38) Tryz.underlying51 rfl rfl rfl h1_0 hu29 ?_)
     rintro p30 _ rfl hp31
     refine WH.tk 7 rfl hP hSW25 (pr_load_p (vs := [(.int .i64 u29.1), (.int .i64 u29.2)]) (v := (.agg #[(.int .i64 u29.1), (.int .i64 u29.2)])) tf_38 rfl rfl (hp31.kx hB23 (by simp)) rfl rfl (WH.tk 8 rfl hP hSW25 (pr_nes Tryz.eqGuardType38 (eq_38 u26 u29) rfl rfl rfl (WH.done (by kernel_rfl) (fun a ha => hK20 _ _ (W.cond rfl (fun h32 => ?_) (fun h32 => ?_)) a ha)))))
     ·replace hF := ifP h32 hF
      refine W.seq fun K33 hK33 => W.region (wl_assign rfl rfl (WL.nil (fun a ha => hK33 _ _ (W.ret ?_) a ha)))
      have hr := Option.some.inj hF
      subst hr
      exact rets (vs := [(.bool false)]) hQ rfl ⟨rv_tmp rfl, trivial⟩ ⟨rfl, hB23⟩
     ·replace hF := ifN h32 hF
      refine W.skip fun a ha => hK18 _ _ (W.region (wl_add rfl rfl rfl (wl_move rfl rfl (WL.nil ?_)))) a ha
      rw [hnx12] at hF
      exact fun a ha => hKL13 a _ m14 (Nat.lt_succ_self m14) ⟨(w64 (y11 + 1)), ha.sub ⟨rfl, rfl, rfl, rfl, trivial⟩, hB23, (hS24.sel [] rfl), hF⟩
    ·replace hF := ifN h17 hF
     refine W.exit fun a ha => hK6 _ _ (W.seq fun K34 hK34 => (W.region (wl_assign rfl rfl (WL.nil (fun a ha => hK34 _ _ (W.ret ?_) a ha))))) a ha
     have hr := Option.some.inj hF
     subst hr
     exact rets (vs := [(.bool true)]) hQ rfl ⟨rv_tmp rfl, trivial⟩ ⟨rfl, hB9⟩
end Go.Proofs.YtejhnpimhjmpdaaGreatDoor
