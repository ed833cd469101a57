/-
  THE WALKS of functions of this seat, by program (gen.py, prune.py).
-/
import Derived.Test.YthlfhcefeaehmaaWXFnExactTooCloseNowb
set_option linter.unusedSimpArgs false
set_option linter.unusedVariables false
set_option maxRecDepth 100000
namespace Go.Proofs.Ythlfhcefeaehmaa
open Go Go.RowKit
theorem C_impl_placeAt (w0 : World) (x0 : ((Int × Int) × (Int × Int) × Int)) (x1 : Int) (r : (Int × Int)) (hF : F_impl_placeAt x0 x1 = some r) :
    Calls Try.prog 170 [(.agg #[(.int .i64 x0.1.1), (.int .i64 x0.1.2), (.int .i64 x0.2.1.1), (.int .i64 x0.2.1.2), (.int .i64 x0.2.2)]), (.int .i64 x1)].toArray w0 fun e w' => e = .returned (.tuple #[(.int .i64 r.1), (.int .i64 r.2)]) ∧ Below w0.heap.size w0 w' := by
  refine calls_mk' Try.func170 rfl Try.ntmps170 rfl rfl fun Q hQ hP => ?_
  have hB : Below w0.heap.size w0 w0 := Below.refl _ _
  have hS : Sep w0.heap.size w0 [] := Sep.nil _ _
  unfold F_impl_placeAt at hF
  refine W.seq fun K1 hK1 => ?_
  refine W.region ?_
  refine wl_box (cs := [(.int .i64 x0.1.1), (.int .i64 x0.1.2), (.int .i64 x0.2.1.1), (.int .i64 x0.2.1.2), (.int .i64 x0.2.2)]) rfl rfl rfl hB hS ?_
  intro b2 w3 hb4 hB5 hS6
  refine wl_assign rfl rfl ?_
  refine wl_assign rfl rfl ?_
  refine WL.nil ?_
  refine fun a ha => hK1 _ _ ?_ a ha
  refine W.seq fun K7 hK7 => ?_
  refine W.regionH mixed_ [] hB5 hS6 ?_
  intro w8 hb9 hB10 hS11
  have hSW12 := KeepX.refl w8 []
  refine WH.takex (i := 0) rfl (by kernel_rfl) (by kernel_rfl) (by kernel_rfl) hP hSW12 ?_
  refine pr_field (o := 0) (off' := 0) ff_96_0 rfl rfl rfl ?_
  refine WH.takex (i := 1) rfl (by kernel_rfl) (by kernel_rfl) (by kernel_rfl) hP hSW12 ?_
  refine pr_field (o := 0) (off' := 0) ff_54_0 rfl rfl rfl ?_
  refine WH.takex (i := 2) rfl (by kernel_rfl) (by kernel_rfl) (by kernel_rfl) hP hSW12 ?_
  refine pr_load_blk (i := 0) (vs := [(.int .i64 x0.1.1)]) (v := (.int .i64 x0.1.1)) tf_3 rfl rfl hS11 rfl rfl rfl (by simp) ?_
  refine WH.takex (i := 3) rfl (by kernel_rfl) (by kernel_rfl) (by kernel_rfl) hP hSW12 ?_
  refine pr_field (o := 4) (off' := 4) ff_96_2 rfl rfl rfl ?_
  refine WH.takex (i := 4) rfl (by kernel_rfl) (by kernel_rfl) (by kernel_rfl) hP hSW12 ?_
  refine pr_load_blk (i := 0) (vs := [(.int .i64 x0.2.2)]) (v := (.int .i64 x0.2.2)) tf_3 rfl rfl hS11 rfl rfl rfl (by simp) ?_
  refine WH.takex (i := 5) rfl (by kernel_rfl) (by kernel_rfl) (by kernel_rfl) hP hSW12 ?_
  refine pr_mul rfl rfl rfl ?_
  refine WH.takex (i := 6) rfl (by kernel_rfl) (by kernel_rfl) (by kernel_rfl) hP hSW12 ?_
  refine pr_move rfl rfl ?_
  refine WH.takex (i := 7) rfl (by kernel_rfl) (by kernel_rfl) (by kernel_rfl) hP hSW12 ?_
  refine pr_field (o := 2) (off' := 2) ff_96_1 rfl rfl rfl ?_
  refine WH.takex (i := 8) rfl (by kernel_rfl) (by kernel_rfl) (by kernel_rfl) hP hSW12 ?_
  refine pr_field (o := 0) (off' := 2) ff_54_0 rfl rfl rfl ?_
  refine WH.takex (i := 9) rfl (by kernel_rfl) (by kernel_rfl) (by kernel_rfl) hP hSW12 ?_
  refine pr_load_blk (i := 0) (vs := [(.int .i64 x0.2.1.1)]) (v := (.int .i64 x0.2.1.1)) tf_3 rfl rfl hS11 rfl rfl rfl (by simp) ?_
  refine WH.takex (i := 10) rfl (by kernel_rfl) (by kernel_rfl) (by kernel_rfl) hP hSW12 ?_
  refine pr_field (o := 0) (off' := 0) ff_96_0 rfl rfl rfl ?_
  refine WH.takex (i := 11) rfl (by kernel_rfl) (by kernel_rfl) (by kernel_rfl) hP hSW12 ?_
  refine pr_field (o := 0) (off' := 0) ff_54_0 rfl rfl rfl ?_
  refine WH.takex (i := 12) rfl (by kernel_rfl) (by kernel_rfl) (by kernel_rfl) hP hSW12 ?_
  refine pr_load_blk (i := 0) (vs := [(.int .i64 x0.1.1)]) (v := (.int .i64 x0.1.1)) tf_3 rfl rfl hS11 rfl rfl rfl (by simp) ?_
  refine WH.takex (i := 13) rfl (by kernel_rfl) (by kernel_rfl) (by kernel_rfl) hP hSW12 ?_
  refine pr_sub rfl rfl rfl ?_
  refine WH.takex (i := 14) rfl (by kernel_rfl) (by kernel_rfl) (by kernel_rfl) hP hSW12 ?_
  refine pr_mul rfl rfl rfl ?_
  refine WH.takex (i := 15) rfl (by kernel_rfl) (by kernel_rfl) (by kernel_rfl) hP hSW12 ?_
  refine pr_add rfl rfl rfl ?_
  refine WH.takex (i := 16) rfl (by kernel_rfl) (by kernel_rfl) (by kernel_rfl) hP hSW12 ?_
  refine pr_field (o := 0) (off' := 0) ff_96_0 rfl rfl rfl ?_
  refine WH.takex (i := 17) rfl (by kernel_rfl) (by kernel_rfl) (by kernel_rfl) hP hSW12 ?_
  refine pr_field (o := 1) (off' := 1) ff_54_1 rfl rfl rfl ?_
  refine WH.takex (i := 18) rfl (by kernel_rfl) (by kernel_rfl) (by kernel_rfl) hP hSW12 ?_
  refine pr_load_blk (i := 0) (vs := [(.int .i64 x0.1.2)]) (v := (.int .i64 x0.1.2)) tf_3 rfl rfl hS11 rfl rfl rfl (by simp) ?_
  refine WH.takex (i := 19) rfl (by kernel_rfl) (by kernel_rfl) (by kernel_rfl) hP hSW12 ?_
  refine pr_field (o := 4) (off' := 4) ff_96_2 rfl rfl rfl ?_
  refine WH.takex (i := 20) rfl (by kernel_rfl) (by kernel_rfl) (by kernel_rfl) hP hSW12 ?_
  refine pr_load_blk (i := 0) (vs := [(.int .i64 x0.2.2)]) (v := (.int .i64 x0.2.2)) tf_3 rfl rfl hS11 rfl rfl rfl (by simp) ?_
  refine WH.takex (i := 21) rfl (by kernel_rfl) (by kernel_rfl) (by kernel_rfl) hP hSW12 ?_
  refine pr_mul rfl rfl rfl ?_
  refine WH.takex (i := 22) rfl (by kernel_rfl) (by kernel_rfl) (by kernel_rfl) hP hSW12 ?_
  refine pr_move rfl rfl ?_
  refine WH.takex (i := 23) rfl (by kernel_rfl) (by kernel_rfl) (by kernel_rfl) hP hSW12 ?_
  refine pr_field (o := 2) (off' := 2) ff_96_1 rfl rfl rfl ?_
  refine WH.takex (i := 24) rfl (by kernel_rfl) (by kernel_rfl) (by kernel_rfl) hP hSW12 ?_
  refine pr_field (o := 1) (off' := 3) ff_54_1 rfl rfl rfl ?_
  refine WH.takex (i := 25) rfl (by kernel_rfl) (by kernel_rfl) (by kernel_rfl) hP hSW12 ?_
  refine pr_load_blk (i := 0) (vs := [(.int .i64 x0.2.1.2)]) (v := (.int .i64 x0.2.1.2)) tf_3 rfl rfl hS11 rfl rfl rfl (by simp) ?_
  refine WH.takex (i := 26) rfl (by kernel_rfl) (by kernel_rfl) (by kernel_rfl) hP hSW12 ?_
  refine pr_field (o := 0) (off' := 0) ff_96_0 rfl rfl rfl ?_
  refine WH.takex (i := 27) rfl (by kernel_rfl) (by kernel_rfl) (by kernel_rfl) hP hSW12 ?_
  refine pr_field (o := 1) (off' := 1) ff_54_1 rfl rfl rfl ?_
  refine WH.takex (i := 28) rfl (by kernel_rfl) (by kernel_rfl) (by kernel_rfl) hP hSW12 ?_
  refine pr_load_blk (i := 0) (vs := [(.int .i64 x0.1.2)]) (v := (.int .i64 x0.1.2)) tf_3 rfl rfl hS11 rfl rfl rfl (by simp) ?_
  refine WH.takex (i := 29) rfl (by kernel_rfl) (by kernel_rfl) (by kernel_rfl) hP hSW12 ?_
  refine pr_sub rfl rfl rfl ?_
  refine WH.takex (i := 30) rfl (by kernel_rfl) (by kernel_rfl) (by kernel_rfl) hP hSW12 ?_
  refine pr_mul rfl rfl rfl ?_
  refine WH.takex (i := 31) rfl (by kernel_rfl) (by kernel_rfl) (by kernel_rfl) hP hSW12 ?_
  refine pr_add rfl rfl rfl ?_
  refine WH.takex (i := 32) rfl (by kernel_rfl) (by kernel_rfl) (by kernel_rfl) hP hSW12 ?_
  refine pr_assign rfl rfl ?_
  refine WH.takex (i := 33) rfl (by kernel_rfl) (by kernel_rfl) (by kernel_rfl) hP hSW12 ?_
  refine pr_assign rfl rfl ?_
  refine WH.done (by kernel_rfl) ?_
  refine fun a ha => hK7 _ _ ?_ a ha
  refine W.ret ?_
  have hr := Option.some.inj hF
  subst hr
  exact rets (vs := [(.int .i64 (w64 ((w64 (x0.1.1 * x0.2.2)) + (w64 (x1 * (w64 (x0.2.1.1 - x0.1.1))))))), (.int .i64 (w64 ((w64 (x0.1.2 * x0.2.2)) + (w64 (x1 * (w64 (x0.2.1.2 - x0.1.2)))))))]) hQ rfl ⟨rv_tmp rfl, rv_tmp rfl, trivial⟩ ⟨rfl, hB10⟩
theorem C_impl_floorDiv (w0 : World) (x0 : Int) (x1 : Int) (r : Int) (hF : F_impl_floorDiv x0 x1 = some r) :
    Calls Try.prog 176 [(.int .i64 x0), (.int .i64 x1)].toArray w0 fun e w' => e = .returned (.int .i64 r) ∧ Below w0.heap.size w0 w' := by
  refine calls_mk' Try.func176 rfl Try.ntmps176 rfl rfl fun Q hQ hP => ?_
  have hB : Below w0.heap.size w0 w0 := Below.refl _ _
  have hS : Sep w0.heap.size w0 [] := Sep.nil _ _
  unfold F_impl_floorDiv at hF
  refine W.seq fun K1 hK1 => ?_
  refine W.region ?_
  refine wl_assign rfl rfl ?_
  refine WL.nil ?_
  refine fun a ha => hK1 _ _ ?_ a ha
  refine W.seq fun K2 hK2 => ?_
  refine W.region ?_
  refine wl_move rfl rfl ?_
  refine wl_move rfl rfl ?_
  have h3 : x1 ≠ 0 := fun h3 => noneE (ifP h3 hF)
  replace hF := ifNP h3 hF
  refine wl_quo rfl rfl rfl h3 ?_
  refine wl_assign rfl rfl ?_
  refine WL.nil ?_
  refine fun a ha => hK2 _ _ ?_ a ha
  refine W.seq fun K4 hK4 => ?_
  obtain ⟨k9, hk9, hF⟩ := jE1 hF
  have hJ10 : ∀ (y8 : Int) (w5 : World) (_ : k9 y8 = some r) (_ : Below w0.heap.size w0 w5) (_ : Sep w0.heap.size w5 []), ∀ a, St 16 [(5, (.int .i64 y8))] a → K4 a w5 := by
    intro y8 w5 hF hB6 hS7
    subst hk9
    refine fun a ha => hK4 _ _ ?_ a ha
    refine W.seq fun K11 hK11 => ?_
    refine W.region ?_
    refine wl_move rfl rfl ?_
    refine wl_assign rfl rfl ?_
    refine WL.nil ?_
    refine fun a ha => hK11 _ _ ?_ a ha
    refine W.ret ?_
    have hr := Option.some.inj hF
    subst hr
    exact rets (vs := [(.int .i64 y8)]) hQ rfl ⟨rv_tmp rfl, trivial⟩ ⟨rfl, hB6⟩
  refine W.seq fun K12 hK12 => ?_
  refine W.region ?_
  refine wl_move rfl rfl ?_
  refine wl_move rfl rfl ?_
  have h13 : x1 ≠ 0 := fun h13 => noneE (ifP h13 hF)
  replace hF := ifNP h13 hF
  refine wl_rem rfl rfl rfl h13 ?_
  refine wl_lss rfl rfl rfl ?_
  refine WL.nil ?_
  refine fun a ha => hK12 _ _ ?_ a ha
  refine W.cond rfl (fun h14 => ?_) (fun h14 => ?_)
  · replace hF := ifP h14 hF
    refine W.region ?_
    refine wl_move rfl rfl ?_
    refine wl_sub rfl rfl rfl ?_
    refine wl_assign rfl rfl ?_
    refine WL.nil ?_
    exact fun a ha => hJ10 ((w64 ((w64 (Int.tdiv x0 x1)) - 1))) _ hF hB (hS.sel [] rfl) a (ha.sub ⟨rfl, trivial⟩)
  · replace hF := ifN h14 hF
    refine W.skip ?_
    exact fun a ha => hJ10 ((w64 (Int.tdiv x0 x1))) _ hF hB (hS.sel [] rfl) a (ha.sub ⟨rfl, trivial⟩)
theorem C_impl_roundDiv (w0 : World) (x0 : Int) (x1 : Int) (r : Int) (hF : F_impl_roundDiv x0 x1 = some r) :
    Calls Try.prog 171 [(.int .i64 x0), (.int .i64 x1)].toArray w0 fun e w' => e = .returned (.int .i64 r) ∧ Below w0.heap.size w0 w' := by
  refine calls_mk' Try.func171 rfl Try.ntmps171 rfl rfl fun Q hQ hP => ?_
  have hB : Below w0.heap.size w0 w0 := Below.refl _ _
  have hS : Sep w0.heap.size w0 [] := Sep.nil _ _
  unfold F_impl_roundDiv at hF
  refine W.seq fun K1 hK1 => ?_
  refine W.region ?_
  refine wl_assign rfl rfl ?_
  refine WL.nil ?_
  refine fun a ha => hK1 _ _ ?_ a ha
  refine W.seq fun K2 hK2 => ?_
  refine W.region ?_
  refine wl_move rfl rfl ?_
  refine wl_mul rfl rfl rfl ?_
  refine wl_move rfl rfl ?_
  refine wl_add rfl rfl rfl ?_
  refine wl_move rfl rfl ?_
  refine wl_mul rfl rfl rfl ?_
  obtain ⟨u3, hu3, hF⟩ := bindE hF
  refine wl_call rfl Try.call176 (C_impl_floorDiv w0 (w64 ((w64 (2 * x0)) + x1)) (w64 (2 * x1)) _ hu3) rfl ?_
  rintro _ w4 ⟨rfl, hb5⟩
  refine ⟨_, rfl, ?_⟩
  have hB6 := hB.trans (hb5.mono hB.size)
  have hS7 := hS.below hb5
  refine wl_assign rfl rfl ?_
  refine WL.nil ?_
  refine fun a ha => hK2 _ _ ?_ a ha
  refine W.ret ?_
  have hr := Option.some.inj hF
  subst hr
  exact rets (vs := [(.int .i64 u3)]) hQ rfl ⟨rv_tmp rfl, trivial⟩ ⟨rfl, hB6⟩
theorem C_impl_roundedAt (w0 : World) (x0 : ((Int × Int) × (Int × Int) × Int)) (x1 : Int) (r : (Int × Int)) (hF : F_impl_roundedAt x0 x1 = some r) :
    Calls Try.prog 159 [(.agg #[(.int .i64 x0.1.1), (.int .i64 x0.1.2), (.int .i64 x0.2.1.1), (.int .i64 x0.2.1.2), (.int .i64 x0.2.2)]), (.int .i64 x1)].toArray w0 fun e w' => e = .returned (.agg #[(.int .i64 r.1), (.int .i64 r.2)]) ∧ Below w0.heap.size w0 w' := by
  refine calls_mk' Try.func159 rfl Try.ntmps159 rfl rfl fun Q hQ hP => ?_
  have hB : Below w0.heap.size w0 w0 := Below.refl _ _
  have hS : Sep w0.heap.size w0 [] := Sep.nil _ _
  unfold F_impl_roundedAt at hF
  refine W.seq fun K1 hK1 => ?_
  refine W.region ?_
  refine wl_box (cs := [(.int .i64 x0.1.1), (.int .i64 x0.1.2), (.int .i64 x0.2.1.1), (.int .i64 x0.2.1.2), (.int .i64 x0.2.2)]) rfl rfl rfl hB hS ?_
  intro b2 w3 hb4 hB5 hS6
  refine wl_alloc (cs := [(.int .i64 0), (.int .i64 0)]) tf_54 rfl rfl hB5 hS6 ?_
  intro b7 w8 hb9 hB10 hS11
  refine WL.nil ?_
  refine fun a ha => hK1 _ _ ?_ a ha
  refine W.seq fun K12 hK12 => ?_
  refine W.region ?_
  refine wl_load_blk (i := 1) (vs := [(.int .i64 x0.1.1), (.int .i64 x0.1.2), (.int .i64 x0.2.1.1), (.int .i64 x0.2.1.2), (.int .i64 x0.2.2)]) (v := (.agg #[(.int .i64 x0.1.1), (.int .i64 x0.1.2), (.int .i64 x0.2.1.1), (.int .i64 x0.2.1.2), (.int .i64 x0.2.2)])) tf_96 rfl rfl hS11 rfl rfl rfl ?_
  refine wl_move rfl rfl ?_
  obtain ⟨u13, hu13, hF⟩ := bindE hF
  refine wl_call rfl Try.call170 (C_impl_placeAt w8 x0 x1 _ hu13) rfl ?_
  rintro _ w14 ⟨rfl, hb15⟩
  refine ⟨_, rfl, ?_⟩
  have hB16 := hB10.trans (hb15.mono hB10.size)
  have hS17 := hS11.below hb15
  refine wl_move rfl rfl ?_
  refine wl_extract rfl rfl rfl ?_
  refine wl_extract rfl rfl rfl ?_
  refine wl_assign rfl rfl ?_
  refine wl_assign rfl rfl ?_
  refine WL.nil ?_
  refine fun a ha => hK12 _ _ ?_ a ha
  refine W.seq fun K19 hK19 => ?_
  refine W.regionH mixed_ [b7] hB16 hS17 ?_
  intro w20 hb21 hB22 hS23
  have hSW24 := KeepX.refl w20 [b7]
  refine WH.takex (i := 0) rfl (by kernel_rfl) (by kernel_rfl) (by kernel_rfl) hP hSW24 ?_
  refine pr_move rfl rfl ?_
  refine WH.takex (i := 1) rfl (by kernel_rfl) (by kernel_rfl) (by kernel_rfl) hP hSW24 ?_
  refine pr_field (o := 4) (off' := 4) ff_96_2 rfl rfl rfl ?_
  refine WH.takex (i := 2) rfl (by kernel_rfl) (by kernel_rfl) (by kernel_rfl) hP hSW24 ?_
  refine pr_load_blk (i := 1) (vs := [(.int .i64 x0.2.2)]) (v := (.int .i64 x0.2.2)) tf_3 rfl rfl hS23 rfl rfl rfl (hS23.disj (i := 1) (j := 0) rfl rfl rfl b2 (by simp [R.blk])) ?_
  refine WH.takex (i := 4) rfl (by kernel_rfl) (by kernel_rfl) (by kernel_rfl) hP hSW24 ?_
  refine pr_move rfl rfl ?_
  refine WH.takex (i := 5) rfl (by kernel_rfl) (by kernel_rfl) (by kernel_rfl) hP hSW24 ?_
  refine pr_field (o := 4) (off' := 4) ff_96_2 rfl rfl rfl ?_
  refine WH.takex (i := 6) rfl (by kernel_rfl) (by kernel_rfl) (by kernel_rfl) hP hSW24 ?_
  refine pr_load_blk (i := 1) (vs := [(.int .i64 x0.2.2)]) (v := (.int .i64 x0.2.2)) tf_3 rfl rfl hS23 rfl rfl rfl (hS23.disj (i := 1) (j := 0) rfl rfl rfl b2 (by simp [R.blk])) ?_
  refine WH.one (i := 3) (by kernel_rfl) rfl ?_
  obtain ⟨u25, hu25, hF⟩ := bindE hF
  refine wl_call rfl Try.call171 (C_impl_roundDiv w20 u13.1 x0.2.2 _ hu25) rfl ?_
  rintro _ w26 ⟨rfl, hb27⟩
  refine ⟨_, rfl, ?_⟩
  have hB28 := hB22.trans (hb27.mono hB22.size)
  have hS29 := hS23.below hb27
  have hSW31 := hSW24.ext hb27
  have hbS32 : Below w20.heap.size w20 w26 := hb27
  refine WL.nil (WH.ret hSW31 ?_)
  refine WH.one (i := 7) (by kernel_rfl) rfl ?_
  obtain ⟨u33, hu33, hF⟩ := bindE hF
  refine wl_call rfl Try.call171 (C_impl_roundDiv w26 u13.2 x0.2.2 _ hu33) rfl ?_
  rintro _ w34 ⟨rfl, hb35⟩
  refine ⟨_, rfl, ?_⟩
  have hB36 := hB28.trans (hb35.mono hB28.size)
  have hS37 := hS29.below hb35
  have hSW39 := hSW31.ext hb35
  have hbS40 : Below w20.heap.size w20 w34 := hbS32.trans (hb35.mono hbS32.size)
  refine WL.nil (WH.ret hSW39 ?_)
  refine WH.takex (i := 8) rfl (by kernel_rfl) (by kernel_rfl) (by kernel_rfl) hP hSW39 ?_
  refine pr_build (zs := [(.int .i64 0), (.int .i64 0)]) (out := [(.int .i64 u25), (.int .i64 u33)]) (vs := [(.int .i64 u25), (.int .i64 u33)]) (css := [[(.int .i64 u25)], [(.int .i64 u33)]]) tf_54 pl_54 rfl rfl rfl rfl rfl ?_
  refine WH.one (i := 9) (by kernel_rfl) rfl ?_
  refine wl_store_blk (i := 0) (vs := [(.int .i64 u25), (.int .i64 u33)]) (cs' := [(.int .i64 u25), (.int .i64 u33)]) tf_54 rfl rfl rfl rfl hB36 hS37 rfl rfl ⟨rfl, rfl, trivial⟩ rfl ?_
  intro w41 hk44 hB42 hS43
  have hSW45 := hSW39.wr' hk44.1 hk44.2.1 (fun _ _ h => h)
  refine WL.nil (WH.ret hSW45 ?_)
  refine WH.done (by kernel_rfl) ?_
  refine fun a ha => hK19 _ _ ?_ a ha
  refine W.ret ?_
  have hr := Option.some.inj hF
  subst hr
  exact rets (vs := [(.agg #[(.int .i64 u25), (.int .i64 u33)])]) hQ rfl ⟨rv_cell (i := 0) tf_54 rfl hS43 rfl rfl rfl, trivial⟩ ⟨rfl, hB42⟩
theorem C_impl_SpotAfter (w0 : World) (x0 : (Int × (Int × Int) × (List (Int × (Int × Int))))) (v0_0 : Value) (h0_0 : rdS ty_141 (· < w0.heap.size) w0 v0_0 x0.2.2) (x1 : Int) (r : ((Int × Int) × Bool)) (hF : F_impl_SpotAfter x0 x1 = some r) :
    Calls Try.prog 127 [(.agg #[(.int .i64 x0.1), (.int .i64 x0.2.1.1), (.int .i64 x0.2.1.2), v0_0]), (.int .i64 x1)].toArray w0 fun e w' => e = .returned (.tuple #[(.agg #[(.int .i64 r.1.1), (.int .i64 r.1.2)]), (.bool r.2)]) ∧ Below w0.heap.size w0 w' := by
  refine calls_mk' Try.func127 rfl Try.ntmps127 rfl rfl fun Q hQ hP => ?_
  have hB : Below w0.heap.size w0 w0 := Below.refl _ _
  have hS : Sep w0.heap.size w0 [] := Sep.nil _ _
  unfold F_impl_SpotAfter at hF
  refine W.seq fun K1 hK1 => ?_
  refine W.region ?_
  refine wl_box (cs := [(.int .i64 x0.1), (.int .i64 x0.2.1.1), (.int .i64 x0.2.1.2), v0_0]) rfl rfl rfl hB hS ?_
  intro b2 w3 hb4 hB5 hS6
  refine wl_alloc (cs := [(.int .i64 0), (.int .i64 0)]) tf_54 rfl rfl hB5 hS6 ?_
  intro b7 w8 hb9 hB10 hS11
  refine wl_assign rfl rfl ?_
  refine WL.nil ?_
  refine fun a ha => hK1 _ _ ?_ a ha
  refine W.seq fun K12 hK12 => ?_
  refine W.seq fun K13 hK13 => ?_
  obtain ⟨k18, hk18, hF⟩ := jE1 hF
  have hJ19 : ∀ (y17 : Bool) (w14 : World) (_ : k18 y17 = some r) (_ : Below w0.heap.size w0 w14) (_ : Sep w0.heap.size w14 [R.blk b2 114 [(.int .i64 x0.1), (.int .i64 x0.2.1.1), (.int .i64 x0.2.1.2), v0_0], R.blk b7 54 [(.int .i64 0), (.int .i64 0)]]), ∀ a, St 40 [(1, (.int .i64 x1)), (2, (.pointer (some ⟨b2, 0, none⟩))), (4, (.pointer (some ⟨b7, 0, none⟩))), (14, (.bool y17))] a → K13 a w14 := by
    intro y17 w14 hF hB15 hS16
    subst hk18
    refine fun a ha => hK13 _ _ ?_ a ha
    refine W.cond rfl (fun h20 => ?_) (fun h20 => ?_)
    · replace hF := ifP h20 hF
      refine W.seq fun K21 hK21 => ?_
      refine W.region ?_
      refine wl_build (zs := [(.int .i64 0), (.int .i64 0)]) (out := [(.int .i64 0), (.int .i64 0)]) (vs := []) (css := []) tf_54 pl_54 rfl rfl rfl rfl rfl ?_
      refine wl_store_blk (i := 1) (vs := [(.int .i64 0), (.int .i64 0)]) (cs' := [(.int .i64 0), (.int .i64 0)]) tf_54 rfl rfl rfl rfl hB15 hS16 rfl rfl ⟨rfl, rfl, trivial⟩ rfl ?_
      intro w22 hk25 hB23 hS24
      refine wl_assign rfl rfl ?_
      refine WL.nil ?_
      refine fun a ha => hK21 _ _ ?_ a ha
      refine W.ret ?_
      have hr := Option.some.inj hF
      subst hr
      exact rets (vs := [(.agg #[(.int .i64 0), (.int .i64 0)]), (.bool false)]) hQ rfl ⟨rv_cell (i := 1) tf_54 rfl hS24 rfl rfl rfl, rv_tmp rfl, trivial⟩ ⟨rfl, hB23⟩
    · replace hF := ifN h20 hF
      refine W.skip ?_
      refine fun a ha => hK12 _ _ ?_ a ha
      refine W.seq fun K26 hK26 => ?_
      refine W.seq fun K27 hK27 => ?_
      refine W.region ?_
      refine wl_load_blk (i := 0) (vs := [(.int .i64 x0.1), (.int .i64 x0.2.1.1), (.int .i64 x0.2.1.2), v0_0]) (v := (.agg #[(.int .i64 x0.1), (.int .i64 x0.2.1.1), (.int .i64 x0.2.1.2), v0_0])) tf_114 rfl rfl hS16 rfl rfl rfl ?_
      obtain ⟨u28, hu28, hF⟩ := bindE hF
      refine wl_call rfl Try.call158 (C_impl_sheetMoves w14 x0 v0_0 (h0_0.ro hB15) _ hu28) rfl ?_
      rintro _ w31 ⟨v29, F30, rfl, hb32, hM35⟩
      refine ⟨_, rfl, ?_⟩
      have hB33 := hB15.trans (hb32.mono hB15.size)
      have hS34 := hS16.join hb32 hM35 hB15.size
      refine wl_lenr (e := ty_96) (l := u28) Try.underlying87 rfl rfl (hS34.own_ro (i := 0) rfl) ?_
      refine wl_move rfl rfl ?_
      refine WL.nil ?_
      refine fun a ha => hK27 _ _ ?_ a ha
      refine W.block ?_
      refine W.loopk (fun m a w36 => ∃ (y39 : Int) (y40 : Int), St 40 [(1, (.int .i64 y39)), (2, (.pointer (some ⟨b2, 0, none⟩))), (4, (.pointer (some ⟨b7, 0, none⟩))), (17, v29), (18, (.int .i64 (List.length u28 : Int))), (19, (.int .i64 y40))] a ∧ Below w0.heap.size w0 w36 ∧ Sep w0.heap.size w36 [R.blk b2 114 [(.int .i64 x0.1), (.int .i64 x0.2.1.1), (.int .i64 x0.2.1.2), v0_0], R.blk b7 54 [(.int .i64 0), (.int .i64 0)], R.own ty_96 F30 v29 u28] ∧ F_impl_SpotAfter_L1 u28 x0 m y39 y40 = some r) FU ?_ ?_
      ·
        exact fun a ha => ⟨x1, 0, ha.sub ⟨rfl, rfl, rfl, rfl, rfl, rfl, trivial⟩, hB33, (hS34.sel [1, 2, 0] rfl), hF⟩
      ·
        rintro m43 a w36 ⟨y39, y40, ha, hB37, hS38, hF⟩ KL42 hKL42
        refine W.at ?_ ha
        cases m43 with
        | zero => exact noneE hF
        | succ m43 =>
          obtain ⟨nx41, hnx41⟩ : ∃ k, k = F_impl_SpotAfter_L1 u28 x0 m43 := ⟨_, rfl⟩
          rw [F_impl_SpotAfter_L1, ← hnx41] at hF
          refine W.seq fun K44 hK44 => ?_
          refine W.region ?_
          refine wl_lss rfl rfl rfl ?_
          refine WL.nil ?_
          refine fun a ha => hK44 _ _ ?_ a ha
          refine W.seq fun K45 hK45 => ?_
          refine W.cond rfl (fun h46 => ?_) (fun h46 => ?_)
          · replace hF := ifP h46 hF
            refine W.skip ?_
            refine fun a ha => hK45 _ _ ?_ a ha
            refine W.seq fun K47 hK47 => ?_
            refine W.block ?_
            refine W.seq fun K48 hK48 => ?_
            refine W.region ?_
            obtain ⟨u49, hu49, hF⟩ := bindE hF
            refine wl_indexo (e := ty_96) (i := 2) Try.underlying87 rfl rfl rfl hS38 rfl hu49 ?_
            rintro p50 _ rfl hp51 ho52
            refine wl_load_p (vs := [(.int .i64 u49.1.1), (.int .i64 u49.1.2), (.int .i64 u49.2.1.1), (.int .i64 u49.2.1.2), (.int .i64 u49.2.2)]) (v := (.agg #[(.int .i64 u49.1.1), (.int .i64 u49.1.2), (.int .i64 u49.2.1.1), (.int .i64 u49.2.1.2), (.int .i64 u49.2.2)])) tf_96 rfl rfl hp51 rfl rfl ?_
            refine wl_alloc (cs := [(.int .i64 0), (.int .i64 0), (.int .i64 0), (.int .i64 0), (.int .i64 0)]) tf_96 rfl rfl hB37 hS38 ?_
            intro b53 w54 hb55 hB56 hS57
            refine wl_store_blk (i := 0) (vs := [(.int .i64 u49.1.1), (.int .i64 u49.1.2), (.int .i64 u49.2.1.1), (.int .i64 u49.2.1.2), (.int .i64 u49.2.2)]) (cs' := [(.int .i64 u49.1.1), (.int .i64 u49.1.2), (.int .i64 u49.2.1.1), (.int .i64 u49.2.1.2), (.int .i64 u49.2.2)]) tf_96 rfl rfl rfl rfl hB56 hS57 rfl rfl ⟨rfl, rfl, rfl, rfl, rfl, trivial⟩ rfl ?_
            intro w58 hk61 hB59 hS60
            refine WL.nil ?_
            refine fun a ha => hK48 _ _ ?_ a ha
            refine W.seq fun K62 hK62 => ?_
            refine W.seq fun K63 hK63 => ?_
            refine W.region ?_
            refine wl_move rfl rfl ?_
            refine wl_field (o := 4) (off' := 4) ff_96_2 rfl rfl rfl ?_
            refine wl_load_blk (i := 0) (vs := [(.int .i64 u49.2.2)]) (v := (.int .i64 u49.2.2)) tf_3 rfl rfl hS60 rfl rfl rfl ?_
            refine wl_leq rfl rfl rfl ?_
            refine WL.nil ?_
            refine fun a ha => hK63 _ _ ?_ a ha
            refine W.cond rfl (fun h64 => ?_) (fun h64 => ?_)
            · replace hF := ifP h64 hF
              refine W.seq fun K65 hK65 => ?_
              refine W.region ?_
              refine wl_load_blk (i := 0) (vs := [(.int .i64 u49.1.1), (.int .i64 u49.1.2), (.int .i64 u49.2.1.1), (.int .i64 u49.2.1.2), (.int .i64 u49.2.2)]) (v := (.agg #[(.int .i64 u49.1.1), (.int .i64 u49.1.2), (.int .i64 u49.2.1.1), (.int .i64 u49.2.1.2), (.int .i64 u49.2.2)])) tf_96 rfl rfl hS60 rfl rfl rfl ?_
              refine wl_move rfl rfl ?_
              obtain ⟨u66, hu66, hF⟩ := bindE hF
              refine wl_call rfl Try.call159 (C_impl_roundedAt w58 u49 y39 _ hu66) rfl ?_
              rintro _ w67 ⟨rfl, hb68⟩
              refine ⟨_, rfl, ?_⟩
              have hB69 := hB59.trans (hb68.mono hB59.size)
              have hS70 := hS60.below hb68
              refine wl_store_blk (i := 2) (vs := [(.int .i64 u66.1), (.int .i64 u66.2)]) (cs' := [(.int .i64 u66.1), (.int .i64 u66.2)]) tf_54 rfl rfl rfl rfl hB69 hS70 rfl rfl ⟨rfl, rfl, trivial⟩ rfl ?_
              intro w72 hk75 hB73 hS74
              refine wl_assign rfl rfl ?_
              refine WL.nil ?_
              refine fun a ha => hK65 _ _ ?_ a ha
              refine W.ret ?_
              have hr := Option.some.inj hF
              subst hr
              exact rets (vs := [(.agg #[(.int .i64 u66.1), (.int .i64 u66.2)]), (.bool true)]) hQ rfl ⟨rv_cell (i := 2) tf_54 rfl hS74 rfl rfl rfl, rv_tmp rfl, trivial⟩ ⟨rfl, hB73⟩
            · replace hF := ifN h64 hF
              refine W.skip ?_
              refine fun a ha => hK62 _ _ ?_ a ha
              refine W.region ?_
              refine wl_move rfl rfl ?_
              refine wl_field (o := 4) (off' := 4) ff_96_2 rfl rfl rfl ?_
              refine wl_load_blk (i := 0) (vs := [(.int .i64 u49.2.2)]) (v := (.int .i64 u49.2.2)) tf_3 rfl rfl hS60 rfl rfl rfl ?_
              refine wl_sub rfl rfl rfl ?_
              refine wl_assign rfl rfl ?_
              refine WL.nil ?_
              refine fun a ha => hK47 _ _ ?_ a ha
              refine W.region ?_
              refine wl_add rfl rfl rfl ?_
              refine wl_move rfl rfl ?_
              refine WL.nil ?_
              rw [hnx41] at hF
              exact fun a ha => hKL42 a _ m43 (Nat.lt_succ_self m43) ⟨(w64 (y39 - u49.2.2)), (w64 (y40 + 1)), ha.sub ⟨rfl, rfl, rfl, rfl, rfl, rfl, trivial⟩, hB59, (hS60.sel [1, 2, 3] rfl), hF⟩
          · replace hF := ifN h46 hF
            refine W.exit ?_
            refine fun a ha => hK26 _ _ ?_ a ha
            refine W.seq fun K76 hK76 => ?_
            refine W.seq fun K77 hK77 => ?_
            refine W.region ?_
            refine wl_move rfl rfl ?_
            refine wl_gtr rfl rfl rfl ?_
            refine WL.nil ?_
            refine fun a ha => hK77 _ _ ?_ a ha
            refine W.cond rfl (fun h78 => ?_) (fun h78 => ?_)
            · replace hF := ifP h78 hF
              refine W.seq fun K79 hK79 => ?_
              refine W.region ?_
              refine wl_build (zs := [(.int .i64 0), (.int .i64 0)]) (out := [(.int .i64 0), (.int .i64 0)]) (vs := []) (css := []) tf_54 pl_54 rfl rfl rfl rfl rfl ?_
              refine wl_store_blk (i := 1) (vs := [(.int .i64 0), (.int .i64 0)]) (cs' := [(.int .i64 0), (.int .i64 0)]) tf_54 rfl rfl rfl rfl hB37 hS38 rfl rfl ⟨rfl, rfl, trivial⟩ rfl ?_
              intro w80 hk83 hB81 hS82
              refine wl_assign rfl rfl ?_
              refine WL.nil ?_
              refine fun a ha => hK79 _ _ ?_ a ha
              refine W.ret ?_
              have hr := Option.some.inj hF
              subst hr
              exact rets (vs := [(.agg #[(.int .i64 0), (.int .i64 0)]), (.bool false)]) hQ rfl ⟨rv_cell (i := 1) tf_54 rfl hS82 rfl rfl rfl, rv_tmp rfl, trivial⟩ ⟨rfl, hB81⟩
            · replace hF := ifN h78 hF
              refine W.skip ?_
              refine fun a ha => hK76 _ _ ?_ a ha
              refine W.seq fun K84 hK84 => ?_
              refine W.region ?_
              refine wl_field (o := 1) (off' := 1) ff_114_1 rfl rfl rfl ?_
              refine wl_load_blk (i := 0) (vs := [(.int .i64 x0.2.1.1), (.int .i64 x0.2.1.2)]) (v := (.agg #[(.int .i64 x0.2.1.1), (.int .i64 x0.2.1.2)])) tf_54 rfl rfl hS38 rfl rfl rfl ?_
              refine wl_store_blk (i := 1) (vs := [(.int .i64 x0.2.1.1), (.int .i64 x0.2.1.2)]) (cs' := [(.int .i64 x0.2.1.1), (.int .i64 x0.2.1.2)]) tf_54 rfl rfl rfl rfl hB37 hS38 rfl rfl ⟨rfl, rfl, trivial⟩ rfl ?_
              intro w85 hk88 hB86 hS87
              refine wl_assign rfl rfl ?_
              refine WL.nil ?_
              refine fun a ha => hK84 _ _ ?_ a ha
              refine W.ret ?_
              have hr := Option.some.inj hF
              subst hr
              exact rets (vs := [(.agg #[(.int .i64 x0.2.1.1), (.int .i64 x0.2.1.2)]), (.bool true)]) hQ rfl ⟨rv_cell (i := 1) tf_54 rfl hS87 rfl rfl rfl, rv_tmp rfl, trivial⟩ ⟨rfl, hB86⟩
  refine W.region ?_
  refine wl_load_blk (i := 1) (vs := [(.int .i64 x0.1), (.int .i64 x0.2.1.1), (.int .i64 x0.2.1.2), v0_0]) (v := (.agg #[(.int .i64 x0.1), (.int .i64 x0.2.1.1), (.int .i64 x0.2.1.2), v0_0])) tf_114 rfl rfl hS11 rfl rfl rfl ?_
  obtain ⟨u89, hu89, hF⟩ := bindE hF
  refine wl_call rfl Try.call157 (C_impl_IsSheet w8 x0 v0_0 (h0_0.ro hB10) _ hu89) rfl ?_
  rintro _ w90 ⟨rfl, hb91⟩
  refine ⟨_, rfl, ?_⟩
  have hB92 := hB10.trans (hb91.mono hB10.size)
  have hS93 := hS11.below hb91
  refine wl_not rfl rfl ?_
  refine wl_move rfl rfl ?_
  rcases bE (!u89) with h95 | h95
  · replace hF := ifP h95 hF
    refine wl_off rfl rfl rfl h95 ?_
    refine wl_off rfl rfl rfl h95 ?_
    refine wl_pick_t rfl rfl h95 rfl ?_
    refine WL.nil ?_
    exact fun a ha => hJ19 (true) _ hF hB92 (hS93.sel [1, 0] rfl) a (ha.sub ⟨rfl, rfl, rfl, rfl, trivial⟩)
  · replace hF := ifN h95 hF
    refine wl_on rfl rfl h95 ?_
    refine wl_move rfl rfl ?_
    refine wl_on rfl rfl h95 ?_
    refine wl_lss rfl rfl rfl ?_
    refine wl_pick_f rfl rfl h95 rfl ?_
    refine WL.nil ?_
    exact fun a ha => hJ19 ((decide (x1 < 0))) _ hF hB92 (hS93.sel [1, 0] rfl) a (ha.sub ⟨rfl, rfl, rfl, rfl, trivial⟩)
theorem C_impl_whereNow (w0 : World) (x0 : (((List (List (Int × Int))) × (List Int) × Int × Int) × Int × (List Int) × (List Int))) (v0_0 : Value) (h0_0 : rdS ty_70 (· < w0.heap.size) w0 v0_0 x0.1.1) (v0_1 : Value) (h0_1 : rdS ty_3 (· < w0.heap.size) w0 v0_1 x0.1.2.1) (v0_2 : Value) (h0_2 : rdS ty_3 (· < w0.heap.size) w0 v0_2 x0.2.2.1) (v0_3 : Value) (h0_3 : rdS ty_3 (· < w0.heap.size) w0 v0_3 x0.2.2.2) (x1 : Int) (r : (Int × Int)) (hF : F_impl_whereNow x0 x1 = some r) :
    Calls Try.prog 85 [(.agg #[v0_0, v0_1, (.int .i64 x0.1.2.2.1), (.int .i64 x0.1.2.2.2), (.int .i64 x0.2.1), v0_2, v0_3]), (.int .i64 x1)].toArray w0 fun e w' => e = .returned (.agg #[(.int .i64 r.1), (.int .i64 r.2)]) ∧ Below w0.heap.size w0 w' := by
  refine calls_mk' Try.func85 rfl Try.ntmps85 rfl rfl fun Q hQ hP => ?_
  have hB : Below w0.heap.size w0 w0 := Below.refl _ _
  have hS : Sep w0.heap.size w0 [] := Sep.nil _ _
  unfold F_impl_whereNow at hF
  refine W.seq fun K1 hK1 => ?_
  refine W.region ?_
  refine wl_box (cs := [v0_0, v0_1, (.int .i64 x0.1.2.2.1), (.int .i64 x0.1.2.2.2), (.int .i64 x0.2.1), v0_2, v0_3]) rfl rfl rfl hB hS ?_
  intro b2 w3 hb4 hB5 hS6
  refine wl_alloc (cs := [(.int .i64 0), (.int .i64 0)]) tf_54 rfl rfl hB5 hS6 ?_
  intro b7 w8 hb9 hB10 hS11
  refine WL.nil ?_
  refine fun a ha => hK1 _ _ ?_ a ha
  refine W.seq fun K12 hK12 => ?_
  obtain ⟨k19, hk19, hF⟩ := jE2 hF
  have hJ20 : ∀ (y17 : Int) (y18 : Int) (b16 : Nat) (w13 : World) (_ : k19 y17 y18 = some r) (_ : Below w0.heap.size w0 w13) (_ : Sep w0.heap.size w13 [R.blk b7 54 [(.int .i64 0), (.int .i64 0)], R.blk b16 54 [(.int .i64 y17), (.int .i64 y18)]]), ∀ a, St 23 [(4, (.pointer (some ⟨b7, 0, none⟩))), (5, (.pointer (some ⟨b16, 0, none⟩)))] a → K12 a w13 := by
    intro y17 y18 b16 w13 hF hB14 hS15
    subst hk19
    refine fun a ha => hK12 _ _ ?_ a ha
    refine W.seq fun K21 hK21 => ?_
    refine W.region ?_
    refine wl_load_blk (i := 1) (vs := [(.int .i64 y17), (.int .i64 y18)]) (v := (.agg #[(.int .i64 y17), (.int .i64 y18)])) tf_54 rfl rfl hS15 rfl rfl rfl ?_
    refine wl_store_blk (i := 0) (vs := [(.int .i64 y17), (.int .i64 y18)]) (cs' := [(.int .i64 y17), (.int .i64 y18)]) tf_54 rfl rfl rfl rfl hB14 hS15 rfl rfl ⟨rfl, rfl, trivial⟩ rfl ?_
    intro w22 hk25 hB23 hS24
    refine WL.nil ?_
    refine fun a ha => hK21 _ _ ?_ a ha
    refine W.ret ?_
    have hr := Option.some.inj hF
    subst hr
    exact rets (vs := [(.agg #[(.int .i64 y17), (.int .i64 y18)])]) hQ rfl ⟨rv_cell (i := 0) tf_54 rfl hS24 rfl rfl rfl, trivial⟩ ⟨rfl, hB23⟩
  refine W.regionH mixed_ [] hB10 hS11 ?_
  intro w26 hb27 hB28 hS29
  have hSW30 := KeepX.refl w26 []
  refine WH.takex (i := 0) rfl (by kernel_rfl) (by kernel_rfl) (by kernel_rfl) hP hSW30 ?_
  refine pr_field (o := 0) (off' := 0) ff_58_0 rfl rfl rfl ?_
  refine WH.takex (i := 1) rfl (by kernel_rfl) (by kernel_rfl) (by kernel_rfl) hP hSW30 ?_
  refine pr_field (o := 0) (off' := 0) ff_31_0 rfl rfl rfl ?_
  refine WH.takex (i := 2) rfl (by kernel_rfl) (by kernel_rfl) (by kernel_rfl) hP hSW30 ?_
  refine pr_load_blk (i := 1) (vs := [v0_0]) (v := v0_0) tf_29 rfl rfl hS29 rfl rfl rfl (by simp) ?_
  refine WH.takex (i := 3) rfl (by kernel_rfl) (by kernel_rfl) (by kernel_rfl) hP hSW30 ?_
  refine pr_field (o := 0) (off' := 0) ff_58_0 rfl rfl rfl ?_
  refine WH.takex (i := 4) rfl (by kernel_rfl) (by kernel_rfl) (by kernel_rfl) hP hSW30 ?_
  refine pr_field (o := 1) (off' := 1) ff_31_1 rfl rfl rfl ?_
  refine WH.takex (i := 5) rfl (by kernel_rfl) (by kernel_rfl) (by kernel_rfl) hP hSW30 ?_
  refine pr_load_blk (i := 1) (vs := [v0_1]) (v := v0_1) tf_23 rfl rfl hS29 rfl rfl rfl (by simp) ?_
  refine WH.takex (i := 6) rfl (by kernel_rfl) (by kernel_rfl) (by kernel_rfl) hP hSW30 ?_
  refine pr_move rfl rfl ?_
  refine WH.takex (i := 8) rfl (by kernel_rfl) (by kernel_rfl) (by kernel_rfl) hP hSW30 ?_
  refine pr_load_blk (i := 1) (vs := [v0_0, v0_1, (.int .i64 x0.1.2.2.1), (.int .i64 x0.1.2.2.2), (.int .i64 x0.2.1), v0_2, v0_3]) (v := (.agg #[v0_0, v0_1, (.int .i64 x0.1.2.2.1), (.int .i64 x0.1.2.2.2), (.int .i64 x0.2.1), v0_2, v0_3])) tf_58 rfl rfl hS29 rfl rfl rfl (by simp) ?_
  refine WH.takex (i := 9) rfl (by kernel_rfl) (by kernel_rfl) (by kernel_rfl) hP hSW30 ?_
  refine pr_move rfl rfl ?_
  refine WH.many (is := [7, 15]) (by kernel_rfl) rfl ?_
  refine List.forall_mem_cons.2 ⟨⟨_, rfl, ?_⟩, List.forall_mem_cons.2 ⟨⟨_, rfl, ?_⟩, fun _ h => by cases h⟩⟩
  ·
    obtain ⟨u31, hu31, hF⟩ := bindE hF
    refine wl_call rfl Try.call101 (C_impl_sheetOf w26 x0.1.1 v0_0 (h0_0.ro hB28) x0.1.2.1 v0_1 (h0_1.ro hB28) x1 _ hu31) rfl ?_
    rintro _ w34 ⟨v32, F33, rfl, hb35, hM38⟩
    refine ⟨_, rfl, ?_⟩
    have hB36 := hB28.trans (hb35.mono hB28.size)
    have hS37 := hS29.join hb35 hM38 hB28.size
    have hSW39 := hSW30.ext hb35
    refine WL.nil (WH.ret hSW39 ?_)
    refine WH.many (is := [10, 15]) (by kernel_rfl) rfl ?_
    refine List.forall_mem_cons.2 ⟨⟨_, rfl, ?_⟩, List.forall_mem_cons.2 ⟨⟨_, rfl, ?_⟩, fun _ h => by cases h⟩⟩
    ·
      obtain ⟨u40, hu40, hF⟩ := bindE hF
      refine wl_call rfl Try.call128 (C_impl_ownCount w34 x0 v0_0 (h0_0.ro hB36) v0_1 (h0_1.ro hB36) v0_2 (h0_2.ro hB36) v0_3 (h0_3.ro hB36) x1 _ hu40) rfl ?_
      rintro _ w41 ⟨rfl, hb42⟩
      refine ⟨_, rfl, ?_⟩
      have hB43 := hB36.trans (hb42.mono hB36.size)
      have hS44 := hS37.below hb42
      have hSW46 := hSW39.ext hb42
      refine WL.nil (WH.ret hSW46 ?_)
      refine WH.many (is := [11, 15]) (by kernel_rfl) rfl ?_
      refine List.forall_mem_cons.2 ⟨⟨_, rfl, ?_⟩, List.forall_mem_cons.2 ⟨⟨_, rfl, ?_⟩, fun _ h => by cases h⟩⟩
      ·
        obtain ⟨u47, hu47, hF⟩ := bindE hF
        refine wl_call rfl Try.call127 (C_impl_SpotAfter w41 u31 v32 (hS44.own_ro (i := 0) rfl) u40 _ hu47) rfl ?_
        rintro _ w48 ⟨rfl, hb49⟩
        refine ⟨_, rfl, ?_⟩
        have hB50 := hB43.trans (hb49.mono hB43.size)
        have hS51 := hS44.below hb49
        have hSW53 := hSW46.ext hb49
        refine WL.nil (WH.ret hSW53 ?_)
        refine WH.takex (i := 12) rfl (by kernel_rfl) (by kernel_rfl) (by kernel_rfl) hP hSW53 ?_
        refine pr_move rfl rfl ?_
        refine WH.takex (i := 13) rfl (by kernel_rfl) (by kernel_rfl) (by kernel_rfl) hP hSW53 ?_
        refine pr_extract rfl rfl rfl ?_
        refine WH.takex (i := 14) rfl (by kernel_rfl) (by kernel_rfl) (by kernel_rfl) hP hSW53 ?_
        refine pr_extract rfl rfl rfl ?_
        refine WH.one (i := 15) (by kernel_rfl) rfl ?_
        refine wl_alloc (cs := [(.int .i64 0), (.int .i64 0)]) tf_54 rfl rfl (Below.self w48) (Sep.nil _ _) ?_
        intro b54 w55 hb56 hB59 hM60
        have hB57 := hB50.trans (hb56.mono hB50.size)
        have hS58 := hS51.join hb56 hM60 hB50.size
        have hn61 : ∀ b ∈ [b54], w26.heap.size ≤ b := fun b hb => Nat.le_trans hSW53.size ((hM60.1 _ (List.mem_cons_self ..)).2.1 b hb).1
        have hSW62 := hSW53.ext hb56
        refine WL.nil (WH.ret hSW62 ?_)
        refine WH.one (i := 16) (by kernel_rfl) rfl ?_
        refine wl_store_blk (i := 0) (vs := [(.int .i64 u47.1.1), (.int .i64 u47.1.2)]) (cs' := [(.int .i64 u47.1.1), (.int .i64 u47.1.2)]) tf_54 rfl rfl rfl rfl hB57 hS58 rfl rfl ⟨rfl, rfl, trivial⟩ rfl ?_
        intro w63 hk66 hB64 hS65
        have hSW67 := hSW62.wr' hk66.1 hk66.2.1 (fun b hlt hb => absurd hlt (Nat.not_lt.2 (hn61 b hb)))
        have hn68 : ∀ b ∈ [b54], w26.heap.size ≤ b := fun b hb => (hk66.2.2 b hb).elim (hn61 b) fun h => Nat.le_trans hSW62.size h
        refine WL.nil (WH.ret hSW67 ?_)
        refine WH.takex (i := 17) rfl (by kernel_rfl) (by kernel_rfl) (by kernel_rfl) hP hSW67 ?_
        refine pr_assign rfl rfl ?_
        refine WH.done (by kernel_rfl) ?_
        exact fun a ha => hJ20 (u47.1.1) (u47.1.2) (b54) _ hF hB64 (hS65.sel [2, 0] rfl) a (ha.sub ⟨rfl, rfl, trivial⟩)
      ·
        refine wl_alloc (cs := [(.int .i64 0), (.int .i64 0)]) tf_54 rfl rfl (Below.self w41) (Sep.nil _ _) ?_
        intro b69 w70 hb71 hB74 hM75
        have hB72 := hB43.trans (hb71.mono hB43.size)
        have hS73 := hS44.join hb71 hM75 hB43.size
        have hn76 : ∀ b ∈ [b69], w26.heap.size ≤ b := fun b hb => Nat.le_trans hSW46.size ((hM75.1 _ (List.mem_cons_self ..)).2.1 b hb).1
        have hSW77 := hSW46.ext hb71
        refine WL.nil (WH.ret hSW77 ?_)
        refine WH.one (i := 11) (by kernel_rfl) rfl ?_
        obtain ⟨u78, hu78, hF⟩ := bindE hF
        refine wl_call rfl Try.call127 (C_impl_SpotAfter w70 u31 v32 (hS73.own_ro (i := 1) rfl) u40 _ hu78) rfl ?_
        rintro _ w79 ⟨rfl, hb80⟩
        refine ⟨_, rfl, ?_⟩
        have hB81 := hB72.trans (hb80.mono hB72.size)
        have hS82 := hS73.below hb80
        have hSW84 := hSW77.ext hb80
        refine WL.nil (WH.ret hSW84 ?_)
        refine WH.takex (i := 12) rfl (by kernel_rfl) (by kernel_rfl) (by kernel_rfl) hP hSW84 ?_
        refine pr_move rfl rfl ?_
        refine WH.takex (i := 13) rfl (by kernel_rfl) (by kernel_rfl) (by kernel_rfl) hP hSW84 ?_
        refine pr_extract rfl rfl rfl ?_
        refine WH.takex (i := 14) rfl (by kernel_rfl) (by kernel_rfl) (by kernel_rfl) hP hSW84 ?_
        refine pr_extract rfl rfl rfl ?_
        refine WH.one (i := 16) (by kernel_rfl) rfl ?_
        refine wl_store_blk (i := 0) (vs := [(.int .i64 u78.1.1), (.int .i64 u78.1.2)]) (cs' := [(.int .i64 u78.1.1), (.int .i64 u78.1.2)]) tf_54 rfl rfl rfl rfl hB81 hS82 rfl rfl ⟨rfl, rfl, trivial⟩ rfl ?_
        intro w85 hk88 hB86 hS87
        have hSW89 := hSW84.wr' hk88.1 hk88.2.1 (fun b hlt hb => absurd hlt (Nat.not_lt.2 (hn76 b hb)))
        have hn90 : ∀ b ∈ [b69], w26.heap.size ≤ b := fun b hb => (hk88.2.2 b hb).elim (hn76 b) fun h => Nat.le_trans hSW84.size h
        refine WL.nil (WH.ret hSW89 ?_)
        refine WH.takex (i := 17) rfl (by kernel_rfl) (by kernel_rfl) (by kernel_rfl) hP hSW89 ?_
        refine pr_assign rfl rfl ?_
        refine WH.done (by kernel_rfl) ?_
        exact fun a ha => hJ20 (u78.1.1) (u78.1.2) (b69) _ hF hB86 (hS87.sel [2, 0] rfl) a (ha.sub ⟨rfl, rfl, trivial⟩)
    ·
      refine wl_alloc (cs := [(.int .i64 0), (.int .i64 0)]) tf_54 rfl rfl (Below.self w34) (Sep.nil _ _) ?_
      intro b91 w92 hb93 hB96 hM97
      have hB94 := hB36.trans (hb93.mono hB36.size)
      have hS95 := hS37.join hb93 hM97 hB36.size
      have hn98 : ∀ b ∈ [b91], w26.heap.size ≤ b := fun b hb => Nat.le_trans hSW39.size ((hM97.1 _ (List.mem_cons_self ..)).2.1 b hb).1
      have hSW99 := hSW39.ext hb93
      refine WL.nil (WH.ret hSW99 ?_)
      refine WH.one (i := 10) (by kernel_rfl) rfl ?_
      obtain ⟨u100, hu100, hF⟩ := bindE hF
      refine wl_call rfl Try.call128 (C_impl_ownCount w92 x0 v0_0 (h0_0.ro hB94) v0_1 (h0_1.ro hB94) v0_2 (h0_2.ro hB94) v0_3 (h0_3.ro hB94) x1 _ hu100) rfl ?_
      rintro _ w101 ⟨rfl, hb102⟩
      refine ⟨_, rfl, ?_⟩
      have hB103 := hB94.trans (hb102.mono hB94.size)
      have hS104 := hS95.below hb102
      have hSW106 := hSW99.ext hb102
      refine WL.nil (WH.ret hSW106 ?_)
      refine WH.one (i := 11) (by kernel_rfl) rfl ?_
      obtain ⟨u107, hu107, hF⟩ := bindE hF
      refine wl_call rfl Try.call127 (C_impl_SpotAfter w101 u31 v32 (hS104.own_ro (i := 1) rfl) u100 _ hu107) rfl ?_
      rintro _ w108 ⟨rfl, hb109⟩
      refine ⟨_, rfl, ?_⟩
      have hB110 := hB103.trans (hb109.mono hB103.size)
      have hS111 := hS104.below hb109
      have hSW113 := hSW106.ext hb109
      refine WL.nil (WH.ret hSW113 ?_)
      refine WH.takex (i := 12) rfl (by kernel_rfl) (by kernel_rfl) (by kernel_rfl) hP hSW113 ?_
      refine pr_move rfl rfl ?_
      refine WH.takex (i := 13) rfl (by kernel_rfl) (by kernel_rfl) (by kernel_rfl) hP hSW113 ?_
      refine pr_extract rfl rfl rfl ?_
      refine WH.takex (i := 14) rfl (by kernel_rfl) (by kernel_rfl) (by kernel_rfl) hP hSW113 ?_
      refine pr_extract rfl rfl rfl ?_
      refine WH.one (i := 16) (by kernel_rfl) rfl ?_
      refine wl_store_blk (i := 0) (vs := [(.int .i64 u107.1.1), (.int .i64 u107.1.2)]) (cs' := [(.int .i64 u107.1.1), (.int .i64 u107.1.2)]) tf_54 rfl rfl rfl rfl hB110 hS111 rfl rfl ⟨rfl, rfl, trivial⟩ rfl ?_
      intro w114 hk117 hB115 hS116
      have hSW118 := hSW113.wr' hk117.1 hk117.2.1 (fun b hlt hb => absurd hlt (Nat.not_lt.2 (hn98 b hb)))
      have hn119 : ∀ b ∈ [b91], w26.heap.size ≤ b := fun b hb => (hk117.2.2 b hb).elim (hn98 b) fun h => Nat.le_trans hSW113.size h
      refine WL.nil (WH.ret hSW118 ?_)
      refine WH.takex (i := 17) rfl (by kernel_rfl) (by kernel_rfl) (by kernel_rfl) hP hSW118 ?_
      refine pr_assign rfl rfl ?_
      refine WH.done (by kernel_rfl) ?_
      exact fun a ha => hJ20 (u107.1.1) (u107.1.2) (b91) _ hF hB115 (hS116.sel [2, 0] rfl) a (ha.sub ⟨rfl, rfl, trivial⟩)
  ·
    refine wl_alloc (cs := [(.int .i64 0), (.int .i64 0)]) tf_54 rfl rfl (Below.self w26) (Sep.nil _ _) ?_
    intro b120 w121 hb122 hB125 hM126
    have hB123 := hB28.trans (hb122.mono hB28.size)
    have hS124 := hS29.join hb122 hM126 hB28.size
    have hn127 : ∀ b ∈ [b120], w26.heap.size ≤ b := fun b hb => Nat.le_trans hSW30.size ((hM126.1 _ (List.mem_cons_self ..)).2.1 b hb).1
    have hSW128 := hSW30.ext hb122
    refine WL.nil (WH.ret hSW128 ?_)
    refine WH.one (i := 7) (by kernel_rfl) rfl ?_
    obtain ⟨u129, hu129, hF⟩ := bindE hF
    refine wl_call rfl Try.call101 (C_impl_sheetOf w121 x0.1.1 v0_0 (h0_0.ro hB123) x0.1.2.1 v0_1 (h0_1.ro hB123) x1 _ hu129) rfl ?_
    rintro _ w132 ⟨v130, F131, rfl, hb133, hM136⟩
    refine ⟨_, rfl, ?_⟩
    have hB134 := hB123.trans (hb133.mono hB123.size)
    have hS135 := hS124.join hb133 hM136 hB123.size
    have hSW137 := hSW128.ext hb133
    refine WL.nil (WH.ret hSW137 ?_)
    refine WH.one (i := 10) (by kernel_rfl) rfl ?_
    obtain ⟨u138, hu138, hF⟩ := bindE hF
    refine wl_call rfl Try.call128 (C_impl_ownCount w132 x0 v0_0 (h0_0.ro hB134) v0_1 (h0_1.ro hB134) v0_2 (h0_2.ro hB134) v0_3 (h0_3.ro hB134) x1 _ hu138) rfl ?_
    rintro _ w139 ⟨rfl, hb140⟩
    refine ⟨_, rfl, ?_⟩
    have hB141 := hB134.trans (hb140.mono hB134.size)
    have hS142 := hS135.below hb140
    have hSW144 := hSW137.ext hb140
    refine WL.nil (WH.ret hSW144 ?_)
    refine WH.one (i := 11) (by kernel_rfl) rfl ?_
    obtain ⟨u145, hu145, hF⟩ := bindE hF
    refine wl_call rfl Try.call127 (C_impl_SpotAfter w139 u129 v130 (hS142.own_ro (i := 0) rfl) u138 _ hu145) rfl ?_
    rintro _ w146 ⟨rfl, hb147⟩
    refine ⟨_, rfl, ?_⟩
    have hB148 := hB141.trans (hb147.mono hB141.size)
    have hS149 := hS142.below hb147
    have hSW151 := hSW144.ext hb147
    refine WL.nil (WH.ret hSW151 ?_)
    refine WH.takex (i := 12) rfl (by kernel_rfl) (by kernel_rfl) (by kernel_rfl) hP hSW151 ?_
    refine pr_move rfl rfl ?_
    refine WH.takex (i := 13) rfl (by kernel_rfl) (by kernel_rfl) (by kernel_rfl) hP hSW151 ?_
    refine pr_extract rfl rfl rfl ?_
    refine WH.takex (i := 14) rfl (by kernel_rfl) (by kernel_rfl) (by kernel_rfl) hP hSW151 ?_
    refine pr_extract rfl rfl rfl ?_
    refine WH.one (i := 16) (by kernel_rfl) rfl ?_
    refine wl_store_blk (i := 1) (vs := [(.int .i64 u145.1.1), (.int .i64 u145.1.2)]) (cs' := [(.int .i64 u145.1.1), (.int .i64 u145.1.2)]) tf_54 rfl rfl rfl rfl hB148 hS149 rfl rfl ⟨rfl, rfl, trivial⟩ rfl ?_
    intro w152 hk155 hB153 hS154
    have hSW156 := hSW151.wr' hk155.1 hk155.2.1 (fun b hlt hb => absurd hlt (Nat.not_lt.2 (hn127 b hb)))
    have hn157 : ∀ b ∈ [b120], w26.heap.size ≤ b := fun b hb => (hk155.2.2 b hb).elim (hn127 b) fun h => Nat.le_trans hSW151.size h
    refine WL.nil (WH.ret hSW156 ?_)
    refine WH.takex (i := 17) rfl (by kernel_rfl) (by kernel_rfl) (by kernel_rfl) hP hSW156 ?_
    refine pr_assign rfl rfl ?_
    refine WH.done (by kernel_rfl) ?_
    exact fun a ha => hJ20 (u145.1.1) (u145.1.2) (b120) _ hF hB153 (hS154.sel [2, 1] rfl) a (ha.sub ⟨rfl, rfl, trivial⟩)
theorem C_spec_mnPlaces (w0 : World) (x0 : (((List (List (Int × Int))) × (List Int) × Int × Int) × Int × (List Int) × (List Int))) (v0_0 : Value) (h0_0 : rdS ty_70 (· < w0.heap.size) w0 v0_0 x0.1.1) (v0_1 : Value) (h0_1 : rdS ty_3 (· < w0.heap.size) w0 v0_1 x0.1.2.1) (v0_2 : Value) (h0_2 : rdS ty_3 (· < w0.heap.size) w0 v0_2 x0.2.2.1) (v0_3 : Value) (h0_3 : rdS ty_3 (· < w0.heap.size) w0 v0_3 x0.2.2.2) (r : (List (Int × Int))) (hF : F_spec_mnPlaces x0 = some r) :
    Calls Try.prog 96 [(.agg #[v0_0, v0_1, (.int .i64 x0.1.2.2.1), (.int .i64 x0.1.2.2.2), (.int .i64 x0.2.1), v0_2, v0_3])].toArray w0 fun e w' => ∃ (q0 : Value) (G0 : List Nat), e = .returned q0 ∧ Below w0.heap.size w0 w' ∧ Sep w0.heap.size w' [R.own ty_54 G0 q0 r] := by
  refine calls_mk' Try.func96 rfl Try.ntmps96 rfl rfl fun Q hQ hP => ?_
  have hB : Below w0.heap.size w0 w0 := Below.refl _ _
  have hS : Sep w0.heap.size w0 [] := Sep.nil _ _
  unfold F_spec_mnPlaces at hF
  refine W.seq fun K1 hK1 => ?_
  refine W.region ?_
  refine wl_box (cs := [v0_0, v0_1, (.int .i64 x0.1.2.2.1), (.int .i64 x0.1.2.2.2), (.int .i64 x0.2.1), v0_2, v0_3]) rfl rfl rfl hB hS ?_
  intro b2 w3 hb4 hB5 hS6
  refine wl_assign rfl rfl ?_
  refine WL.nil ?_
  refine fun a ha => hK1 _ _ ?_ a ha
  refine W.seq fun K7 hK7 => ?_
  refine W.region ?_
  refine wl_assign rfl rfl ?_
  refine WL.nil ?_
  refine fun a ha => hK7 _ _ ?_ a ha
  refine W.seq fun K8 hK8 => ?_
  refine W.seq fun K9 hK9 => ?_
  refine W.region ?_
  refine wl_field (o := 6) (off' := 6) ff_58_3 rfl rfl rfl ?_
  refine wl_load_blk (i := 0) (vs := [v0_3]) (v := v0_3) tf_23 rfl rfl hS6 rfl rfl rfl ?_
  refine wl_lenr (e := ty_3) (l := x0.2.2.2) Try.underlying23 rfl rfl h0_3 ?_
  refine wl_move rfl rfl ?_
  refine WL.nil ?_
  refine fun a ha => hK9 _ _ ?_ a ha
  refine W.block ?_
  refine W.loopk (fun m a w10 => ∃ (l13 : (List (Int × Int))) (y16 : Int) (v14 : Value) (F15 : List Nat), St 19 [(1, (.pointer (some ⟨b2, 0, none⟩))), (3, v14), (7, (.int .i64 (List.length x0.2.2.2 : Int))), (8, (.int .i64 y16))] a ∧ Below w0.heap.size w0 w10 ∧ Sep w0.heap.size w10 [R.blk b2 58 [v0_0, v0_1, (.int .i64 x0.1.2.2.1), (.int .i64 x0.1.2.2.2), (.int .i64 x0.2.1), v0_2, v0_3], R.own ty_54 F15 v14 l13] ∧ F_spec_mnPlaces_L1 x0 m l13 y16 = some r) FU ?_ ?_
  ·
    have hS18 := hS6.push0 (r := R.own ty_54 [] (.slice none 0 0) []) rfl fun _ => .inl ⟨rfl, rfl, rfl⟩
    exact fun a ha => ⟨[], 0, (.slice none 0 0), [], ha.sub ⟨rfl, rfl, rfl, rfl, trivial⟩, hB5, (hS18.sel [1, 0] rfl), hF⟩
  ·
    rintro m20 a w10 ⟨l13, y16, v14, F15, ha, hB11, hS12, hF⟩ KL19 hKL19
    refine W.at ?_ ha
    cases m20 with
    | zero => exact noneE hF
    | succ m20 =>
      obtain ⟨nx17, hnx17⟩ : ∃ k, k = F_spec_mnPlaces_L1 x0 m20 := ⟨_, rfl⟩
      rw [F_spec_mnPlaces_L1, ← hnx17] at hF
      refine W.seq fun K21 hK21 => ?_
      refine W.region ?_
      refine wl_lss rfl rfl rfl ?_
      refine WL.nil ?_
      refine fun a ha => hK21 _ _ ?_ a ha
      refine W.seq fun K22 hK22 => ?_
      refine W.cond rfl (fun h23 => ?_) (fun h23 => ?_)
      · replace hF := ifP h23 hF
        refine W.skip ?_
        refine fun a ha => hK22 _ _ ?_ a ha
        refine W.seq fun K24 hK24 => ?_
        refine W.block ?_
        refine W.seq fun K25 hK25 => ?_
        refine W.region ?_
        refine wl_move rfl rfl ?_
        refine wl_assign rfl rfl ?_
        refine WL.nil ?_
        refine fun a ha => hK25 _ _ ?_ a ha
        refine W.region ?_
        refine wl_move rfl rfl ?_
        refine wl_load_blk (i := 0) (vs := [v0_0, v0_1, (.int .i64 x0.1.2.2.1), (.int .i64 x0.1.2.2.2), (.int .i64 x0.2.1), v0_2, v0_3]) (v := (.agg #[v0_0, v0_1, (.int .i64 x0.1.2.2.1), (.int .i64 x0.1.2.2.2), (.int .i64 x0.2.1), v0_2, v0_3])) tf_58 rfl rfl hS12 rfl rfl rfl ?_
        refine wl_move rfl rfl ?_
        obtain ⟨u26, hu26, hF⟩ := bindE hF
        refine wl_call rfl Try.call83 (C_spec_mnWhere w10 x0 v0_0 (h0_0.ro hB11) v0_1 (h0_1.ro hB11) v0_2 (h0_2.ro hB11) v0_3 (h0_3.ro hB11) y16 _ hu26) rfl ?_
        rintro _ w27 ⟨rfl, hb28⟩
        refine ⟨_, rfl, ?_⟩
        have hB29 := hB11.trans (hb28.mono hB11.size)
        have hS30 := hS12.below hb28
        refine wl_lit (vs := [(.agg #[(.int .i64 u26.1), (.int .i64 u26.2)])]) (l := [u26]) fl_54 Try.underlying70 rfl rfl rfl rfl rfl rfl hB29 hS30 ?_
        intro v32 F33 w34 hb35 hB36 hS37
        obtain ⟨u38, hu38, hF⟩ := bindE hF
        refine wl_append (i := 2) (S := (· < w34.heap.size)) fl_54 Try.underlying70 rfl rfl rfl hB36 hS37 rfl (hS37.own_ro (i := 0) rfl) hu38 ?_
        intro v39 F40 w41 hk42 hB43 hS44
        refine wl_assign rfl rfl ?_
        refine WL.nil ?_
        refine fun a ha => hK24 _ _ ?_ a ha
        refine W.region ?_
        refine wl_add rfl rfl rfl ?_
        refine wl_move rfl rfl ?_
        refine WL.nil ?_
        rw [hnx17] at hF
        exact fun a ha => hKL19 a _ m20 (Nat.lt_succ_self m20) ⟨u38, (w64 (y16 + 1)), v39, F40, ha.sub ⟨rfl, rfl, rfl, rfl, trivial⟩, hB43, (hS44.sel [1, 2] rfl), hF⟩
      · replace hF := ifN h23 hF
        refine W.exit ?_
        refine fun a ha => hK8 _ _ ?_ a ha
        refine W.seq fun K45 hK45 => ?_
        refine W.region ?_
        refine wl_move rfl rfl ?_
        refine wl_assign rfl rfl ?_
        refine WL.nil ?_
        refine fun a ha => hK45 _ _ ?_ a ha
        refine W.ret ?_
        have hr := Option.some.inj hF
        subst hr
        exact rets (vs := [v14]) hQ rfl ⟨rv_tmp rfl, trivial⟩ ⟨v14, F15, rfl, hB11, hS12.sel [1] rfl⟩
theorem C_impl_placesNow (w0 : World) (x0 : (((List (List (Int × Int))) × (List Int) × Int × Int) × Int × (List Int) × (List Int))) (v0_0 : Value) (h0_0 : rdS ty_70 (· < w0.heap.size) w0 v0_0 x0.1.1) (v0_1 : Value) (h0_1 : rdS ty_3 (· < w0.heap.size) w0 v0_1 x0.1.2.1) (v0_2 : Value) (h0_2 : rdS ty_3 (· < w0.heap.size) w0 v0_2 x0.2.2.1) (v0_3 : Value) (h0_3 : rdS ty_3 (· < w0.heap.size) w0 v0_3 x0.2.2.2) (r : (List (Int × Int))) (hF : F_impl_placesNow x0 = some r) :
    Calls Try.prog 97 [(.agg #[v0_0, v0_1, (.int .i64 x0.1.2.2.1), (.int .i64 x0.1.2.2.2), (.int .i64 x0.2.1), v0_2, v0_3])].toArray w0 fun e w' => ∃ (q0 : Value) (G0 : List Nat), e = .returned q0 ∧ Below w0.heap.size w0 w' ∧ Sep w0.heap.size w' [R.own ty_54 G0 q0 r] := by
  refine calls_mk' Try.func97 rfl Try.ntmps97 rfl rfl fun Q hQ hP => ?_
  have hB : Below w0.heap.size w0 w0 := Below.refl _ _
  have hS : Sep w0.heap.size w0 [] := Sep.nil _ _
  unfold F_impl_placesNow at hF
  refine W.seq fun K1 hK1 => ?_
  refine W.region ?_
  refine wl_box (cs := [v0_0, v0_1, (.int .i64 x0.1.2.2.1), (.int .i64 x0.1.2.2.2), (.int .i64 x0.2.1), v0_2, v0_3]) rfl rfl rfl hB hS ?_
  intro b2 w3 hb4 hB5 hS6
  refine wl_assign rfl rfl ?_
  refine WL.nil ?_
  refine fun a ha => hK1 _ _ ?_ a ha
  refine W.seq fun K7 hK7 => ?_
  refine W.region ?_
  refine wl_lit (vs := []) (l := []) fl_54 Try.underlying70 rfl rfl rfl rfl rfl rfl hB5 hS6 ?_
  intro v8 F9 w10 hb11 hB12 hS13
  refine wl_assign rfl rfl ?_
  refine WL.nil ?_
  refine fun a ha => hK7 _ _ ?_ a ha
  refine W.seq fun K14 hK14 => ?_
  refine W.seq fun K15 hK15 => ?_
  refine W.region ?_
  refine wl_field (o := 6) (off' := 6) ff_58_3 rfl rfl rfl ?_
  refine wl_load_blk (i := 1) (vs := [v0_3]) (v := v0_3) tf_23 rfl rfl hS13 rfl rfl rfl ?_
  refine wl_lenr (e := ty_3) (l := x0.2.2.2) Try.underlying23 rfl rfl h0_3 ?_
  refine wl_move rfl rfl ?_
  refine WL.nil ?_
  refine fun a ha => hK15 _ _ ?_ a ha
  refine W.block ?_
  refine W.loopk (fun m a w16 => ∃ (l19 : (List (Int × Int))) (y22 : Int) (v20 : Value) (F21 : List Nat), St 20 [(1, (.pointer (some ⟨b2, 0, none⟩))), (3, v20), (8, (.int .i64 (List.length x0.2.2.2 : Int))), (9, (.int .i64 y22))] a ∧ Below w0.heap.size w0 w16 ∧ Sep w0.heap.size w16 [R.blk b2 58 [v0_0, v0_1, (.int .i64 x0.1.2.2.1), (.int .i64 x0.1.2.2.2), (.int .i64 x0.2.1), v0_2, v0_3], R.own ty_54 F21 v20 l19] ∧ F_impl_placesNow_L1 x0 m l19 y22 = some r) FU ?_ ?_
  ·
    exact fun a ha => ⟨[], 0, v8, F9, ha.sub ⟨rfl, rfl, rfl, rfl, trivial⟩, hB12, (hS13.sel [1, 0] rfl), hF⟩
  ·
    rintro m25 a w16 ⟨l19, y22, v20, F21, ha, hB17, hS18, hF⟩ KL24 hKL24
    refine W.at ?_ ha
    cases m25 with
    | zero => exact noneE hF
    | succ m25 =>
      obtain ⟨nx23, hnx23⟩ : ∃ k, k = F_impl_placesNow_L1 x0 m25 := ⟨_, rfl⟩
      rw [F_impl_placesNow_L1, ← hnx23] at hF
      refine W.seq fun K26 hK26 => ?_
      refine W.region ?_
      refine wl_lss rfl rfl rfl ?_
      refine WL.nil ?_
      refine fun a ha => hK26 _ _ ?_ a ha
      refine W.seq fun K27 hK27 => ?_
      refine W.cond rfl (fun h28 => ?_) (fun h28 => ?_)
      · replace hF := ifP h28 hF
        refine W.skip ?_
        refine fun a ha => hK27 _ _ ?_ a ha
        refine W.seq fun K29 hK29 => ?_
        refine W.block ?_
        refine W.seq fun K30 hK30 => ?_
        refine W.region ?_
        refine wl_move rfl rfl ?_
        refine wl_assign rfl rfl ?_
        refine WL.nil ?_
        refine fun a ha => hK30 _ _ ?_ a ha
        refine W.region ?_
        refine wl_move rfl rfl ?_
        refine wl_load_blk (i := 0) (vs := [v0_0, v0_1, (.int .i64 x0.1.2.2.1), (.int .i64 x0.1.2.2.2), (.int .i64 x0.2.1), v0_2, v0_3]) (v := (.agg #[v0_0, v0_1, (.int .i64 x0.1.2.2.1), (.int .i64 x0.1.2.2.2), (.int .i64 x0.2.1), v0_2, v0_3])) tf_58 rfl rfl hS18 rfl rfl rfl ?_
        refine wl_move rfl rfl ?_
        obtain ⟨u31, hu31, hF⟩ := bindE hF
        refine wl_call rfl Try.call85 (C_impl_whereNow w16 x0 v0_0 (h0_0.ro hB17) v0_1 (h0_1.ro hB17) v0_2 (h0_2.ro hB17) v0_3 (h0_3.ro hB17) y22 _ hu31) rfl ?_
        rintro _ w32 ⟨rfl, hb33⟩
        refine ⟨_, rfl, ?_⟩
        have hB34 := hB17.trans (hb33.mono hB17.size)
        have hS35 := hS18.below hb33
        refine wl_lit (vs := [(.agg #[(.int .i64 u31.1), (.int .i64 u31.2)])]) (l := [u31]) fl_54 Try.underlying70 rfl rfl rfl rfl rfl rfl hB34 hS35 ?_
        intro v37 F38 w39 hb40 hB41 hS42
        obtain ⟨u43, hu43, hF⟩ := bindE hF
        refine wl_append (i := 2) (S := (· < w39.heap.size)) fl_54 Try.underlying70 rfl rfl rfl hB41 hS42 rfl (hS42.own_ro (i := 0) rfl) hu43 ?_
        intro v44 F45 w46 hk47 hB48 hS49
        refine wl_assign rfl rfl ?_
        refine WL.nil ?_
        refine fun a ha => hK29 _ _ ?_ a ha
        refine W.region ?_
        refine wl_add rfl rfl rfl ?_
        refine wl_move rfl rfl ?_
        refine WL.nil ?_
        rw [hnx23] at hF
        exact fun a ha => hKL24 a _ m25 (Nat.lt_succ_self m25) ⟨u43, (w64 (y22 + 1)), v44, F45, ha.sub ⟨rfl, rfl, rfl, rfl, trivial⟩, hB48, (hS49.sel [1, 2] rfl), hF⟩
      · replace hF := ifN h28 hF
        refine W.exit ?_
        refine fun a ha => hK14 _ _ ?_ a ha
        refine W.seq fun K50 hK50 => ?_
        refine W.region ?_
        refine wl_move rfl rfl ?_
        refine wl_assign rfl rfl ?_
        refine WL.nil ?_
        refine fun a ha => hK50 _ _ ?_ a ha
        refine W.ret ?_
        have hr := Option.some.inj hF
        subst hr
        exact rets (vs := [v20]) hQ rfl ⟨rv_tmp rfl, trivial⟩ ⟨v20, F21, rfl, hB17, hS18.sel [1] rfl⟩
theorem C_spec_TooCloseNow (w0 : World) (x0 : (((List (List (Int × Int))) × (List Int) × Int × Int) × Int × (List Int) × (List Int))) (v0_0 : Value) (h0_0 : rdS ty_70 (· < w0.heap.size) w0 v0_0 x0.1.1) (v0_1 : Value) (h0_1 : rdS ty_3 (· < w0.heap.size) w0 v0_1 x0.1.2.1) (v0_2 : Value) (h0_2 : rdS ty_3 (· < w0.heap.size) w0 v0_2 x0.2.2.1) (v0_3 : Value) (h0_3 : rdS ty_3 (· < w0.heap.size) w0 v0_3 x0.2.2.2) (r : ((List (List Int)) × Bool)) (hF : F_spec_TooCloseNow x0 = some r) :
    Calls Try.prog 54 [(.agg #[v0_0, v0_1, (.int .i64 x0.1.2.2.1), (.int .i64 x0.1.2.2.2), (.int .i64 x0.2.1), v0_2, v0_3])].toArray w0 fun e w' => ∃ (q0 : Value) (G0 : List Nat), e = .returned (.tuple #[q0, (.bool r.2)]) ∧ Below w0.heap.size w0 w' ∧ Sep w0.heap.size w' [R.own ty_23 G0 q0 r.1] := by
  refine calls_mk' Try.func54 rfl Try.ntmps54 rfl rfl fun Q hQ hP => ?_
  have hB : Below w0.heap.size w0 w0 := Below.refl _ _
  have hS : Sep w0.heap.size w0 [] := Sep.nil _ _
  unfold F_spec_TooCloseNow at hF
  refine W.seq fun K1 hK1 => ?_
  refine W.region ?_
  refine wl_box (cs := [v0_0, v0_1, (.int .i64 x0.1.2.2.1), (.int .i64 x0.1.2.2.2), (.int .i64 x0.2.1), v0_2, v0_3]) rfl rfl rfl hB hS ?_
  intro b2 w3 hb4 hB5 hS6
  refine wl_assign rfl rfl ?_
  refine wl_assign rfl rfl ?_
  refine WL.nil ?_
  refine fun a ha => hK1 _ _ ?_ a ha
  refine W.seq fun K7 hK7 => ?_
  refine W.seq fun K8 hK8 => ?_
  refine W.region ?_
  refine wl_load_blk (i := 0) (vs := [v0_0, v0_1, (.int .i64 x0.1.2.2.1), (.int .i64 x0.1.2.2.2), (.int .i64 x0.2.1), v0_2, v0_3]) (v := (.agg #[v0_0, v0_1, (.int .i64 x0.1.2.2.1), (.int .i64 x0.1.2.2.2), (.int .i64 x0.2.1), v0_2, v0_3])) tf_58 rfl rfl hS6 rfl rfl rfl ?_
  obtain ⟨u9, hu9, hF⟩ := bindE hF
  refine wl_call rfl Try.call95 (C_spec_mnGood w3 x0 v0_0 (h0_0.ro hB5) v0_1 (h0_1.ro hB5) v0_2 (h0_2.ro hB5) v0_3 (h0_3.ro hB5) _ hu9) rfl ?_
  rintro _ w10 ⟨rfl, hb11⟩
  refine ⟨_, rfl, ?_⟩
  have hB12 := hB5.trans (hb11.mono hB5.size)
  have hS13 := hS6.below hb11
  refine wl_not rfl rfl ?_
  refine WL.nil ?_
  refine fun a ha => hK8 _ _ ?_ a ha
  refine W.cond rfl (fun h15 => ?_) (fun h15 => ?_)
  · replace hF := ifP h15 hF
    refine W.seq fun K16 hK16 => ?_
    refine W.region ?_
    refine wl_assign rfl rfl ?_
    refine wl_assign rfl rfl ?_
    refine WL.nil ?_
    refine fun a ha => hK16 _ _ ?_ a ha
    refine W.ret ?_
    have hS17 := hS13.push0 (r := R.own ty_23 [] (.slice none 0 0) []) rfl fun _ => .inl ⟨rfl, rfl, rfl⟩
    have hr := Option.some.inj hF
    subst hr
    exact rets (vs := [(.slice none 0 0), (.bool false)]) hQ rfl ⟨rv_tmp rfl, rv_tmp rfl, trivial⟩ ⟨(.slice none 0 0), [], rfl, hB12, hS17.sel [0] rfl⟩
  · replace hF := ifN h15 hF
    refine W.skip ?_
    refine fun a ha => hK7 _ _ ?_ a ha
    refine W.seq fun K18 hK18 => ?_
    refine W.region ?_
    refine wl_load_blk (i := 0) (vs := [v0_0, v0_1, (.int .i64 x0.1.2.2.1), (.int .i64 x0.1.2.2.2), (.int .i64 x0.2.1), v0_2, v0_3]) (v := (.agg #[v0_0, v0_1, (.int .i64 x0.1.2.2.1), (.int .i64 x0.1.2.2.2), (.int .i64 x0.2.1), v0_2, v0_3])) tf_58 rfl rfl hS13 rfl rfl rfl ?_
    obtain ⟨u19, hu19, hF⟩ := bindE hF
    refine wl_call rfl Try.call96 (C_spec_mnPlaces w10 x0 v0_0 (h0_0.ro hB12) v0_1 (h0_1.ro hB12) v0_2 (h0_2.ro hB12) v0_3 (h0_3.ro hB12) _ hu19) rfl ?_
    rintro _ w22 ⟨v20, F21, rfl, hb23, hM26⟩
    refine ⟨_, rfl, ?_⟩
    have hB24 := hB12.trans (hb23.mono hB12.size)
    have hS25 := hS13.join hb23 hM26 hB12.size
    refine wl_assign rfl rfl ?_
    refine WL.nil ?_
    refine fun a ha => hK18 _ _ ?_ a ha
    refine W.seq fun K27 hK27 => ?_
    refine W.region ?_
    refine wl_assign rfl rfl ?_
    refine WL.nil ?_
    refine fun a ha => hK27 _ _ ?_ a ha
    refine W.seq fun K28 hK28 => ?_
    refine W.seq fun K29 hK29 => ?_
    refine W.region ?_
    refine wl_move rfl rfl ?_
    refine wl_lenr (e := ty_54) (l := u19) Try.underlying70 rfl rfl (hS25.own_ro (i := 0) rfl) ?_
    refine wl_move rfl rfl ?_
    refine WL.nil ?_
    refine fun a ha => hK29 _ _ ?_ a ha
    refine W.block ?_
    refine W.loopk (fun m a w30 => ∃ (l33 : (List (List Int))) (y36 : Int) (v34 : Value) (F35 : List Nat), St 51 [(1, (.pointer (some ⟨b2, 0, none⟩))), (4, v20), (5, v34), (14, v20), (15, (.int .i64 (List.length u19 : Int))), (16, (.int .i64 y36))] a ∧ Below w0.heap.size w0 w30 ∧ Sep w0.heap.size w30 [R.blk b2 58 [v0_0, v0_1, (.int .i64 x0.1.2.2.1), (.int .i64 x0.1.2.2.2), (.int .i64 x0.2.1), v0_2, v0_3], R.own ty_54 F21 v20 u19, R.own ty_23 F35 v34 l33] ∧ F_spec_TooCloseNow_L1 u19 x0 m l33 y36 = some r) FU ?_ ?_
    ·
      have hS38 := hS25.push0 (r := R.own ty_23 [] (.slice none 0 0) []) rfl fun _ => .inl ⟨rfl, rfl, rfl⟩
      exact fun a ha => ⟨[], 0, (.slice none 0 0), [], ha.sub ⟨rfl, rfl, rfl, rfl, rfl, rfl, trivial⟩, hB24, (hS38.sel [2, 1, 0] rfl), hF⟩
    ·
      rintro m40 a w30 ⟨l33, y36, v34, F35, ha, hB31, hS32, hF⟩ KL39 hKL39
      refine W.at ?_ ha
      cases m40 with
      | zero => exact noneE hF
      | succ m40 =>
        obtain ⟨nx37, hnx37⟩ : ∃ k, k = F_spec_TooCloseNow_L1 u19 x0 m40 := ⟨_, rfl⟩
        rw [F_spec_TooCloseNow_L1, ← hnx37] at hF
        refine W.seq fun K41 hK41 => ?_
        refine W.region ?_
        refine wl_lss rfl rfl rfl ?_
        refine WL.nil ?_
        refine fun a ha => hK41 _ _ ?_ a ha
        refine W.seq fun K42 hK42 => ?_
        refine W.cond rfl (fun h43 => ?_) (fun h43 => ?_)
        · replace hF := ifP h43 hF
          refine W.skip ?_
          refine fun a ha => hK42 _ _ ?_ a ha
          refine W.seq fun K44 hK44 => ?_
          refine W.block ?_
          refine W.seq fun K45 hK45 => ?_
          refine W.region ?_
          refine wl_move rfl rfl ?_
          obtain ⟨u46, hu46, hF⟩ := bindE hF
          refine wl_indexo (e := ty_54) (i := 1) Try.underlying70 rfl rfl rfl hS32 rfl hu46 ?_
          rintro p47 _ rfl hp48 ho49
          refine wl_load_p (vs := [(.int .i64 u46.1), (.int .i64 u46.2)]) (v := (.agg #[(.int .i64 u46.1), (.int .i64 u46.2)])) tf_54 rfl rfl hp48 rfl rfl ?_
          refine wl_alloc (cs := [(.int .i64 0), (.int .i64 0)]) tf_54 rfl rfl hB31 hS32 ?_
          intro b50 w51 hb52 hB53 hS54
          refine wl_assign rfl rfl ?_
          refine wl_store_blk (i := 0) (vs := [(.int .i64 u46.1), (.int .i64 u46.2)]) (cs' := [(.int .i64 u46.1), (.int .i64 u46.2)]) tf_54 rfl rfl rfl rfl hB53 hS54 rfl rfl ⟨rfl, rfl, trivial⟩ rfl ?_
          intro w55 hk58 hB56 hS57
          refine WL.nil ?_
          refine fun a ha => hK45 _ _ ?_ a ha
          refine W.seq fun K59 hK59 => ?_
          refine W.region ?_
          refine wl_move rfl rfl ?_
          refine wl_add rfl rfl rfl ?_
          refine wl_assign rfl rfl ?_
          refine WL.nil ?_
          refine fun a ha => hK59 _ _ ?_ a ha
          refine W.block ?_
          refine W.loopk (fun m a w60 => ∃ (l63 : (List (List Int))) (y66 : Int) (v64 : Value) (F65 : List Nat), St 51 [(1, (.pointer (some ⟨b2, 0, none⟩))), (4, v20), (5, v64), (6, (.int .i64 y36)), (7, (.pointer (some ⟨b50, 0, none⟩))), (8, (.int .i64 y66)), (14, v20), (15, (.int .i64 (List.length u19 : Int))), (16, (.int .i64 y36))] a ∧ Below w0.heap.size w0 w60 ∧ Sep w0.heap.size w60 [R.blk b2 58 [v0_0, v0_1, (.int .i64 x0.1.2.2.1), (.int .i64 x0.1.2.2.2), (.int .i64 x0.2.1), v0_2, v0_3], R.own ty_54 F21 v20 u19, R.own ty_23 F65 v64 l63, R.blk b50 54 [(.int .i64 u46.1), (.int .i64 u46.2)]] ∧ F_spec_TooCloseNow_L2 u19 u46 x0 y36 nx37 m l63 y66 = some r) FU ?_ ?_
          ·
            exact fun a ha => ⟨l33, (w64 (y36 + 1)), v34, F35, ha.sub ⟨rfl, rfl, rfl, rfl, rfl, rfl, rfl, rfl, rfl, trivial⟩, hB56, (hS57.sel [1, 2, 3, 0] rfl), hF⟩
          ·
            rintro m69 a w60 ⟨l63, y66, v64, F65, ha, hB61, hS62, hF⟩ KL68 hKL68
            refine W.at ?_ ha
            cases m69 with
            | zero => exact noneE hF
            | succ m69 =>
              obtain ⟨nx67, hnx67⟩ : ∃ k, k = F_spec_TooCloseNow_L2 u19 u46 x0 y36 nx37 m69 := ⟨_, rfl⟩
              rw [F_spec_TooCloseNow_L2, ← hnx67] at hF
              refine W.seq fun K70 hK70 => ?_
              refine W.seq fun K71 hK71 => ?_
              refine W.region ?_
              refine wl_move rfl rfl ?_
              refine wl_move rfl rfl ?_
              refine wl_lenr (e := ty_54) (l := u19) Try.underlying70 rfl rfl (hS62.own_ro (i := 1) rfl) ?_
              refine wl_lss rfl rfl rfl ?_
              refine WL.nil ?_
              refine fun a ha => hK71 _ _ ?_ a ha
              refine W.cond rfl (fun h72 => ?_) (fun h72 => ?_)
              · replace hF := ifP h72 hF
                refine W.skip ?_
                refine fun a ha => hK70 _ _ ?_ a ha
                refine W.seq fun K73 hK73 => ?_
                obtain ⟨k80, hk80, hF⟩ := jE1 hF
                have hJ81 : ∀ (l77 : (List (List Int))) (v78 : Value) (F79 : List Nat) (w74 : World) (_ : k80 l77 = some r) (_ : Below w0.heap.size w0 w74) (_ : Sep w0.heap.size w74 [R.blk b2 58 [v0_0, v0_1, (.int .i64 x0.1.2.2.1), (.int .i64 x0.1.2.2.2), (.int .i64 x0.2.1), v0_2, v0_3], R.own ty_54 F21 v20 u19, R.own ty_23 F79 v78 l77, R.blk b50 54 [(.int .i64 u46.1), (.int .i64 u46.2)]]), ∀ a, St 51 [(1, (.pointer (some ⟨b2, 0, none⟩))), (4, v20), (5, v78), (6, (.int .i64 y36)), (7, (.pointer (some ⟨b50, 0, none⟩))), (8, (.int .i64 y66)), (14, v20), (15, (.int .i64 (List.length u19 : Int))), (16, (.int .i64 y36))] a → K73 a w74 := by
                  intro l77 v78 F79 w74 hF hB75 hS76
                  subst hk80
                  refine fun a ha => hK73 _ _ ?_ a ha
                  refine W.region ?_
                  refine wl_move rfl rfl ?_
                  refine wl_add rfl rfl rfl ?_
                  refine wl_assign rfl rfl ?_
                  refine WL.nil ?_
                  rw [hnx67] at hF
                  exact fun a ha => hKL68 a _ m69 (Nat.lt_succ_self m69) ⟨l77, (w64 (y66 + 1)), v78, F79, ha.sub ⟨rfl, rfl, rfl, rfl, rfl, rfl, rfl, rfl, rfl, trivial⟩, hB75, (hS76.sel [0, 1, 2, 3] rfl), hF⟩
                refine W.block ?_
                refine W.seq fun K82 hK82 => ?_
                refine W.regionH mixed_ [] hB61 hS62 ?_
                intro w83 hb84 hB85 hS86
                have hSW87 := KeepX.refl w83 []
                refine WH.takex (i := 0) rfl (by kernel_rfl) (by kernel_rfl) (by kernel_rfl) hP hSW87 ?_
                refine pr_load_blk (i := 3) (vs := [(.int .i64 u46.1), (.int .i64 u46.2)]) (v := (.agg #[(.int .i64 u46.1), (.int .i64 u46.2)])) tf_54 rfl rfl hS86 rfl rfl rfl (by simp) ?_
                refine WH.takex (i := 1) rfl (by kernel_rfl) (by kernel_rfl) (by kernel_rfl) hP hSW87 ?_
                refine pr_move rfl rfl ?_
                refine WH.takex (i := 2) rfl (by kernel_rfl) (by kernel_rfl) (by kernel_rfl) hP hSW87 ?_
                refine pr_move rfl rfl ?_
                obtain ⟨u88, hu88, hF⟩ := bindE hF
                refine WH.takex (i := 3) rfl (by kernel_rfl) (by kernel_rfl) (by kernel_rfl) hP hSW87 ?_
                refine pr_indexo (e := ty_54) (i := 1) Try.underlying70 rfl rfl rfl hS86 rfl hu88 ?_
                rintro p89 _ rfl hp90 ho91
                refine WH.takex (i := 4) rfl (by kernel_rfl) (by kernel_rfl) (by kernel_rfl) hP hSW87 ?_
                refine pr_load_p (vs := [(.int .i64 u88.1), (.int .i64 u88.2)]) (v := (.agg #[(.int .i64 u88.1), (.int .i64 u88.2)])) tf_54 rfl rfl (hp90.kx0) rfl rfl ?_
                refine WH.takex (i := 6) rfl (by kernel_rfl) (by kernel_rfl) (by kernel_rfl) hP hSW87 ?_
                refine pr_field (o := 0) (off' := 0) ff_58_0 rfl rfl rfl ?_
                refine WH.takex (i := 7) rfl (by kernel_rfl) (by kernel_rfl) (by kernel_rfl) hP hSW87 ?_
                refine pr_field (o := 2) (off' := 2) ff_31_2 rfl rfl rfl ?_
                refine WH.takex (i := 8) rfl (by kernel_rfl) (by kernel_rfl) (by kernel_rfl) hP hSW87 ?_
                refine pr_load_blk (i := 0) (vs := [(.int .i64 x0.1.2.2.1)]) (v := (.int .i64 x0.1.2.2.1)) tf_3 rfl rfl hS86 rfl rfl rfl (by simp) ?_
                refine WH.takex (i := 9) rfl (by kernel_rfl) (by kernel_rfl) (by kernel_rfl) hP hSW87 ?_
                refine pr_field (o := 0) (off' := 0) ff_58_0 rfl rfl rfl ?_
                refine WH.takex (i := 10) rfl (by kernel_rfl) (by kernel_rfl) (by kernel_rfl) hP hSW87 ?_
                refine pr_field (o := 2) (off' := 2) ff_31_2 rfl rfl rfl ?_
                refine WH.takex (i := 11) rfl (by kernel_rfl) (by kernel_rfl) (by kernel_rfl) hP hSW87 ?_
                refine pr_load_blk (i := 0) (vs := [(.int .i64 x0.1.2.2.1)]) (v := (.int .i64 x0.1.2.2.1)) tf_3 rfl rfl hS86 rfl rfl rfl (by simp) ?_
                refine WH.takex (i := 12) rfl (by kernel_rfl) (by kernel_rfl) (by kernel_rfl) hP hSW87 ?_
                refine pr_mul rfl rfl rfl ?_
                refine WH.one (i := 5) (by kernel_rfl) rfl ?_
                obtain ⟨u92, hu92, hF⟩ := bindE hF
                refine wl_call rfl Try.call98 (C_spec_stSquare w83 u46 u88 _ hu92) rfl ?_
                rintro _ w93 ⟨rfl, hb94⟩
                refine ⟨_, rfl, ?_⟩
                have hB95 := hB85.trans (hb94.mono hB85.size)
                have hS96 := hS86.below hb94
                have hSW98 := hSW87.ext hb94
                refine WL.nil (WH.ret hSW98 ?_)
                refine WH.takex (i := 13) rfl (by kernel_rfl) (by kernel_rfl) (by kernel_rfl) hP hSW98 ?_
                refine pr_lss rfl rfl rfl ?_
                refine WH.done (by kernel_rfl) ?_
                refine fun a ha => hK82 _ _ ?_ a ha
                refine W.cond rfl (fun h99 => ?_) (fun h99 => ?_)
                · replace hF := ifP h99 hF
                  refine W.region ?_
                  refine wl_move rfl rfl ?_
                  refine wl_move rfl rfl ?_
                  refine wl_move rfl rfl ?_
                  refine wl_lit (vs := [(.int .i64 y36), (.int .i64 y66)]) (l := [y36, y66]) fl_3 Try.underlying23 rfl rfl rfl rfl rfl rfl hB95 hS96 ?_
                  intro v100 F101 w102 hb103 hB104 hS105
                  have hq106 := hS105.sel [0, 1, 2, 3, 4] rfl
                  have hq107 := hq106.head (r' := R.cel ty_23 F101 [v100] [y36, y66]) (rfl) fun _ h0 => ⟨_, rfl, h0⟩
                  refine wl_lit1 (e := ty_23) (vs := [v100]) Try.underlying39 rfl rfl (cells_one (hS105.own_ro (i := 0) rfl).one) rfl hB104 hq107 ?_
                  intro v108 F109 w110 hb111 hf112 hB113 hS114
                  obtain ⟨u115, hu115, hF⟩ := bindE hF
                  refine wl_appendn (e := ty_23) Try.underlying39 rfl rfl rfl hB113 (hS114.sel [3, 0, 1, 2, 4] rfl) hu115 ?_
                  intro v116 F117 w118 hk119 hB120 hS121
                  refine wl_assign rfl rfl ?_
                  refine WL.nil ?_
                  exact fun a ha => hJ81 (u115) (v116) (F117) _ hF hB120 (hS121.sel [1, 2, 0, 3] rfl) a (ha.sub ⟨rfl, rfl, rfl, rfl, rfl, rfl, rfl, rfl, rfl, trivial⟩)
                · replace hF := ifN h99 hF
                  refine W.skip ?_
                  exact fun a ha => hJ81 (l63) (v64) (F65) _ hF hB95 (hS96.sel [0, 1, 2, 3] rfl) a (ha.sub ⟨rfl, rfl, rfl, rfl, rfl, rfl, rfl, rfl, rfl, trivial⟩)
              · replace hF := ifN h72 hF
                refine W.exit ?_
                refine fun a ha => hK44 _ _ ?_ a ha
                refine W.region ?_
                refine wl_add rfl rfl rfl ?_
                refine wl_move rfl rfl ?_
                refine WL.nil ?_
                rw [hnx37] at hF
                exact fun a ha => hKL39 a _ m40 (Nat.lt_succ_self m40) ⟨l63, (w64 (y36 + 1)), v64, F65, ha.sub ⟨rfl, rfl, rfl, rfl, rfl, rfl, trivial⟩, hB61, (hS62.sel [0, 1, 2] rfl), hF⟩
        · replace hF := ifN h43 hF
          refine W.exit ?_
          refine fun a ha => hK28 _ _ ?_ a ha
          refine W.seq fun K122 hK122 => ?_
          refine W.region ?_
          refine wl_move rfl rfl ?_
          refine wl_assign rfl rfl ?_
          refine wl_assign rfl rfl ?_
          refine WL.nil ?_
          refine fun a ha => hK122 _ _ ?_ a ha
          refine W.ret ?_
          have hr := Option.some.inj hF
          subst hr
          exact rets (vs := [v34, (.bool true)]) hQ rfl ⟨rv_tmp rfl, rv_tmp rfl, trivial⟩ ⟨v34, F35, rfl, hB31, hS32.sel [2] rfl⟩
theorem C_impl_TooCloseNow (w0 : World) (x0 : (((List (List (Int × Int))) × (List Int) × Int × Int) × Int × (List Int) × (List Int))) (v0_0 : Value) (h0_0 : rdS ty_70 (· < w0.heap.size) w0 v0_0 x0.1.1) (v0_1 : Value) (h0_1 : rdS ty_3 (· < w0.heap.size) w0 v0_1 x0.1.2.1) (v0_2 : Value) (h0_2 : rdS ty_3 (· < w0.heap.size) w0 v0_2 x0.2.2.1) (v0_3 : Value) (h0_3 : rdS ty_3 (· < w0.heap.size) w0 v0_3 x0.2.2.2) (r : ((List (List Int)) × Bool)) (hF : F_impl_TooCloseNow x0 = some r) :
    Calls Try.prog 55 [(.agg #[v0_0, v0_1, (.int .i64 x0.1.2.2.1), (.int .i64 x0.1.2.2.2), (.int .i64 x0.2.1), v0_2, v0_3])].toArray w0 fun e w' => ∃ (q0 : Value) (G0 : List Nat), e = .returned (.tuple #[q0, (.bool r.2)]) ∧ Below w0.heap.size w0 w' ∧ Sep w0.heap.size w' [R.own ty_23 G0 q0 r.1] := by
  refine calls_mk' Try.func55 rfl Try.ntmps55 rfl rfl fun Q hQ hP => ?_
  have hB : Below w0.heap.size w0 w0 := Below.refl _ _
  have hS : Sep w0.heap.size w0 [] := Sep.nil _ _
  unfold F_impl_TooCloseNow at hF
  refine W.seq fun K1 hK1 => ?_
  refine W.region ?_
  refine wl_box (cs := [v0_0, v0_1, (.int .i64 x0.1.2.2.1), (.int .i64 x0.1.2.2.2), (.int .i64 x0.2.1), v0_2, v0_3]) rfl rfl rfl hB hS ?_
  intro b2 w3 hb4 hB5 hS6
  refine wl_assign rfl rfl ?_
  refine wl_assign rfl rfl ?_
  refine WL.nil ?_
  refine fun a ha => hK1 _ _ ?_ a ha
  refine W.seq fun K7 hK7 => ?_
  refine W.seq fun K8 hK8 => ?_
  refine W.region ?_
  refine wl_load_blk (i := 0) (vs := [v0_0, v0_1, (.int .i64 x0.1.2.2.1), (.int .i64 x0.1.2.2.2), (.int .i64 x0.2.1), v0_2, v0_3]) (v := (.agg #[v0_0, v0_1, (.int .i64 x0.1.2.2.1), (.int .i64 x0.1.2.2.2), (.int .i64 x0.2.1), v0_2, v0_3])) tf_58 rfl rfl hS6 rfl rfl rfl ?_
  obtain ⟨u9, hu9, hF⟩ := bindE hF
  refine wl_call rfl Try.call87 (C_impl_IsMarch w3 x0 v0_0 (h0_0.ro hB5) v0_1 (h0_1.ro hB5) v0_2 (h0_2.ro hB5) v0_3 (h0_3.ro hB5) _ hu9) rfl ?_
  rintro _ w10 ⟨rfl, hb11⟩
  refine ⟨_, rfl, ?_⟩
  have hB12 := hB5.trans (hb11.mono hB5.size)
  have hS13 := hS6.below hb11
  refine wl_not rfl rfl ?_
  refine WL.nil ?_
  refine fun a ha => hK8 _ _ ?_ a ha
  refine W.cond rfl (fun h15 => ?_) (fun h15 => ?_)
  · replace hF := ifP h15 hF
    refine W.seq fun K16 hK16 => ?_
    refine W.region ?_
    refine wl_assign rfl rfl ?_
    refine wl_assign rfl rfl ?_
    refine WL.nil ?_
    refine fun a ha => hK16 _ _ ?_ a ha
    refine W.ret ?_
    have hS17 := hS13.push0 (r := R.own ty_23 [] (.slice none 0 0) []) rfl fun _ => .inl ⟨rfl, rfl, rfl⟩
    have hr := Option.some.inj hF
    subst hr
    exact rets (vs := [(.slice none 0 0), (.bool false)]) hQ rfl ⟨rv_tmp rfl, rv_tmp rfl, trivial⟩ ⟨(.slice none 0 0), [], rfl, hB12, hS17.sel [0] rfl⟩
  · replace hF := ifN h15 hF
    refine W.skip ?_
    refine fun a ha => hK7 _ _ ?_ a ha
    refine W.seq fun K18 hK18 => ?_
    refine W.region ?_
    refine wl_load_blk (i := 0) (vs := [v0_0, v0_1, (.int .i64 x0.1.2.2.1), (.int .i64 x0.1.2.2.2), (.int .i64 x0.2.1), v0_2, v0_3]) (v := (.agg #[v0_0, v0_1, (.int .i64 x0.1.2.2.1), (.int .i64 x0.1.2.2.2), (.int .i64 x0.2.1), v0_2, v0_3])) tf_58 rfl rfl hS13 rfl rfl rfl ?_
    obtain ⟨u19, hu19, hF⟩ := bindE hF
    refine wl_call rfl Try.call97 (C_impl_placesNow w10 x0 v0_0 (h0_0.ro hB12) v0_1 (h0_1.ro hB12) v0_2 (h0_2.ro hB12) v0_3 (h0_3.ro hB12) _ hu19) rfl ?_
    rintro _ w22 ⟨v20, F21, rfl, hb23, hM26⟩
    refine ⟨_, rfl, ?_⟩
    have hB24 := hB12.trans (hb23.mono hB12.size)
    have hS25 := hS13.join hb23 hM26 hB12.size
    refine wl_lit0 (e := ty_23) Try.underlying39 rfl hB24 hS25 ?_
    intro v27 F28 w29 hb30 hB31 hS32
    refine wl_assign rfl rfl ?_
    refine wl_assign rfl rfl ?_
    refine WL.nil ?_
    refine fun a ha => hK18 _ _ ?_ a ha
    refine W.seq fun K33 hK33 => ?_
    refine W.seq fun K34 hK34 => ?_
    refine W.region ?_
    refine wl_move rfl rfl ?_
    refine wl_lenr (e := ty_54) (l := u19) Try.underlying70 rfl rfl (hS32.own_ro (i := 1) rfl) ?_
    refine wl_move rfl rfl ?_
    refine WL.nil ?_
    refine fun a ha => hK34 _ _ ?_ a ha
    refine W.block ?_
    refine W.loopk (fun m a w35 => ∃ (l38 : (List (List Int))) (y41 : Int) (v39 : Value) (F40 : List Nat), St 52 [(1, (.pointer (some ⟨b2, 0, none⟩))), (4, v20), (5, v39), (15, (.int .i64 (List.length u19 : Int))), (16, (.int .i64 y41))] a ∧ Below w0.heap.size w0 w35 ∧ Sep w0.heap.size w35 [R.blk b2 58 [v0_0, v0_1, (.int .i64 x0.1.2.2.1), (.int .i64 x0.1.2.2.2), (.int .i64 x0.2.1), v0_2, v0_3], R.own ty_54 F21 v20 u19, R.own ty_23 F40 v39 l38] ∧ F_impl_TooCloseNow_L1 u19 x0 m l38 y41 = some r) FU ?_ ?_
    ·
      exact fun a ha => ⟨[], 0, v27, F28, ha.sub ⟨rfl, rfl, rfl, rfl, rfl, trivial⟩, hB31, (hS32.sel [2, 1, 0] rfl), hF⟩
    ·
      rintro m44 a w35 ⟨l38, y41, v39, F40, ha, hB36, hS37, hF⟩ KL43 hKL43
      refine W.at ?_ ha
      cases m44 with
      | zero => exact noneE hF
      | succ m44 =>
        obtain ⟨nx42, hnx42⟩ : ∃ k, k = F_impl_TooCloseNow_L1 u19 x0 m44 := ⟨_, rfl⟩
        rw [F_impl_TooCloseNow_L1, ← hnx42] at hF
        refine W.seq fun K45 hK45 => ?_
        refine W.region ?_
        refine wl_lss rfl rfl rfl ?_
        refine WL.nil ?_
        refine fun a ha => hK45 _ _ ?_ a ha
        refine W.seq fun K46 hK46 => ?_
        refine W.cond rfl (fun h47 => ?_) (fun h47 => ?_)
        · replace hF := ifP h47 hF
          refine W.skip ?_
          refine fun a ha => hK46 _ _ ?_ a ha
          refine W.seq fun K48 hK48 => ?_
          refine W.block ?_
          refine W.seq fun K49 hK49 => ?_
          refine W.region ?_
          refine wl_move rfl rfl ?_
          refine wl_assign rfl rfl ?_
          refine WL.nil ?_
          refine fun a ha => hK49 _ _ ?_ a ha
          refine W.seq fun K50 hK50 => ?_
          refine W.region ?_
          refine wl_move rfl rfl ?_
          refine wl_add rfl rfl rfl ?_
          refine wl_assign rfl rfl ?_
          refine WL.nil ?_
          refine fun a ha => hK50 _ _ ?_ a ha
          refine W.block ?_
          refine W.loopk (fun m a w51 => ∃ (l54 : (List (List Int))) (y57 : Int) (v55 : Value) (F56 : List Nat), St 52 [(1, (.pointer (some ⟨b2, 0, none⟩))), (4, v20), (5, v55), (6, (.int .i64 y41)), (7, (.int .i64 y57)), (15, (.int .i64 (List.length u19 : Int))), (16, (.int .i64 y41))] a ∧ Below w0.heap.size w0 w51 ∧ Sep w0.heap.size w51 [R.blk b2 58 [v0_0, v0_1, (.int .i64 x0.1.2.2.1), (.int .i64 x0.1.2.2.2), (.int .i64 x0.2.1), v0_2, v0_3], R.own ty_54 F21 v20 u19, R.own ty_23 F56 v55 l54] ∧ F_impl_TooCloseNow_L2 u19 y41 x0 nx42 m l54 y57 = some r) FU ?_ ?_
          ·
            exact fun a ha => ⟨l38, (w64 (y41 + 1)), v39, F40, ha.sub ⟨rfl, rfl, rfl, rfl, rfl, rfl, rfl, trivial⟩, hB36, (hS37.sel [0, 1, 2] rfl), hF⟩
          ·
            rintro m60 a w51 ⟨l54, y57, v55, F56, ha, hB52, hS53, hF⟩ KL59 hKL59
            refine W.at ?_ ha
            cases m60 with
            | zero => exact noneE hF
            | succ m60 =>
              obtain ⟨nx58, hnx58⟩ : ∃ k, k = F_impl_TooCloseNow_L2 u19 y41 x0 nx42 m60 := ⟨_, rfl⟩
              rw [F_impl_TooCloseNow_L2, ← hnx58] at hF
              refine W.seq fun K61 hK61 => ?_
              refine W.seq fun K62 hK62 => ?_
              refine W.region ?_
              refine wl_move rfl rfl ?_
              refine wl_move rfl rfl ?_
              refine wl_lenr (e := ty_54) (l := u19) Try.underlying70 rfl rfl (hS53.own_ro (i := 1) rfl) ?_
              refine wl_lss rfl rfl rfl ?_
              refine WL.nil ?_
              refine fun a ha => hK62 _ _ ?_ a ha
              refine W.cond rfl (fun h63 => ?_) (fun h63 => ?_)
              · replace hF := ifP h63 hF
                refine W.skip ?_
                refine fun a ha => hK61 _ _ ?_ a ha
                refine W.seq fun K64 hK64 => ?_
                obtain ⟨k71, hk71, hF⟩ := jE1 hF
                have hJ72 : ∀ (l68 : (List (List Int))) (v69 : Value) (F70 : List Nat) (w65 : World) (_ : k71 l68 = some r) (_ : Below w0.heap.size w0 w65) (_ : Sep w0.heap.size w65 [R.blk b2 58 [v0_0, v0_1, (.int .i64 x0.1.2.2.1), (.int .i64 x0.1.2.2.2), (.int .i64 x0.2.1), v0_2, v0_3], R.own ty_54 F21 v20 u19, R.own ty_23 F70 v69 l68]), ∀ a, St 52 [(1, (.pointer (some ⟨b2, 0, none⟩))), (4, v20), (5, v69), (6, (.int .i64 y41)), (7, (.int .i64 y57)), (15, (.int .i64 (List.length u19 : Int))), (16, (.int .i64 y41))] a → K64 a w65 := by
                  intro l68 v69 F70 w65 hF hB66 hS67
                  subst hk71
                  refine fun a ha => hK64 _ _ ?_ a ha
                  refine W.region ?_
                  refine wl_move rfl rfl ?_
                  refine wl_add rfl rfl rfl ?_
                  refine wl_assign rfl rfl ?_
                  refine WL.nil ?_
                  rw [hnx58] at hF
                  exact fun a ha => hKL59 a _ m60 (Nat.lt_succ_self m60) ⟨l68, (w64 (y57 + 1)), v69, F70, ha.sub ⟨rfl, rfl, rfl, rfl, rfl, rfl, rfl, trivial⟩, hB66, (hS67.sel [0, 1, 2] rfl), hF⟩
                refine W.block ?_
                refine W.seq fun K73 hK73 => ?_
                refine W.regionH mixed_ [] hB52 hS53 ?_
                intro w74 hb75 hB76 hS77
                have hSW78 := KeepX.refl w74 []
                refine WH.takex (i := 0) rfl (by kernel_rfl) (by kernel_rfl) (by kernel_rfl) hP hSW78 ?_
                refine pr_move rfl rfl ?_
                refine WH.takex (i := 1) rfl (by kernel_rfl) (by kernel_rfl) (by kernel_rfl) hP hSW78 ?_
                refine pr_move rfl rfl ?_
                obtain ⟨u79, hu79, hF⟩ := bindE hF
                refine WH.takex (i := 2) rfl (by kernel_rfl) (by kernel_rfl) (by kernel_rfl) hP hSW78 ?_
                refine pr_indexo (e := ty_54) (i := 1) Try.underlying70 rfl rfl rfl hS77 rfl hu79 ?_
                rintro p80 _ rfl hp81 ho82
                refine WH.takex (i := 3) rfl (by kernel_rfl) (by kernel_rfl) (by kernel_rfl) hP hSW78 ?_
                refine pr_load_p (vs := [(.int .i64 u79.1), (.int .i64 u79.2)]) (v := (.agg #[(.int .i64 u79.1), (.int .i64 u79.2)])) tf_54 rfl rfl (hp81.kx0) rfl rfl ?_
                refine WH.takex (i := 4) rfl (by kernel_rfl) (by kernel_rfl) (by kernel_rfl) hP hSW78 ?_
                refine pr_move rfl rfl ?_
                refine WH.takex (i := 5) rfl (by kernel_rfl) (by kernel_rfl) (by kernel_rfl) hP hSW78 ?_
                refine pr_move rfl rfl ?_
                obtain ⟨u83, hu83, hF⟩ := bindE hF
                refine WH.takex (i := 6) rfl (by kernel_rfl) (by kernel_rfl) (by kernel_rfl) hP hSW78 ?_
                refine pr_indexo (e := ty_54) (i := 1) Try.underlying70 rfl rfl rfl hS77 rfl hu83 ?_
                rintro p84 _ rfl hp85 ho86
                refine WH.takex (i := 7) rfl (by kernel_rfl) (by kernel_rfl) (by kernel_rfl) hP hSW78 ?_
                refine pr_load_p (vs := [(.int .i64 u83.1), (.int .i64 u83.2)]) (v := (.agg #[(.int .i64 u83.1), (.int .i64 u83.2)])) tf_54 rfl rfl (hp85.kx0) rfl rfl ?_
                refine WH.takex (i := 9) rfl (by kernel_rfl) (by kernel_rfl) (by kernel_rfl) hP hSW78 ?_
                refine pr_field (o := 0) (off' := 0) ff_58_0 rfl rfl rfl ?_
                refine WH.takex (i := 10) rfl (by kernel_rfl) (by kernel_rfl) (by kernel_rfl) hP hSW78 ?_
                refine pr_field (o := 2) (off' := 2) ff_31_2 rfl rfl rfl ?_
                refine WH.takex (i := 11) rfl (by kernel_rfl) (by kernel_rfl) (by kernel_rfl) hP hSW78 ?_
                refine pr_load_blk (i := 0) (vs := [(.int .i64 x0.1.2.2.1)]) (v := (.int .i64 x0.1.2.2.1)) tf_3 rfl rfl hS77 rfl rfl rfl (by simp) ?_
                refine WH.takex (i := 12) rfl (by kernel_rfl) (by kernel_rfl) (by kernel_rfl) hP hSW78 ?_
                refine pr_field (o := 0) (off' := 0) ff_58_0 rfl rfl rfl ?_
                refine WH.takex (i := 13) rfl (by kernel_rfl) (by kernel_rfl) (by kernel_rfl) hP hSW78 ?_
                refine pr_field (o := 2) (off' := 2) ff_31_2 rfl rfl rfl ?_
                refine WH.takex (i := 14) rfl (by kernel_rfl) (by kernel_rfl) (by kernel_rfl) hP hSW78 ?_
                refine pr_load_blk (i := 0) (vs := [(.int .i64 x0.1.2.2.1)]) (v := (.int .i64 x0.1.2.2.1)) tf_3 rfl rfl hS77 rfl rfl rfl (by simp) ?_
                refine WH.takex (i := 15) rfl (by kernel_rfl) (by kernel_rfl) (by kernel_rfl) hP hSW78 ?_
                refine pr_mul rfl rfl rfl ?_
                refine WH.one (i := 8) (by kernel_rfl) rfl ?_
                obtain ⟨u87, hu87, hF⟩ := bindE hF
                refine wl_call rfl Try.call99 (C_impl_squareOf w74 u79 u83 _ hu87) rfl ?_
                rintro _ w88 ⟨rfl, hb89⟩
                refine ⟨_, rfl, ?_⟩
                have hB90 := hB76.trans (hb89.mono hB76.size)
                have hS91 := hS77.below hb89
                have hSW93 := hSW78.ext hb89
                refine WL.nil (WH.ret hSW93 ?_)
                refine WH.takex (i := 16) rfl (by kernel_rfl) (by kernel_rfl) (by kernel_rfl) hP hSW93 ?_
                refine pr_lss rfl rfl rfl ?_
                refine WH.done (by kernel_rfl) ?_
                refine fun a ha => hK73 _ _ ?_ a ha
                refine W.cond rfl (fun h94 => ?_) (fun h94 => ?_)
                · replace hF := ifP h94 hF
                  refine W.region ?_
                  refine wl_move rfl rfl ?_
                  refine wl_move rfl rfl ?_
                  refine wl_move rfl rfl ?_
                  refine wl_lit (vs := [(.int .i64 y41), (.int .i64 y57)]) (l := [y41, y57]) fl_3 Try.underlying23 rfl rfl rfl rfl rfl rfl hB90 hS91 ?_
                  intro v95 F96 w97 hb98 hB99 hS100
                  have hq101 := hS100.sel [0, 1, 2, 3] rfl
                  have hq102 := hq101.head (r' := R.cel ty_23 F96 [v95] [y41, y57]) (rfl) fun _ h0 => ⟨_, rfl, h0⟩
                  refine wl_lit1 (e := ty_23) (vs := [v95]) Try.underlying39 rfl rfl (cells_one (hS100.own_ro (i := 0) rfl).one) rfl hB99 hq102 ?_
                  intro v103 F104 w105 hb106 hf107 hB108 hS109
                  obtain ⟨u110, hu110, hF⟩ := bindE hF
                  refine wl_appendn (e := ty_23) Try.underlying39 rfl rfl rfl hB108 (hS109.sel [3, 0, 1, 2] rfl) hu110 ?_
                  intro v111 F112 w113 hk114 hB115 hS116
                  refine wl_assign rfl rfl ?_
                  refine WL.nil ?_
                  exact fun a ha => hJ72 (u110) (v111) (F112) _ hF hB115 (hS116.sel [1, 2, 0] rfl) a (ha.sub ⟨rfl, rfl, rfl, rfl, rfl, rfl, rfl, trivial⟩)
                · replace hF := ifN h94 hF
                  refine W.skip ?_
                  exact fun a ha => hJ72 (l54) (v55) (F56) _ hF hB90 (hS91.sel [0, 1, 2] rfl) a (ha.sub ⟨rfl, rfl, rfl, rfl, rfl, rfl, rfl, trivial⟩)
              · replace hF := ifN h63 hF
                refine W.exit ?_
                refine fun a ha => hK48 _ _ ?_ a ha
                refine W.region ?_
                refine wl_add rfl rfl rfl ?_
                refine wl_move rfl rfl ?_
                refine WL.nil ?_
                rw [hnx42] at hF
                exact fun a ha => hKL43 a _ m44 (Nat.lt_succ_self m44) ⟨l54, (w64 (y41 + 1)), v55, F56, ha.sub ⟨rfl, rfl, rfl, rfl, rfl, trivial⟩, hB52, (hS53.sel [0, 1, 2] rfl), hF⟩
        · replace hF := ifN h47 hF
          refine W.exit ?_
          refine fun a ha => hK33 _ _ ?_ a ha
          refine W.seq fun K117 hK117 => ?_
          refine W.region ?_
          refine wl_move rfl rfl ?_
          refine wl_assign rfl rfl ?_
          refine wl_assign rfl rfl ?_
          refine WL.nil ?_
          refine fun a ha => hK117 _ _ ?_ a ha
          refine W.ret ?_
          have hr := Option.some.inj hF
          subst hr
          exact rets (vs := [v39, (.bool true)]) hQ rfl ⟨rv_tmp rfl, rv_tmp rfl, trivial⟩ ⟨v39, F40, rfl, hB36, hS37.sel [2] rfl⟩
theorem C_laws_FnExactTooCloseNow (w0 : World) (x0 : (((List (List (Int × Int))) × (List Int) × Int × Int) × Int × (List Int) × (List Int))) (v0_0 : Value) (h0_0 : rdS ty_119 (· < w0.heap.size) w0 v0_0 x0.1.1) (v0_1 : Value) (h0_1 : rdS ty_3 (· < w0.heap.size) w0 v0_1 x0.1.2.1) (v0_2 : Value) (h0_2 : rdS ty_3 (· < w0.heap.size) w0 v0_2 x0.2.2.1) (v0_3 : Value) (h0_3 : rdS ty_3 (· < w0.heap.size) w0 v0_3 x0.2.2.2) (r : Bool) (hF : F_laws_FnExactTooCloseNow x0 = some r) :
    Calls Try.prog 13 [(.agg #[v0_0, v0_1, (.int .i64 x0.1.2.2.1), (.int .i64 x0.1.2.2.2), (.int .i64 x0.2.1), v0_2, v0_3])].toArray w0 fun e w' => e = .returned (.bool r) ∧ Below w0.heap.size w0 w' := by
  refine calls_mk' Try.func13 rfl Try.ntmps13 rfl rfl fun Q hQ hP => ?_
  have hB : Below w0.heap.size w0 w0 := Below.refl _ _
  have hS : Sep w0.heap.size w0 [] := Sep.nil _ _
  unfold F_laws_FnExactTooCloseNow at hF
  refine W.seq fun K1 hK1 => ?_
  refine W.region ?_
  refine wl_box (cs := [v0_0, v0_1, (.int .i64 x0.1.2.2.1), (.int .i64 x0.1.2.2.2), (.int .i64 x0.2.1), v0_2, v0_3]) rfl rfl rfl hB hS ?_
  intro b2 w3 hb4 hB5 hS6
  refine wl_assign rfl rfl ?_
  refine WL.nil ?_
  refine fun a ha => hK1 _ _ ?_ a ha
  refine W.seq fun K7 hK7 => ?_
  refine W.region ?_
  refine wl_assign rfl rfl ?_
  refine WL.nil ?_
  refine fun a ha => hK7 _ _ ?_ a ha
  refine W.seq fun K8 hK8 => ?_
  refine W.region ?_
  refine wl_load_blk (i := 0) (vs := [v0_0, v0_1, (.int .i64 x0.1.2.2.1), (.int .i64 x0.1.2.2.2), (.int .i64 x0.2.1), v0_2, v0_3]) (v := (.agg #[v0_0, v0_1, (.int .i64 x0.1.2.2.1), (.int .i64 x0.1.2.2.2), (.int .i64 x0.2.1), v0_2, v0_3])) tf_51 rfl rfl hS6 rfl rfl rfl ?_
  refine wl_move rfl rfl ?_
  obtain ⟨u9, hu9, hF⟩ := bindE hF
  refine wl_call rfl Try.call35 (C_laws_szMarch w3 x0 v0_0 (h0_0.ro hB5) v0_1 (h0_1.ro hB5) v0_2 (h0_2.ro hB5) v0_3 (h0_3.ro hB5) 1048576 _ hu9) rfl ?_
  rintro _ w10 ⟨rfl, hb11⟩
  refine ⟨_, rfl, ?_⟩
  have hB12 := hB5.trans (hb11.mono hB5.size)
  have hS13 := hS6.below hb11
  refine wl_assign rfl rfl ?_
  refine WL.nil ?_
  refine fun a ha => hK8 _ _ ?_ a ha
  refine W.seq fun K15 hK15 => ?_
  refine W.seq fun K16 hK16 => ?_
  refine W.region ?_
  refine wl_move rfl rfl ?_
  refine wl_lss rfl rfl rfl ?_
  refine WL.nil ?_
  refine fun a ha => hK16 _ _ ?_ a ha
  refine W.cond rfl (fun h17 => ?_) (fun h17 => ?_)
  · replace hF := ifP h17 hF
    refine W.seq fun K18 hK18 => ?_
    refine W.region ?_
    refine wl_assign rfl rfl ?_
    refine WL.nil ?_
    refine fun a ha => hK18 _ _ ?_ a ha
    refine W.ret ?_
    have hr := Option.some.inj hF
    subst hr
    exact rets (vs := [(.bool true)]) hQ rfl ⟨rv_tmp rfl, trivial⟩ ⟨rfl, hB12⟩
  · replace hF := ifN h17 hF
    refine W.skip ?_
    refine fun a ha => hK15 _ _ ?_ a ha
    refine W.seq fun K19 hK19 => ?_
    refine W.region ?_
    refine wl_load_blk (i := 0) (vs := [v0_0, v0_1, (.int .i64 x0.1.2.2.1), (.int .i64 x0.1.2.2.2), (.int .i64 x0.2.1), v0_2, v0_3]) (v := (.agg #[v0_0, v0_1, (.int .i64 x0.1.2.2.1), (.int .i64 x0.1.2.2.2), (.int .i64 x0.2.1), v0_2, v0_3])) tf_51 rfl rfl hS13 rfl rfl rfl ?_
    obtain ⟨u20, hu20, hF⟩ := bindE hF
    refine wl_call rfl Try.call37 (C_laws_toMarch w10 x0 v0_0 (h0_0.ro hB12) v0_1 (h0_1.ro hB12) v0_2 (h0_2.ro hB12) v0_3 (h0_3.ro hB12) _ hu20) rfl ?_
    rintro _ w29 ⟨v21, F22, v23, F24, v25, F26, v27, F28, rfl, hb30, hM33⟩
    refine ⟨_, rfl, ?_⟩
    have hB31 := hB12.trans (hb30.mono hB12.size)
    have hS32 := hS13.join hb30 hM33 hB12.size
    obtain ⟨u34, hu34, hF⟩ := bindE hF
    refine wl_call rfl Try.call54 (C_spec_TooCloseNow w29 u20 v21 (hS32.own_ro (i := 0) rfl) v23 (hS32.own_ro (i := 1) rfl) v25 (hS32.own_ro (i := 2) rfl) v27 (hS32.own_ro (i := 3) rfl) _ hu34) rfl ?_
    rintro _ w37 ⟨v35, F36, rfl, hb38, hM41⟩
    refine ⟨_, rfl, ?_⟩
    have hB39 := hB31.trans (hb38.mono hB31.size)
    have hS40 := hS32.join hb38 hM41 hB31.size
    refine wl_move rfl rfl ?_
    refine wl_extract rfl rfl rfl ?_
    refine wl_extract rfl rfl rfl ?_
    refine wl_assign rfl rfl ?_
    refine wl_assign rfl rfl ?_
    refine WL.nil ?_
    refine fun a ha => hK19 _ _ ?_ a ha
    refine W.seq fun K42 hK42 => ?_
    refine W.region ?_
    refine wl_load_blk (i := 5) (vs := [v0_0, v0_1, (.int .i64 x0.1.2.2.1), (.int .i64 x0.1.2.2.2), (.int .i64 x0.2.1), v0_2, v0_3]) (v := (.agg #[v0_0, v0_1, (.int .i64 x0.1.2.2.1), (.int .i64 x0.1.2.2.2), (.int .i64 x0.2.1), v0_2, v0_3])) tf_51 rfl rfl hS40 rfl rfl rfl ?_
    obtain ⟨u43, hu43, hF⟩ := bindE hF
    refine wl_call rfl Try.call37 (C_laws_toMarch w37 x0 v0_0 (h0_0.ro hB39) v0_1 (h0_1.ro hB39) v0_2 (h0_2.ro hB39) v0_3 (h0_3.ro hB39) _ hu43) rfl ?_
    rintro _ w52 ⟨v44, F45, v46, F47, v48, F49, v50, F51, rfl, hb53, hM56⟩
    refine ⟨_, rfl, ?_⟩
    have hB54 := hB39.trans (hb53.mono hB39.size)
    have hS55 := hS40.join hb53 hM56 hB39.size
    refine wl_alloc (cs := [(.slice none 0 0), (.slice none 0 0), (.int .i64 0), (.int .i64 0), (.int .i64 0), (.slice none 0 0), (.slice none 0 0)]) tf_58 rfl rfl hB54 hS55 ?_
    intro b57 w58 hb59 hB60 hS61
    refine wl_store_blk (i := 0) (vs := [v44, v46, (.int .i64 u43.1.2.2.1), (.int .i64 u43.1.2.2.2), (.int .i64 u43.2.1), v48, v50]) (cs' := [v44, v46, (.int .i64 u43.1.2.2.1), (.int .i64 u43.1.2.2.2), (.int .i64 u43.2.1), v48, v50]) tf_58 rfl rfl rfl rfl hB60 hS61 rfl rfl ⟨(hS61.own_ro (i := 1) rfl).one, (hS61.own_ro (i := 2) rfl).one, rfl, rfl, rfl, (hS61.own_ro (i := 3) rfl).one, (hS61.own_ro (i := 4) rfl).one, trivial⟩ rfl ?_
    intro w62 hk65 hB63 hS64
    refine WL.nil ?_
    refine fun a ha => hK42 _ _ ?_ a ha
    refine W.seq fun K66 hK66 => ?_
    refine W.region ?_
    refine wl_load_blk (i := 0) (vs := [v44, v46, (.int .i64 u43.1.2.2.1), (.int .i64 u43.1.2.2.2), (.int .i64 u43.2.1), v48, v50]) (v := (.agg #[v44, v46, (.int .i64 u43.1.2.2.1), (.int .i64 u43.1.2.2.2), (.int .i64 u43.2.1), v48, v50])) tf_58 rfl rfl hS64 rfl rfl rfl ?_
    obtain ⟨u67, hu67, hF⟩ := bindE hF
    refine wl_call rfl Try.call55 (C_impl_TooCloseNow w62 u43 v44 (hS64.own_ro (i := 1) rfl) v46 (hS64.own_ro (i := 2) rfl) v48 (hS64.own_ro (i := 3) rfl) v50 (hS64.own_ro (i := 4) rfl) _ hu67) rfl ?_
    rintro _ w70 ⟨v68, F69, rfl, hb71, hM74⟩
    refine ⟨_, rfl, ?_⟩
    have hB72 := hB63.trans (hb71.mono hB63.size)
    have hS73 := hS64.join hb71 hM74 hB63.size
    refine wl_move rfl rfl ?_
    refine wl_extract rfl rfl rfl ?_
    refine wl_extract rfl rfl rfl ?_
    refine wl_assign rfl rfl ?_
    refine wl_assign rfl rfl ?_
    refine WL.nil ?_
    refine fun a ha => hK66 _ _ ?_ a ha
    refine W.seq fun K75 hK75 => ?_
    refine W.seq fun K76 hK76 => ?_
    obtain ⟨k81, hk81, hF⟩ := jE1 hF
    have hJ82 : ∀ (y80 : Bool) (w77 : World) (_ : k81 y80 = some r) (_ : Below w0.heap.size w0 w77) (_ : Sep w0.heap.size w77 [R.blk b2 51 [v0_0, v0_1, (.int .i64 x0.1.2.2.1), (.int .i64 x0.1.2.2.2), (.int .i64 x0.2.1), v0_2, v0_3], R.own ty_23 F36 v35 u34.1, R.own ty_70 F45 v44 u43.1.1, R.own ty_3 F47 v46 u43.1.2.1, R.own ty_3 F49 v48 u43.2.2.1, R.own ty_3 F51 v50 u43.2.2.2, R.blk b57 58 [v44, v46, (.int .i64 u43.1.2.2.1), (.int .i64 u43.1.2.2.2), (.int .i64 u43.2.1), v48, v50], R.own ty_23 F69 v68 u67.1]), ∀ a, St 96 [(1, (.pointer (some ⟨b2, 0, none⟩))), (4, v35), (5, (.bool u34.2)), (6, (.pointer (some ⟨b57, 0, none⟩))), (7, v68), (8, (.bool u67.2)), (40, (.bool y80))] a → K76 a w77 := by
      intro y80 w77 hF hB78 hS79
      subst hk81
      refine fun a ha => hK76 _ _ ?_ a ha
      refine W.cond rfl (fun h83 => ?_) (fun h83 => ?_)
      · replace hF := ifP h83 hF
        refine W.seq fun K84 hK84 => ?_
        refine W.region ?_
        refine wl_assign rfl rfl ?_
        refine WL.nil ?_
        refine fun a ha => hK84 _ _ ?_ a ha
        refine W.ret ?_
        have hr := Option.some.inj hF
        subst hr
        exact rets (vs := [(.bool false)]) hQ rfl ⟨rv_tmp rfl, trivial⟩ ⟨rfl, hB78⟩
      · replace hF := ifN h83 hF
        refine W.skip ?_
        refine fun a ha => hK75 _ _ ?_ a ha
        refine W.seq fun K85 hK85 => ?_
        refine W.seq fun K86 hK86 => ?_
        refine W.regionH mixed_ [] hB78 hS79 ?_
        intro w87 hb88 hB89 hS90
        have hSW91 := KeepX.refl w87 []
        refine WH.takex (i := 0) rfl (by kernel_rfl) (by kernel_rfl) (by kernel_rfl) hP hSW91 ?_
        refine pr_load_blk (i := 6) (vs := [v44, v46, (.int .i64 u43.1.2.2.1), (.int .i64 u43.1.2.2.2), (.int .i64 u43.2.1), v48, v50]) (v := (.agg #[v44, v46, (.int .i64 u43.1.2.2.1), (.int .i64 u43.1.2.2.2), (.int .i64 u43.2.1), v48, v50])) tf_58 rfl rfl hS90 rfl rfl rfl (by simp) ?_
        refine WH.takex (i := 1) rfl (by kernel_rfl) (by kernel_rfl) (by kernel_rfl) hP hSW91 ?_
        refine pr_load_blk (i := 0) (vs := [v0_0, v0_1, (.int .i64 x0.1.2.2.1), (.int .i64 x0.1.2.2.2), (.int .i64 x0.2.1), v0_2, v0_3]) (v := (.agg #[v0_0, v0_1, (.int .i64 x0.1.2.2.1), (.int .i64 x0.1.2.2.2), (.int .i64 x0.2.1), v0_2, v0_3])) tf_51 rfl rfl hS90 rfl rfl rfl (by simp) ?_
        refine WH.one (i := 2) (by kernel_rfl) rfl ?_
        obtain ⟨u92, hu92, hF⟩ := bindE hF
        refine wl_call rfl Try.call37 (C_laws_toMarch w87 x0 v0_0 (h0_0.ro hB89) v0_1 (h0_1.ro hB89) v0_2 (h0_2.ro hB89) v0_3 (h0_3.ro hB89) _ hu92) rfl ?_
        rintro _ w101 ⟨v93, F94, v95, F96, v97, F98, v99, F100, rfl, hb102, hM105⟩
        refine ⟨_, rfl, ?_⟩
        have hB103 := hB89.trans (hb102.mono hB89.size)
        have hS104 := hS90.join hb102 hM105 hB89.size
        have hSW106 := hSW91.ext hb102
        refine WL.nil (WH.ret hSW106 ?_)
        refine WH.one (i := 3) (by kernel_rfl) rfl ?_
        obtain ⟨u107, hu107, hF⟩ := bindE hF
        refine wl_call rfl Try.call40 (C_laws_eqMarch w101 u43 v44 (hS104.own_ro (i := 6) rfl) v46 (hS104.own_ro (i := 7) rfl) v48 (hS104.own_ro (i := 8) rfl) v50 (hS104.own_ro (i := 9) rfl) u92 v93 (hS104.own_ro (i := 0) rfl) v95 (hS104.own_ro (i := 1) rfl) v97 (hS104.own_ro (i := 2) rfl) v99 (hS104.own_ro (i := 3) rfl) _ hu107) rfl ?_
        rintro _ w108 ⟨rfl, hb109⟩
        refine ⟨_, rfl, ?_⟩
        have hB110 := hB103.trans (hb109.mono hB103.size)
        have hS111 := hS104.below hb109
        have hSW113 := hSW106.ext hb109
        refine WL.nil (WH.ret hSW113 ?_)
        refine WH.takex (i := 4) rfl (by kernel_rfl) (by kernel_rfl) (by kernel_rfl) hP hSW113 ?_
        refine pr_not rfl rfl ?_
        refine WH.done (by kernel_rfl) ?_
        refine fun a ha => hK86 _ _ ?_ a ha
        refine W.cond rfl (fun h114 => ?_) (fun h114 => ?_)
        · replace hF := ifP h114 hF
          refine W.seq fun K115 hK115 => ?_
          refine W.region ?_
          refine wl_assign rfl rfl ?_
          refine WL.nil ?_
          refine fun a ha => hK115 _ _ ?_ a ha
          refine W.ret ?_
          have hr := Option.some.inj hF
          subst hr
          exact rets (vs := [(.bool false)]) hQ rfl ⟨rv_tmp rfl, trivial⟩ ⟨rfl, hB110⟩
        · replace hF := ifN h114 hF
          refine W.skip ?_
          refine fun a ha => hK85 _ _ ?_ a ha
          refine W.seq fun K116 hK116 => ?_
          refine W.region ?_
          refine wl_assign rfl rfl ?_
          refine WL.nil ?_
          refine fun a ha => hK116 _ _ ?_ a ha
          refine W.seq fun K117 hK117 => ?_
          refine W.region ?_
          refine wl_load_blk (i := 10) (vs := [v44, v46, (.int .i64 u43.1.2.2.1), (.int .i64 u43.1.2.2.2), (.int .i64 u43.2.1), v48, v50]) (v := (.agg #[v44, v46, (.int .i64 u43.1.2.2.1), (.int .i64 u43.1.2.2.2), (.int .i64 u43.2.1), v48, v50])) tf_58 rfl rfl hS111 rfl rfl rfl ?_
          refine wl_move rfl rfl ?_
          obtain ⟨u118, hu118, hF⟩ := bindE hF
          refine wl_call rfl Try.call43 (C_laws_markMarch w108 u43 v44 F45 v46 F47 v48 F49 v50 F51 1 (hS111.sel [6, 7, 8, 9] rfl).base0 _ hu118) rfl ?_
          rintro _ w119 ⟨rfl, hE120, hM121⟩
          refine ⟨_, rfl, ?_⟩
          have hB122 := hS111.mutB [6, 7, 8, 9] rfl (M := [R.own ty_70 F45 v44 u43.1.1, R.own ty_3 F47 v46 u43.1.2.1, R.own ty_3 F49 v48 u43.2.2.1, R.own ty_3 F51 v50 u43.2.2.2]) rfl (M' := [R.own ty_70 F45 v44 u118.2.1.1, R.own ty_3 F47 v46 u118.2.1.2.1, R.own ty_3 F49 v48 u118.2.2.2.1, R.own ty_3 F51 v50 u118.2.2.2.2]) rfl hB110 hB110.size hE120 hM121
          have hS123 : Sep w0.heap.size w119 [R.own ty_70 F45 v44 u118.2.1.1, R.own ty_3 F47 v46 u118.2.1.2.1, R.own ty_3 F49 v48 u118.2.2.2.1, R.own ty_3 F51 v50 u118.2.2.2.2, R.own ty_70 F94 v93 u92.1.1, R.own ty_3 F96 v95 u92.1.2.1, R.own ty_3 F98 v97 u92.2.2.1, R.own ty_3 F100 v99 u92.2.2.2, R.blk b2 51 [v0_0, v0_1, (.int .i64 x0.1.2.2.1), (.int .i64 x0.1.2.2.2), (.int .i64 x0.2.1), v0_2, v0_3], R.own ty_23 F36 v35 u34.1, R.blk b57 58 [v44, v46, (.int .i64 u43.1.2.2.1), (.int .i64 u43.1.2.2.2), (.int .i64 u43.2.1), v48, v50], R.own ty_23 F69 v68 u67.1] := hS111.mut [6, 7, 8, 9] [0, 1, 2, 3, 4, 5, 10, 11] rfl (M := [R.own ty_70 F45 v44 u43.1.1, R.own ty_3 F47 v46 u43.1.2.1, R.own ty_3 F49 v48 u43.2.2.1, R.own ty_3 F51 v50 u43.2.2.2]) rfl (M' := [R.own ty_70 F45 v44 u118.2.1.1, R.own ty_3 F47 v46 u118.2.1.2.1, R.own ty_3 F49 v48 u118.2.2.2.1, R.own ty_3 F51 v50 u118.2.2.2.2]) rfl hM121
          refine wl_assign rfl rfl ?_
          refine WL.nil ?_
          refine fun a ha => hK117 _ _ ?_ a ha
          refine W.seq fun K124 hK124 => ?_
          refine W.seq fun K125 hK125 => ?_
          obtain ⟨k130, hk130, hF⟩ := jE1 hF
          have hJ131 : ∀ (y129 : Bool) (w126 : World) (_ : k130 y129 = some r) (_ : Below w0.heap.size w0 w126) (_ : Sep w0.heap.size w126 [R.blk b2 51 [v0_0, v0_1, (.int .i64 x0.1.2.2.1), (.int .i64 x0.1.2.2.2), (.int .i64 x0.2.1), v0_2, v0_3], R.own ty_23 F36 v35 u34.1, R.own ty_23 F69 v68 u67.1]), ∀ a, St 96 [(1, (.pointer (some ⟨b2, 0, none⟩))), (4, v35), (5, (.bool u34.2)), (7, v68), (61, (.bool y129))] a → K125 a w126 := by
            intro y129 w126 hF hB127 hS128
            subst hk130
            refine fun a ha => hK125 _ _ ?_ a ha
            refine W.cond rfl (fun h132 => ?_) (fun h132 => ?_)
            · replace hF := ifP h132 hF
              refine W.seq fun K133 hK133 => ?_
              refine W.region ?_
              refine wl_assign rfl rfl ?_
              refine WL.nil ?_
              refine fun a ha => hK133 _ _ ?_ a ha
              refine W.ret ?_
              have hr := Option.some.inj hF
              subst hr
              exact rets (vs := [(.bool false)]) hQ rfl ⟨rv_tmp rfl, trivial⟩ ⟨rfl, hB127⟩
            · replace hF := ifN h132 hF
              refine W.skip ?_
              refine fun a ha => hK124 _ _ ?_ a ha
              refine W.seq fun K134 hK134 => ?_
              refine W.region ?_
              refine wl_assign rfl rfl ?_
              refine WL.nil ?_
              refine fun a ha => hK134 _ _ ?_ a ha
              refine W.seq fun K135 hK135 => ?_
              refine W.region ?_
              refine wl_move rfl rfl ?_
              refine wl_move rfl rfl ?_
              obtain ⟨u136, hu136, hF⟩ := bindE hF
              refine wl_call rfl Try.call28 (C_laws_markIntSS w126 u67.1 v68 F69 1 (hS128.sel [2] rfl).base0 _ hu136) rfl ?_
              rintro _ w137 ⟨rfl, hE138, hM139⟩
              refine ⟨_, rfl, ?_⟩
              have hB140 := hS128.mutB [2] rfl (M := [R.own ty_23 F69 v68 u67.1]) rfl (M' := [R.own ty_23 F69 v68 u136.2]) rfl hB127 hB127.size hE138 hM139
              have hS141 : Sep w0.heap.size w137 [R.own ty_23 F69 v68 u136.2, R.blk b2 51 [v0_0, v0_1, (.int .i64 x0.1.2.2.1), (.int .i64 x0.1.2.2.2), (.int .i64 x0.2.1), v0_2, v0_3], R.own ty_23 F36 v35 u34.1] := hS128.mut [2] [0, 1] rfl (M := [R.own ty_23 F69 v68 u67.1]) rfl (M' := [R.own ty_23 F69 v68 u136.2]) rfl hM139
              refine wl_assign rfl rfl ?_
              refine WL.nil ?_
              refine fun a ha => hK135 _ _ ?_ a ha
              refine W.seq fun K142 hK142 => ?_
              refine W.region ?_
              refine wl_assign rfl rfl ?_
              refine WL.nil ?_
              refine fun a ha => hK142 _ _ ?_ a ha
              refine W.seq fun K143 hK143 => ?_
              refine W.region ?_
              refine wl_move rfl rfl ?_
              refine wl_move rfl rfl ?_
              obtain ⟨u144, hu144, hF⟩ := bindE hF
              refine wl_call rfl Try.call29 (C_laws_heldIntSS w137 u136.2 v68 (hS141.own_ro (i := 0) rfl) 1 _ hu144) rfl ?_
              rintro _ w145 ⟨rfl, hb146⟩
              refine ⟨_, rfl, ?_⟩
              have hB147 := hB140.trans (hb146.mono hB140.size)
              have hS148 := hS141.below hb146
              refine wl_assign rfl rfl ?_
              refine WL.nil ?_
              refine fun a ha => hK143 _ _ ?_ a ha
              refine W.seq fun K150 hK150 => ?_
              refine W.seq fun K151 hK151 => ?_
              refine W.region ?_
              refine wl_move rfl rfl ?_
              refine wl_lss rfl rfl rfl ?_
              refine WL.nil ?_
              refine fun a ha => hK151 _ _ ?_ a ha
              refine W.cond rfl (fun h152 => ?_) (fun h152 => ?_)
              · replace hF := ifP h152 hF
                refine W.seq fun K153 hK153 => ?_
                refine W.region ?_
                refine wl_assign rfl rfl ?_
                refine WL.nil ?_
                refine fun a ha => hK153 _ _ ?_ a ha
                refine W.ret ?_
                have hr := Option.some.inj hF
                subst hr
                exact rets (vs := [(.bool false)]) hQ rfl ⟨rv_tmp rfl, trivial⟩ ⟨rfl, hB147⟩
              · replace hF := ifN h152 hF
                refine W.skip ?_
                refine fun a ha => hK150 _ _ ?_ a ha
                refine W.seq fun K154 hK154 => ?_
                refine W.seq fun K155 hK155 => ?_
                refine W.region ?_
                refine wl_move rfl rfl ?_
                refine wl_move rfl rfl ?_
                refine wl_neq rfl rfl rfl ?_
                refine WL.nil ?_
                refine fun a ha => hK155 _ _ ?_ a ha
                refine W.cond rfl (fun h156 => ?_) (fun h156 => ?_)
                · replace hF := ifP h156 hF
                  refine W.seq fun K157 hK157 => ?_
                  refine W.region ?_
                  refine wl_assign rfl rfl ?_
                  refine WL.nil ?_
                  refine fun a ha => hK157 _ _ ?_ a ha
                  refine W.ret ?_
                  have hr := Option.some.inj hF
                  subst hr
                  exact rets (vs := [(.bool false)]) hQ rfl ⟨rv_tmp rfl, trivial⟩ ⟨rfl, hB147⟩
                · replace hF := ifN h156 hF
                  refine W.skip ?_
                  refine fun a ha => hK154 _ _ ?_ a ha
                  refine W.seq fun K158 hK158 => ?_
                  refine W.region ?_
                  refine wl_load_blk (i := 1) (vs := [v0_0, v0_1, (.int .i64 x0.1.2.2.1), (.int .i64 x0.1.2.2.2), (.int .i64 x0.2.1), v0_2, v0_3]) (v := (.agg #[v0_0, v0_1, (.int .i64 x0.1.2.2.1), (.int .i64 x0.1.2.2.2), (.int .i64 x0.2.1), v0_2, v0_3])) tf_51 rfl rfl hS148 rfl rfl rfl ?_
                  obtain ⟨u159, hu159, hF⟩ := bindE hF
                  refine wl_call rfl Try.call37 (C_laws_toMarch w145 x0 v0_0 (h0_0.ro hB147) v0_1 (h0_1.ro hB147) v0_2 (h0_2.ro hB147) v0_3 (h0_3.ro hB147) _ hu159) rfl ?_
                  rintro _ w168 ⟨v160, F161, v162, F163, v164, F165, v166, F167, rfl, hb169, hM172⟩
                  refine ⟨_, rfl, ?_⟩
                  have hB170 := hB147.trans (hb169.mono hB147.size)
                  have hS171 := hS148.join hb169 hM172 hB147.size
                  obtain ⟨u173, hu173, hF⟩ := bindE hF
                  refine wl_call rfl Try.call55 (C_impl_TooCloseNow w168 u159 v160 (hS171.own_ro (i := 0) rfl) v162 (hS171.own_ro (i := 1) rfl) v164 (hS171.own_ro (i := 2) rfl) v166 (hS171.own_ro (i := 3) rfl) _ hu173) rfl ?_
                  rintro _ w176 ⟨v174, F175, rfl, hb177, hM180⟩
                  refine ⟨_, rfl, ?_⟩
                  have hB178 := hB170.trans (hb177.mono hB170.size)
                  have hS179 := hS171.join hb177 hM180 hB170.size
                  refine wl_move rfl rfl ?_
                  refine wl_extract rfl rfl rfl ?_
                  refine wl_extract rfl rfl rfl ?_
                  refine wl_assign rfl rfl ?_
                  refine wl_assign rfl rfl ?_
                  refine WL.nil ?_
                  refine fun a ha => hK158 _ _ ?_ a ha
                  refine W.seq fun K181 hK181 => ?_
                  refine W.seq fun K182 hK182 => ?_
                  obtain ⟨k187, hk187, hF⟩ := jE1 hF
                  have hJ188 : ∀ (y186 : Bool) (w183 : World) (_ : k187 y186 = some r) (_ : Below w0.heap.size w0 w183) (_ : Sep w0.heap.size w183 [R.own ty_23 F69 v68 u136.2]), ∀ a, St 96 [(7, v68), (10, (.int .i64 u136.1)), (87, (.bool y186))] a → K182 a w183 := by
                    intro y186 w183 hF hB184 hS185
                    subst hk187
                    refine fun a ha => hK182 _ _ ?_ a ha
                    refine W.cond rfl (fun h189 => ?_) (fun h189 => ?_)
                    · replace hF := ifP h189 hF
                      refine W.seq fun K190 hK190 => ?_
                      refine W.region ?_
                      refine wl_assign rfl rfl ?_
                      refine WL.nil ?_
                      refine fun a ha => hK190 _ _ ?_ a ha
                      refine W.ret ?_
                      have hr := Option.some.inj hF
                      subst hr
                      exact rets (vs := [(.bool false)]) hQ rfl ⟨rv_tmp rfl, trivial⟩ ⟨rfl, hB184⟩
                    · replace hF := ifN h189 hF
                      refine W.skip ?_
                      refine fun a ha => hK181 _ _ ?_ a ha
                      refine W.seq fun K191 hK191 => ?_
                      refine W.region ?_
                      refine wl_assign rfl rfl ?_
                      refine WL.nil ?_
                      refine fun a ha => hK191 _ _ ?_ a ha
                      refine W.seq fun K192 hK192 => ?_
                      refine W.region ?_
                      refine wl_move rfl rfl ?_
                      refine wl_move rfl rfl ?_
                      obtain ⟨u193, hu193, hF⟩ := bindE hF
                      refine wl_call rfl Try.call29 (C_laws_heldIntSS w183 u136.2 v68 (hS185.own_ro (i := 0) rfl) 1 _ hu193) rfl ?_
                      rintro _ w194 ⟨rfl, hb195⟩
                      refine ⟨_, rfl, ?_⟩
                      have hB196 := hB184.trans (hb195.mono hB184.size)
                      have hS197 := hS185.below hb195
                      refine wl_assign rfl rfl ?_
                      refine WL.nil ?_
                      refine fun a ha => hK192 _ _ ?_ a ha
                      refine W.seq fun K199 hK199 => ?_
                      refine W.seq fun K200 hK200 => ?_
                      refine W.region ?_
                      refine wl_move rfl rfl ?_
                      refine wl_lss rfl rfl rfl ?_
                      refine WL.nil ?_
                      refine fun a ha => hK200 _ _ ?_ a ha
                      refine W.cond rfl (fun h201 => ?_) (fun h201 => ?_)
                      · replace hF := ifP h201 hF
                        refine W.seq fun K202 hK202 => ?_
                        refine W.region ?_
                        refine wl_assign rfl rfl ?_
                        refine WL.nil ?_
                        refine fun a ha => hK202 _ _ ?_ a ha
                        refine W.ret ?_
                        have hr := Option.some.inj hF
                        subst hr
                        exact rets (vs := [(.bool false)]) hQ rfl ⟨rv_tmp rfl, trivial⟩ ⟨rfl, hB196⟩
                      · replace hF := ifN h201 hF
                        refine W.skip ?_
                        refine fun a ha => hK199 _ _ ?_ a ha
                        refine W.seq fun K203 hK203 => ?_
                        refine W.seq fun K204 hK204 => ?_
                        refine W.region ?_
                        refine wl_move rfl rfl ?_
                        refine wl_move rfl rfl ?_
                        refine wl_neq rfl rfl rfl ?_
                        refine WL.nil ?_
                        refine fun a ha => hK204 _ _ ?_ a ha
                        refine W.cond rfl (fun h205 => ?_) (fun h205 => ?_)
                        · replace hF := ifP h205 hF
                          refine W.seq fun K206 hK206 => ?_
                          refine W.region ?_
                          refine wl_assign rfl rfl ?_
                          refine WL.nil ?_
                          refine fun a ha => hK206 _ _ ?_ a ha
                          refine W.ret ?_
                          have hr := Option.some.inj hF
                          subst hr
                          exact rets (vs := [(.bool false)]) hQ rfl ⟨rv_tmp rfl, trivial⟩ ⟨rfl, hB196⟩
                        · replace hF := ifN h205 hF
                          refine W.skip ?_
                          refine fun a ha => hK203 _ _ ?_ a ha
                          refine W.seq fun K207 hK207 => ?_
                          refine W.region ?_
                          refine wl_assign rfl rfl ?_
                          refine WL.nil ?_
                          refine fun a ha => hK207 _ _ ?_ a ha
                          refine W.ret ?_
                          have hr := Option.some.inj hF
                          subst hr
                          exact rets (vs := [(.bool true)]) hQ rfl ⟨rv_tmp rfl, trivial⟩ ⟨rfl, hB196⟩
                  refine W.region ?_
                  refine wl_move rfl rfl ?_
                  refine wl_move rfl rfl ?_
                  obtain ⟨u208, hu208, hF⟩ := bindE hF
                  refine wl_call rfl Try.call26 (C_laws_eqIntSS w176 u173.1 v174 (hS179.own_ro (i := 0) rfl) u34.1 v35 (hS179.own_ro (i := 7) rfl) _ hu208) rfl ?_
                  rintro _ w209 ⟨rfl, hb210⟩
                  refine ⟨_, rfl, ?_⟩
                  have hB211 := hB178.trans (hb210.mono hB178.size)
                  have hS212 := hS179.below hb210
                  refine wl_not rfl rfl ?_
                  refine wl_move rfl rfl ?_
                  rcases bE (!u208) with h214 | h214
                  · replace hF := ifP h214 hF
                    refine wl_off rfl rfl rfl h214 ?_
                    refine wl_off rfl rfl rfl h214 ?_
                    refine wl_off rfl rfl rfl h214 ?_
                    refine wl_pick_t rfl rfl h214 rfl ?_
                    refine WL.nil ?_
                    exact fun a ha => hJ188 (true) _ hF hB211 (hS212.sel [5] rfl) a (ha.sub ⟨rfl, rfl, rfl, trivial⟩)
                  · replace hF := ifN h214 hF
                    refine wl_on rfl rfl h214 ?_
                    refine wl_move rfl rfl ?_
                    refine wl_on rfl rfl h214 ?_
                    refine wl_move rfl rfl ?_
                    refine wl_on rfl rfl h214 ?_
                    refine wl_neqb Try.underlying4 rfl rfl rfl ?_
                    refine wl_pick_f rfl rfl h214 rfl ?_
                    refine WL.nil ?_
                    exact fun a ha => hJ188 ((u173.2 != u34.2)) _ hF hB211 (hS212.sel [5] rfl) a (ha.sub ⟨rfl, rfl, rfl, trivial⟩)
          refine W.region ?_
          refine wl_move rfl rfl ?_
          refine wl_lss rfl rfl rfl ?_
          refine wl_move rfl rfl ?_
          rcases bE (decide (u118.1 < 0)) with h215 | h215
          · replace hF := ifP h215 hF
            refine wl_off rfl rfl rfl h215 ?_
            refine wl_off rfl rfl rfl h215 ?_
            refine wl_off rfl rfl rfl h215 ?_
            refine wl_off rfl rfl rfl h215 ?_
            refine wl_pick_t rfl rfl h215 rfl ?_
            refine wl_move rfl rfl ?_
            refine wl_off rfl rfl rfl rfl ?_
            refine wl_off rfl rfl rfl rfl ?_
            refine wl_off rfl rfl rfl rfl ?_
            refine wl_pick_t rfl rfl rfl rfl ?_
            refine WL.nil ?_
            exact fun a ha => hJ131 (true) _ hF hB122 (hS123.sel [8, 9, 11] rfl) a (ha.sub ⟨rfl, rfl, rfl, rfl, rfl, trivial⟩)
          · replace hF := ifN h215 hF
            refine wl_on rfl rfl h215 ?_
            refine wl_move rfl rfl ?_
            refine wl_on rfl rfl h215 ?_
            refine wl_move rfl rfl ?_
            refine wl_on rfl rfl h215 ?_
            obtain ⟨u216, hu216, hF⟩ := bindE hF
            refine wl_call rfl Try.call26 (C_laws_eqIntSS w119 u67.1 v68 (hS123.own_ro (i := 11) rfl) u34.1 v35 (hS123.own_ro (i := 9) rfl) _ hu216) rfl ?_
            rintro _ w217 ⟨rfl, hb218⟩
            refine ⟨_, rfl, ?_⟩
            have hB219 := hB122.trans (hb218.mono hB122.size)
            have hS220 := hS123.below hb218
            refine wl_on rfl rfl h215 ?_
            refine wl_not rfl rfl ?_
            refine wl_pick_f rfl rfl h215 rfl ?_
            refine wl_move rfl rfl ?_
            rcases bE (!u216) with h222 | h222
            · replace hF := ifP h222 hF
              refine wl_off rfl rfl rfl h222 ?_
              refine wl_off rfl rfl rfl h222 ?_
              refine wl_off rfl rfl rfl h222 ?_
              refine wl_pick_t rfl rfl h222 rfl ?_
              refine WL.nil ?_
              exact fun a ha => hJ131 (true) _ hF hB219 (hS220.sel [8, 9, 11] rfl) a (ha.sub ⟨rfl, rfl, rfl, rfl, rfl, trivial⟩)
            · replace hF := ifN h222 hF
              refine wl_on rfl rfl h222 ?_
              refine wl_move rfl rfl ?_
              refine wl_on rfl rfl h222 ?_
              refine wl_move rfl rfl ?_
              refine wl_on rfl rfl h222 ?_
              refine wl_neqb Try.underlying4 rfl rfl rfl ?_
              refine wl_pick_f rfl rfl h222 rfl ?_
              refine WL.nil ?_
              exact fun a ha => hJ131 ((u67.2 != u34.2)) _ hF hB219 (hS220.sel [8, 9, 11] rfl) a (ha.sub ⟨rfl, rfl, rfl, rfl, rfl, trivial⟩)
    refine W.region ?_
    refine wl_move rfl rfl ?_
    refine wl_move rfl rfl ?_
    obtain ⟨u223, hu223, hF⟩ := bindE hF
    refine wl_call rfl Try.call26 (C_laws_eqIntSS w70 u67.1 v68 (hS73.own_ro (i := 0) rfl) u34.1 v35 (hS73.own_ro (i := 6) rfl) _ hu223) rfl ?_
    rintro _ w224 ⟨rfl, hb225⟩
    refine ⟨_, rfl, ?_⟩
    have hB226 := hB72.trans (hb225.mono hB72.size)
    have hS227 := hS73.below hb225
    refine wl_not rfl rfl ?_
    refine wl_move rfl rfl ?_
    rcases bE (!u223) with h229 | h229
    · replace hF := ifP h229 hF
      refine wl_off rfl rfl rfl h229 ?_
      refine wl_off rfl rfl rfl h229 ?_
      refine wl_off rfl rfl rfl h229 ?_
      refine wl_pick_t rfl rfl h229 rfl ?_
      refine WL.nil ?_
      exact fun a ha => hJ82 (true) _ hF hB226 (hS227.sel [11, 6, 2, 3, 4, 5, 1, 0] rfl) a (ha.sub ⟨rfl, rfl, rfl, rfl, rfl, rfl, rfl, trivial⟩)
    · replace hF := ifN h229 hF
      refine wl_on rfl rfl h229 ?_
      refine wl_move rfl rfl ?_
      refine wl_on rfl rfl h229 ?_
      refine wl_move rfl rfl ?_
      refine wl_on rfl rfl h229 ?_
      refine wl_neqb Try.underlying4 rfl rfl rfl ?_
      refine wl_pick_f rfl rfl h229 rfl ?_
      refine WL.nil ?_
      exact fun a ha => hJ82 ((u67.2 != u34.2)) _ hF hB226 (hS227.sel [11, 6, 2, 3, 4, 5, 1, 0] rfl) a (ha.sub ⟨rfl, rfl, rfl, rfl, rfl, rfl, rfl, trivial⟩)
end Go.Proofs.Ythlfhcefeaehmaa
