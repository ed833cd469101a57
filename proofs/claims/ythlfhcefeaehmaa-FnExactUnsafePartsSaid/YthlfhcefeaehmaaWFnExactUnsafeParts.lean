/-
  THE WALKS of functions of this seat, by program (gen.py).
-/
import Derived.Test.YthlfhcefeaehmaaH
import Derived.Test.YthlfhcefeaehmaaWFnExactCanPublish
import Derived.Test.YthlfhcefeaehmaaWFnExactClosePairs
import Derived.Test.YthlfhcefeaehmaaWFnExactLeastToKeep
set_option linter.unusedSimpArgs false
set_option linter.unusedVariables false
set_option maxRecDepth 100000
namespace Go.Proofs.Ythlfhcefeaehmaa
open Go Go.RowKit
theorem C_spec_UnsafeParts (w0 : World) (x0 : ((List (List (Int × Int))) × (List Int) × Int × Int)) (v0_0 : Value) (h0_0 : rdS ty_70 (· < w0.heap.size) w0 v0_0 x0.1) (v0_1 : Value) (h0_1 : rdS ty_3 (· < w0.heap.size) w0 v0_1 x0.2.1) (r : ((List Int) × Bool)) (hF : F_spec_UnsafeParts x0 = some r) :
    Calls Try.prog 30 [(.agg #[v0_0, v0_1, (.int .i64 x0.2.2.1), (.int .i64 x0.2.2.2)])].toArray w0 fun e w' => ∃ (q0 : Value) (G0 : List Nat), e = .returned (.tuple #[q0, (.bool r.2)]) ∧ Below w0.heap.size w0 w' ∧ Sep w0.heap.size w' [R.own ty_3 G0 q0 r.1] := by
  refine calls_mk' Try.func30 rfl Try.ntmps30 rfl rfl fun Q hQ hP => ?_
  have hB : Below w0.heap.size w0 w0 := Below.refl _ _
  have hS : Sep w0.heap.size w0 [] := Sep.nil _ _
  unfold F_spec_UnsafeParts at hF
  refine W.seq fun K1 hK1 => ?_
  refine W.region ?_
  refine wl_box (cs := [v0_0, v0_1, (.int .i64 x0.2.2.1), (.int .i64 x0.2.2.2)]) rfl rfl rfl hB hS ?_
  intro b2 w3 hb4 hB5 hS6
  refine wl_assign rfl rfl ?_
  refine wl_assign rfl rfl ?_
  refine WL.nil ?_
  refine fun a ha => hK1 _ _ ?_ a ha
  refine W.seq fun K7 hK7 => ?_
  refine W.seq fun K8 hK8 => ?_
  refine W.region ?_
  refine wl_load_blk (i := 0) (vs := [v0_0, v0_1, (.int .i64 x0.2.2.1), (.int .i64 x0.2.2.2)]) (v := (.agg #[v0_0, v0_1, (.int .i64 x0.2.2.1), (.int .i64 x0.2.2.2)])) tf_31 rfl rfl hS6 rfl rfl rfl ?_
  obtain ⟨u9, hu9, hF⟩ := bindE hF
  refine wl_call rfl Try.call63 (C_spec_swGood w3 x0 v0_0 (h0_0.ro hB5) v0_1 (h0_1.ro hB5) _ hu9) rfl ?_
  rintro _ w10 ⟨rfl, hb11⟩
  refine ⟨_, rfl, ?_⟩
  have hB12 := hB5.trans (hb11.mono hB5.size)
  have hS13 := hS6.below hb11
  refine wl_not rfl rfl ?_
  refine WL.nil ?_
  refine fun a ha => hK8 _ _ ?_ a ha
  refine W.cond rfl (fun h15 => ?_) (fun h15 => ?_)
  · replace hF := ifP h15 hF
    refine W.seq fun K16 hK16 => ?_
    refine W.region ?_
    refine wl_assign rfl rfl ?_
    refine wl_assign rfl rfl ?_
    refine WL.nil ?_
    refine fun a ha => hK16 _ _ ?_ a ha
    refine W.ret ?_
    have hS17 := hS13.push0 (r := R.own ty_3 [] (.slice none 0 0) []) rfl fun _ => .inl ⟨rfl, rfl, rfl⟩
    have hr := Option.some.inj hF
    subst hr
    exact rets (vs := [(.slice none 0 0), (.bool false)]) hQ rfl ⟨rv_tmp rfl, rv_tmp rfl, trivial⟩ ⟨(.slice none 0 0), [], rfl, hB12, hS17.sel [0] rfl⟩
  · replace hF := ifN h15 hF
    refine W.skip ?_
    refine fun a ha => hK7 _ _ ?_ a ha
    refine W.seq fun K18 hK18 => ?_
    refine W.region ?_
    refine wl_load_blk (i := 0) (vs := [v0_0, v0_1, (.int .i64 x0.2.2.1), (.int .i64 x0.2.2.2)]) (v := (.agg #[v0_0, v0_1, (.int .i64 x0.2.2.1), (.int .i64 x0.2.2.2)])) tf_31 rfl rfl hS13 rfl rfl rfl ?_
    obtain ⟨u19, hu19, hF⟩ := bindE hF
    refine wl_call rfl Try.call64 (C_spec_swUnsafe w10 x0 v0_0 (h0_0.ro hB12) v0_1 (h0_1.ro hB12) _ hu19) rfl ?_
    rintro _ w22 ⟨v20, F21, rfl, hb23, hM26⟩
    refine ⟨_, rfl, ?_⟩
    have hB24 := hB12.trans (hb23.mono hB12.size)
    have hS25 := hS13.join hb23 hM26 hB12.size
    refine wl_assign rfl rfl ?_
    refine wl_assign rfl rfl ?_
    refine WL.nil ?_
    refine fun a ha => hK18 _ _ ?_ a ha
    refine W.ret ?_
    have hr := Option.some.inj hF
    subst hr
    exact rets (vs := [v20, (.bool true)]) hQ rfl ⟨rv_tmp rfl, rv_tmp rfl, trivial⟩ ⟨v20, F21, rfl, hB24, hS25.sel [0] rfl⟩
theorem C_impl_UnsafeParts (w0 : World) (x0 : ((List (List (Int × Int))) × (List Int) × Int × Int)) (v0_0 : Value) (h0_0 : rdS ty_70 (· < w0.heap.size) w0 v0_0 x0.1) (v0_1 : Value) (h0_1 : rdS ty_3 (· < w0.heap.size) w0 v0_1 x0.2.1) (r : ((List Int) × Bool)) (hF : F_impl_UnsafeParts x0 = some r) :
    Calls Try.prog 31 [(.agg #[v0_0, v0_1, (.int .i64 x0.2.2.1), (.int .i64 x0.2.2.2)])].toArray w0 fun e w' => ∃ (q0 : Value) (G0 : List Nat), e = .returned (.tuple #[q0, (.bool r.2)]) ∧ Below w0.heap.size w0 w' ∧ Sep w0.heap.size w' [R.own ty_3 G0 q0 r.1] := by
  refine calls_mk' Try.func31 rfl Try.ntmps31 rfl rfl fun Q hQ hP => ?_
  have hB : Below w0.heap.size w0 w0 := Below.refl _ _
  have hS : Sep w0.heap.size w0 [] := Sep.nil _ _
  unfold F_impl_UnsafeParts at hF
  refine W.seq fun K1 hK1 => ?_
  refine W.region ?_
  refine wl_box (cs := [v0_0, v0_1, (.int .i64 x0.2.2.1), (.int .i64 x0.2.2.2)]) rfl rfl rfl hB hS ?_
  intro b2 w3 hb4 hB5 hS6
  refine wl_assign rfl rfl ?_
  refine wl_assign rfl rfl ?_
  refine WL.nil ?_
  refine fun a ha => hK1 _ _ ?_ a ha
  refine W.seq fun K7 hK7 => ?_
  refine W.seq fun K8 hK8 => ?_
  refine W.region ?_
  refine wl_load_blk (i := 0) (vs := [v0_0, v0_1, (.int .i64 x0.2.2.1), (.int .i64 x0.2.2.2)]) (v := (.agg #[v0_0, v0_1, (.int .i64 x0.2.2.1), (.int .i64 x0.2.2.2)])) tf_31 rfl rfl hS6 rfl rfl rfl ?_
  obtain ⟨u9, hu9, hF⟩ := bindE hF
  refine wl_call rfl Try.call67 (C_impl_IsShow w3 x0 v0_0 (h0_0.ro hB5) v0_1 (h0_1.ro hB5) _ hu9) rfl ?_
  rintro _ w10 ⟨rfl, hb11⟩
  refine ⟨_, rfl, ?_⟩
  have hB12 := hB5.trans (hb11.mono hB5.size)
  have hS13 := hS6.below hb11
  refine wl_not rfl rfl ?_
  refine WL.nil ?_
  refine fun a ha => hK8 _ _ ?_ a ha
  refine W.cond rfl (fun h15 => ?_) (fun h15 => ?_)
  · replace hF := ifP h15 hF
    refine W.seq fun K16 hK16 => ?_
    refine W.region ?_
    refine wl_assign rfl rfl ?_
    refine wl_assign rfl rfl ?_
    refine WL.nil ?_
    refine fun a ha => hK16 _ _ ?_ a ha
    refine W.ret ?_
    have hS17 := hS13.push0 (r := R.own ty_3 [] (.slice none 0 0) []) rfl fun _ => .inl ⟨rfl, rfl, rfl⟩
    have hr := Option.some.inj hF
    subst hr
    exact rets (vs := [(.slice none 0 0), (.bool false)]) hQ rfl ⟨rv_tmp rfl, rv_tmp rfl, trivial⟩ ⟨(.slice none 0 0), [], rfl, hB12, hS17.sel [0] rfl⟩
  · replace hF := ifN h15 hF
    refine W.skip ?_
    refine fun a ha => hK7 _ _ ?_ a ha
    refine W.seq fun K18 hK18 => ?_
    refine W.region ?_
    refine wl_load_blk (i := 0) (vs := [v0_0, v0_1, (.int .i64 x0.2.2.1), (.int .i64 x0.2.2.2)]) (v := (.agg #[v0_0, v0_1, (.int .i64 x0.2.2.1), (.int .i64 x0.2.2.2)])) tf_31 rfl rfl hS13 rfl rfl rfl ?_
    obtain ⟨u19, hu19, hF⟩ := bindE hF
    refine wl_call rfl Try.call68 (C_impl_unsafParts w10 x0 v0_0 (h0_0.ro hB12) v0_1 (h0_1.ro hB12) _ hu19) rfl ?_
    rintro _ w22 ⟨v20, F21, rfl, hb23, hM26⟩
    refine ⟨_, rfl, ?_⟩
    have hB24 := hB12.trans (hb23.mono hB12.size)
    have hS25 := hS13.join hb23 hM26 hB12.size
    refine wl_assign rfl rfl ?_
    refine wl_assign rfl rfl ?_
    refine WL.nil ?_
    refine fun a ha => hK18 _ _ ?_ a ha
    refine W.ret ?_
    have hr := Option.some.inj hF
    subst hr
    exact rets (vs := [v20, (.bool true)]) hQ rfl ⟨rv_tmp rfl, rv_tmp rfl, trivial⟩ ⟨v20, F21, rfl, hB24, hS25.sel [0] rfl⟩
theorem C_laws_FnExactUnsafeParts (w0 : World) (x0 : ((List (List (Int × Int))) × (List Int) × Int × Int)) (v0_0 : Value) (h0_0 : rdS ty_119 (· < w0.heap.size) w0 v0_0 x0.1) (v0_1 : Value) (h0_1 : rdS ty_3 (· < w0.heap.size) w0 v0_1 x0.2.1) (r : Bool) (hF : F_laws_FnExactUnsafeParts x0 = some r) :
    Calls Try.prog 7 [(.agg #[v0_0, v0_1, (.int .i64 x0.2.2.1), (.int .i64 x0.2.2.2)])].toArray w0 fun e w' => e = .returned (.bool r) ∧ Below w0.heap.size w0 w' := by
  refine calls_mk' Try.func7 rfl Try.ntmps7 rfl rfl fun Q hQ hP => ?_
  have hB : Below w0.heap.size w0 w0 := Below.refl _ _
  have hS : Sep w0.heap.size w0 [] := Sep.nil _ _
  unfold F_laws_FnExactUnsafeParts at hF
  refine W.seq fun K1 hK1 => ?_
  refine W.region ?_
  refine wl_box (cs := [v0_0, v0_1, (.int .i64 x0.2.2.1), (.int .i64 x0.2.2.2)]) rfl rfl rfl hB hS ?_
  intro b2 w3 hb4 hB5 hS6
  refine wl_assign rfl rfl ?_
  refine WL.nil ?_
  refine fun a ha => hK1 _ _ ?_ a ha
  refine W.seq fun K7 hK7 => ?_
  refine W.region ?_
  refine wl_assign rfl rfl ?_
  refine WL.nil ?_
  refine fun a ha => hK7 _ _ ?_ a ha
  refine W.seq fun K8 hK8 => ?_
  refine W.region ?_
  refine wl_load_blk (i := 0) (vs := [v0_0, v0_1, (.int .i64 x0.2.2.1), (.int .i64 x0.2.2.2)]) (v := (.agg #[v0_0, v0_1, (.int .i64 x0.2.2.1), (.int .i64 x0.2.2.2)])) tf_25 rfl rfl hS6 rfl rfl rfl ?_
  refine wl_move rfl rfl ?_
  obtain ⟨u9, hu9, hF⟩ := bindE hF
  refine wl_call rfl Try.call15 (C_laws_szShow w3 x0 v0_0 (h0_0.ro hB5) v0_1 (h0_1.ro hB5) 1048576 _ hu9) rfl ?_
  rintro _ w10 ⟨rfl, hb11⟩
  refine ⟨_, rfl, ?_⟩
  have hB12 := hB5.trans (hb11.mono hB5.size)
  have hS13 := hS6.below hb11
  refine wl_assign rfl rfl ?_
  refine WL.nil ?_
  refine fun a ha => hK8 _ _ ?_ a ha
  refine W.seq fun K15 hK15 => ?_
  refine W.seq fun K16 hK16 => ?_
  refine W.region ?_
  refine wl_move rfl rfl ?_
  refine wl_lss rfl rfl rfl ?_
  refine WL.nil ?_
  refine fun a ha => hK16 _ _ ?_ a ha
  refine W.cond rfl (fun h17 => ?_) (fun h17 => ?_)
  · replace hF := ifP h17 hF
    refine W.seq fun K18 hK18 => ?_
    refine W.region ?_
    refine wl_assign rfl rfl ?_
    refine WL.nil ?_
    refine fun a ha => hK18 _ _ ?_ a ha
    refine W.ret ?_
    have hr := Option.some.inj hF
    subst hr
    exact rets (vs := [(.bool true)]) hQ rfl ⟨rv_tmp rfl, trivial⟩ ⟨rfl, hB12⟩
  · replace hF := ifN h17 hF
    refine W.skip ?_
    refine fun a ha => hK15 _ _ ?_ a ha
    refine W.seq fun K19 hK19 => ?_
    refine W.region ?_
    refine wl_load_blk (i := 0) (vs := [v0_0, v0_1, (.int .i64 x0.2.2.1), (.int .i64 x0.2.2.2)]) (v := (.agg #[v0_0, v0_1, (.int .i64 x0.2.2.1), (.int .i64 x0.2.2.2)])) tf_25 rfl rfl hS13 rfl rfl rfl ?_
    obtain ⟨u20, hu20, hF⟩ := bindE hF
    refine wl_call rfl Try.call17 (C_laws_toShow w10 x0 v0_0 (h0_0.ro hB12) v0_1 (h0_1.ro hB12) _ hu20) rfl ?_
    rintro _ w25 ⟨v21, F22, v23, F24, rfl, hb26, hM29⟩
    refine ⟨_, rfl, ?_⟩
    have hB27 := hB12.trans (hb26.mono hB12.size)
    have hS28 := hS13.join hb26 hM29 hB12.size
    obtain ⟨u30, hu30, hF⟩ := bindE hF
    refine wl_call rfl Try.call30 (C_spec_UnsafeParts w25 u20 v21 (hS28.own_ro (i := 0) rfl) v23 (hS28.own_ro (i := 1) rfl) _ hu30) rfl ?_
    rintro _ w33 ⟨v31, F32, rfl, hb34, hM37⟩
    refine ⟨_, rfl, ?_⟩
    have hB35 := hB27.trans (hb34.mono hB27.size)
    have hS36 := hS28.join hb34 hM37 hB27.size
    refine wl_move rfl rfl ?_
    refine wl_extract rfl rfl rfl ?_
    refine wl_extract rfl rfl rfl ?_
    refine wl_assign rfl rfl ?_
    refine wl_assign rfl rfl ?_
    refine WL.nil ?_
    refine fun a ha => hK19 _ _ ?_ a ha
    refine W.seq fun K38 hK38 => ?_
    refine W.region ?_
    refine wl_load_blk (i := 3) (vs := [v0_0, v0_1, (.int .i64 x0.2.2.1), (.int .i64 x0.2.2.2)]) (v := (.agg #[v0_0, v0_1, (.int .i64 x0.2.2.1), (.int .i64 x0.2.2.2)])) tf_25 rfl rfl hS36 rfl rfl rfl ?_
    obtain ⟨u39, hu39, hF⟩ := bindE hF
    refine wl_call rfl Try.call17 (C_laws_toShow w33 x0 v0_0 (h0_0.ro hB35) v0_1 (h0_1.ro hB35) _ hu39) rfl ?_
    rintro _ w44 ⟨v40, F41, v42, F43, rfl, hb45, hM48⟩
    refine ⟨_, rfl, ?_⟩
    have hB46 := hB35.trans (hb45.mono hB35.size)
    have hS47 := hS36.join hb45 hM48 hB35.size
    refine wl_alloc (cs := [(.slice none 0 0), (.slice none 0 0), (.int .i64 0), (.int .i64 0)]) tf_31 rfl rfl hB46 hS47 ?_
    intro b49 w50 hb51 hB52 hS53
    refine wl_store_blk (i := 0) (vs := [v40, v42, (.int .i64 u39.2.2.1), (.int .i64 u39.2.2.2)]) (cs' := [v40, v42, (.int .i64 u39.2.2.1), (.int .i64 u39.2.2.2)]) tf_31 rfl rfl rfl rfl hB52 hS53 rfl rfl ⟨(hS53.own_ro (i := 1) rfl).one, (hS53.own_ro (i := 2) rfl).one, rfl, rfl, trivial⟩ rfl ?_
    intro w54 hk57 hB55 hS56
    refine WL.nil ?_
    refine fun a ha => hK38 _ _ ?_ a ha
    refine W.seq fun K58 hK58 => ?_
    refine W.region ?_
    refine wl_load_blk (i := 0) (vs := [v40, v42, (.int .i64 u39.2.2.1), (.int .i64 u39.2.2.2)]) (v := (.agg #[v40, v42, (.int .i64 u39.2.2.1), (.int .i64 u39.2.2.2)])) tf_31 rfl rfl hS56 rfl rfl rfl ?_
    obtain ⟨u59, hu59, hF⟩ := bindE hF
    refine wl_call rfl Try.call31 (C_impl_UnsafeParts w54 u39 v40 (hS56.own_ro (i := 1) rfl) v42 (hS56.own_ro (i := 2) rfl) _ hu59) rfl ?_
    rintro _ w62 ⟨v60, F61, rfl, hb63, hM66⟩
    refine ⟨_, rfl, ?_⟩
    have hB64 := hB55.trans (hb63.mono hB55.size)
    have hS65 := hS56.join hb63 hM66 hB55.size
    refine wl_move rfl rfl ?_
    refine wl_extract rfl rfl rfl ?_
    refine wl_extract rfl rfl rfl ?_
    refine wl_assign rfl rfl ?_
    refine wl_assign rfl rfl ?_
    refine WL.nil ?_
    refine fun a ha => hK58 _ _ ?_ a ha
    refine W.seq fun K67 hK67 => ?_
    refine W.seq fun K68 hK68 => ?_
    obtain ⟨k73, hk73, hF⟩ := jE1 hF
    have hJ74 : ∀ (y72 : Bool) (w69 : World) (_ : k73 y72 = some r) (_ : Below w0.heap.size w0 w69) (_ : Sep w0.heap.size w69 [R.blk b2 25 [v0_0, v0_1, (.int .i64 x0.2.2.1), (.int .i64 x0.2.2.2)], R.own ty_3 F32 v31 u30.1, R.own ty_70 F41 v40 u39.1, R.own ty_3 F43 v42 u39.2.1, R.blk b49 31 [v40, v42, (.int .i64 u39.2.2.1), (.int .i64 u39.2.2.2)], R.own ty_3 F61 v60 u59.1]), ∀ a, St 96 [(1, (.pointer (some ⟨b2, 0, none⟩))), (4, v31), (5, (.bool u30.2)), (6, (.pointer (some ⟨b49, 0, none⟩))), (7, v60), (8, (.bool u59.2)), (40, (.bool y72))] a → K68 a w69 := by
      intro y72 w69 hF hB70 hS71
      subst hk73
      refine fun a ha => hK68 _ _ ?_ a ha
      refine W.cond rfl (fun h75 => ?_) (fun h75 => ?_)
      · replace hF := ifP h75 hF
        refine W.seq fun K76 hK76 => ?_
        refine W.region ?_
        refine wl_assign rfl rfl ?_
        refine WL.nil ?_
        refine fun a ha => hK76 _ _ ?_ a ha
        refine W.ret ?_
        have hr := Option.some.inj hF
        subst hr
        exact rets (vs := [(.bool false)]) hQ rfl ⟨rv_tmp rfl, trivial⟩ ⟨rfl, hB70⟩
      · replace hF := ifN h75 hF
        refine W.skip ?_
        refine fun a ha => hK67 _ _ ?_ a ha
        refine W.seq fun K77 hK77 => ?_
        refine W.seq fun K78 hK78 => ?_
        refine W.regionH mixed_ [] hB70 hS71 ?_
        intro w79 hb80 hB81 hS82
        have hSW83 := KeepX.refl w79 []
        refine WH.takex (i := 0) rfl (by kernel_rfl) (by kernel_rfl) (by kernel_rfl) hP hSW83 ?_
        refine pr_load_blk (i := 4) (vs := [v40, v42, (.int .i64 u39.2.2.1), (.int .i64 u39.2.2.2)]) (v := (.agg #[v40, v42, (.int .i64 u39.2.2.1), (.int .i64 u39.2.2.2)])) tf_31 rfl rfl hS82 rfl rfl rfl (by simp) ?_
        refine WH.takex (i := 1) rfl (by kernel_rfl) (by kernel_rfl) (by kernel_rfl) hP hSW83 ?_
        refine pr_load_blk (i := 0) (vs := [v0_0, v0_1, (.int .i64 x0.2.2.1), (.int .i64 x0.2.2.2)]) (v := (.agg #[v0_0, v0_1, (.int .i64 x0.2.2.1), (.int .i64 x0.2.2.2)])) tf_25 rfl rfl hS82 rfl rfl rfl (by simp) ?_
        refine WH.one (i := 2) (by kernel_rfl) rfl ?_
        obtain ⟨u84, hu84, hF⟩ := bindE hF
        refine wl_call rfl Try.call17 (C_laws_toShow w79 x0 v0_0 (h0_0.ro hB81) v0_1 (h0_1.ro hB81) _ hu84) rfl ?_
        rintro _ w89 ⟨v85, F86, v87, F88, rfl, hb90, hM93⟩
        refine ⟨_, rfl, ?_⟩
        have hB91 := hB81.trans (hb90.mono hB81.size)
        have hS92 := hS82.join hb90 hM93 hB81.size
        have hSW94 := hSW83.ext hb90
        refine WL.nil (WH.ret hSW94 ?_)
        refine WH.one (i := 3) (by kernel_rfl) rfl ?_
        obtain ⟨u95, hu95, hF⟩ := bindE hF
        refine wl_call rfl Try.call19 (C_laws_eqShow w89 u39 v40 (hS92.own_ro (i := 4) rfl) v42 (hS92.own_ro (i := 5) rfl) u84 v85 (hS92.own_ro (i := 0) rfl) v87 (hS92.own_ro (i := 1) rfl) _ hu95) rfl ?_
        rintro _ w96 ⟨rfl, hb97⟩
        refine ⟨_, rfl, ?_⟩
        have hB98 := hB91.trans (hb97.mono hB91.size)
        have hS99 := hS92.below hb97
        have hSW101 := hSW94.ext hb97
        refine WL.nil (WH.ret hSW101 ?_)
        refine WH.takex (i := 4) rfl (by kernel_rfl) (by kernel_rfl) (by kernel_rfl) hP hSW101 ?_
        refine pr_not rfl rfl ?_
        refine WH.done (by kernel_rfl) ?_
        refine fun a ha => hK78 _ _ ?_ a ha
        refine W.cond rfl (fun h102 => ?_) (fun h102 => ?_)
        · replace hF := ifP h102 hF
          refine W.seq fun K103 hK103 => ?_
          refine W.region ?_
          refine wl_assign rfl rfl ?_
          refine WL.nil ?_
          refine fun a ha => hK103 _ _ ?_ a ha
          refine W.ret ?_
          have hr := Option.some.inj hF
          subst hr
          exact rets (vs := [(.bool false)]) hQ rfl ⟨rv_tmp rfl, trivial⟩ ⟨rfl, hB98⟩
        · replace hF := ifN h102 hF
          refine W.skip ?_
          refine fun a ha => hK77 _ _ ?_ a ha
          refine W.seq fun K104 hK104 => ?_
          refine W.region ?_
          refine wl_assign rfl rfl ?_
          refine WL.nil ?_
          refine fun a ha => hK104 _ _ ?_ a ha
          refine W.seq fun K105 hK105 => ?_
          refine W.region ?_
          refine wl_load_blk (i := 6) (vs := [v40, v42, (.int .i64 u39.2.2.1), (.int .i64 u39.2.2.2)]) (v := (.agg #[v40, v42, (.int .i64 u39.2.2.1), (.int .i64 u39.2.2.2)])) tf_31 rfl rfl hS99 rfl rfl rfl ?_
          refine wl_move rfl rfl ?_
          obtain ⟨u106, hu106, hF⟩ := bindE hF
          refine wl_call rfl Try.call27 (C_laws_markShow w96 u39 v40 F41 v42 F43 1 (hS99.sel [4, 5] rfl).base0 _ hu106) rfl ?_
          rintro _ w107 ⟨rfl, hE108, hM109⟩
          refine ⟨_, rfl, ?_⟩
          have hB110 := hS99.mutB [4, 5] rfl (M := [R.own ty_70 F41 v40 u39.1, R.own ty_3 F43 v42 u39.2.1]) rfl (M' := [R.own ty_70 F41 v40 u106.2.1, R.own ty_3 F43 v42 u106.2.2.1]) rfl hB98 hB98.size hE108 hM109
          have hS111 : Sep w0.heap.size w107 [R.own ty_70 F41 v40 u106.2.1, R.own ty_3 F43 v42 u106.2.2.1, R.own ty_70 F86 v85 u84.1, R.own ty_3 F88 v87 u84.2.1, R.blk b2 25 [v0_0, v0_1, (.int .i64 x0.2.2.1), (.int .i64 x0.2.2.2)], R.own ty_3 F32 v31 u30.1, R.blk b49 31 [v40, v42, (.int .i64 u39.2.2.1), (.int .i64 u39.2.2.2)], R.own ty_3 F61 v60 u59.1] := hS99.mut [4, 5] [0, 1, 2, 3, 6, 7] rfl (M := [R.own ty_70 F41 v40 u39.1, R.own ty_3 F43 v42 u39.2.1]) rfl (M' := [R.own ty_70 F41 v40 u106.2.1, R.own ty_3 F43 v42 u106.2.2.1]) rfl hM109
          refine wl_assign rfl rfl ?_
          refine WL.nil ?_
          refine fun a ha => hK105 _ _ ?_ a ha
          refine W.seq fun K112 hK112 => ?_
          refine W.seq fun K113 hK113 => ?_
          obtain ⟨k118, hk118, hF⟩ := jE1 hF
          have hJ119 : ∀ (y117 : Bool) (w114 : World) (_ : k118 y117 = some r) (_ : Below w0.heap.size w0 w114) (_ : Sep w0.heap.size w114 [R.blk b2 25 [v0_0, v0_1, (.int .i64 x0.2.2.1), (.int .i64 x0.2.2.2)], R.own ty_3 F32 v31 u30.1, R.own ty_3 F61 v60 u59.1]), ∀ a, St 96 [(1, (.pointer (some ⟨b2, 0, none⟩))), (4, v31), (5, (.bool u30.2)), (7, v60), (61, (.bool y117))] a → K113 a w114 := by
            intro y117 w114 hF hB115 hS116
            subst hk118
            refine fun a ha => hK113 _ _ ?_ a ha
            refine W.cond rfl (fun h120 => ?_) (fun h120 => ?_)
            · replace hF := ifP h120 hF
              refine W.seq fun K121 hK121 => ?_
              refine W.region ?_
              refine wl_assign rfl rfl ?_
              refine WL.nil ?_
              refine fun a ha => hK121 _ _ ?_ a ha
              refine W.ret ?_
              have hr := Option.some.inj hF
              subst hr
              exact rets (vs := [(.bool false)]) hQ rfl ⟨rv_tmp rfl, trivial⟩ ⟨rfl, hB115⟩
            · replace hF := ifN h120 hF
              refine W.skip ?_
              refine fun a ha => hK112 _ _ ?_ a ha
              refine W.seq fun K122 hK122 => ?_
              refine W.region ?_
              refine wl_assign rfl rfl ?_
              refine WL.nil ?_
              refine fun a ha => hK122 _ _ ?_ a ha
              refine W.seq fun K123 hK123 => ?_
              refine W.region ?_
              refine wl_move rfl rfl ?_
              refine wl_move rfl rfl ?_
              obtain ⟨u124, hu124, hF⟩ := bindE hF
              refine wl_call rfl Try.call33 (C_laws_markIntS w114 u59.1 v60 F61 1 (hS116.sel [2] rfl).base0 _ hu124) rfl ?_
              rintro _ w125 ⟨rfl, hE126, hM127⟩
              refine ⟨_, rfl, ?_⟩
              have hB128 := hS116.mutB [2] rfl (M := [R.own ty_3 F61 v60 u59.1]) rfl (M' := [R.own ty_3 F61 v60 u124.2]) rfl hB115 hB115.size hE126 hM127
              have hS129 : Sep w0.heap.size w125 [R.own ty_3 F61 v60 u124.2, R.blk b2 25 [v0_0, v0_1, (.int .i64 x0.2.2.1), (.int .i64 x0.2.2.2)], R.own ty_3 F32 v31 u30.1] := hS116.mut [2] [0, 1] rfl (M := [R.own ty_3 F61 v60 u59.1]) rfl (M' := [R.own ty_3 F61 v60 u124.2]) rfl hM127
              refine wl_assign rfl rfl ?_
              refine WL.nil ?_
              refine fun a ha => hK123 _ _ ?_ a ha
              refine W.seq fun K130 hK130 => ?_
              refine W.region ?_
              refine wl_assign rfl rfl ?_
              refine WL.nil ?_
              refine fun a ha => hK130 _ _ ?_ a ha
              refine W.seq fun K131 hK131 => ?_
              refine W.region ?_
              refine wl_move rfl rfl ?_
              refine wl_move rfl rfl ?_
              obtain ⟨u132, hu132, hF⟩ := bindE hF
              refine wl_call rfl Try.call34 (C_laws_heldIntS w125 u124.2 v60 (hS129.own_ro (i := 0) rfl) 1 _ hu132) rfl ?_
              rintro _ w133 ⟨rfl, hb134⟩
              refine ⟨_, rfl, ?_⟩
              have hB135 := hB128.trans (hb134.mono hB128.size)
              have hS136 := hS129.below hb134
              refine wl_assign rfl rfl ?_
              refine WL.nil ?_
              refine fun a ha => hK131 _ _ ?_ a ha
              refine W.seq fun K138 hK138 => ?_
              refine W.seq fun K139 hK139 => ?_
              refine W.region ?_
              refine wl_move rfl rfl ?_
              refine wl_lss rfl rfl rfl ?_
              refine WL.nil ?_
              refine fun a ha => hK139 _ _ ?_ a ha
              refine W.cond rfl (fun h140 => ?_) (fun h140 => ?_)
              · replace hF := ifP h140 hF
                refine W.seq fun K141 hK141 => ?_
                refine W.region ?_
                refine wl_assign rfl rfl ?_
                refine WL.nil ?_
                refine fun a ha => hK141 _ _ ?_ a ha
                refine W.ret ?_
                have hr := Option.some.inj hF
                subst hr
                exact rets (vs := [(.bool false)]) hQ rfl ⟨rv_tmp rfl, trivial⟩ ⟨rfl, hB135⟩
              · replace hF := ifN h140 hF
                refine W.skip ?_
                refine fun a ha => hK138 _ _ ?_ a ha
                refine W.seq fun K142 hK142 => ?_
                refine W.seq fun K143 hK143 => ?_
                refine W.region ?_
                refine wl_move rfl rfl ?_
                refine wl_move rfl rfl ?_
                refine wl_neq rfl rfl rfl ?_
                refine WL.nil ?_
                refine fun a ha => hK143 _ _ ?_ a ha
                refine W.cond rfl (fun h144 => ?_) (fun h144 => ?_)
                · replace hF := ifP h144 hF
                  refine W.seq fun K145 hK145 => ?_
                  refine W.region ?_
                  refine wl_assign rfl rfl ?_
                  refine WL.nil ?_
                  refine fun a ha => hK145 _ _ ?_ a ha
                  refine W.ret ?_
                  have hr := Option.some.inj hF
                  subst hr
                  exact rets (vs := [(.bool false)]) hQ rfl ⟨rv_tmp rfl, trivial⟩ ⟨rfl, hB135⟩
                · replace hF := ifN h144 hF
                  refine W.skip ?_
                  refine fun a ha => hK142 _ _ ?_ a ha
                  refine W.seq fun K146 hK146 => ?_
                  refine W.region ?_
                  refine wl_load_blk (i := 1) (vs := [v0_0, v0_1, (.int .i64 x0.2.2.1), (.int .i64 x0.2.2.2)]) (v := (.agg #[v0_0, v0_1, (.int .i64 x0.2.2.1), (.int .i64 x0.2.2.2)])) tf_25 rfl rfl hS136 rfl rfl rfl ?_
                  obtain ⟨u147, hu147, hF⟩ := bindE hF
                  refine wl_call rfl Try.call17 (C_laws_toShow w133 x0 v0_0 (h0_0.ro hB135) v0_1 (h0_1.ro hB135) _ hu147) rfl ?_
                  rintro _ w152 ⟨v148, F149, v150, F151, rfl, hb153, hM156⟩
                  refine ⟨_, rfl, ?_⟩
                  have hB154 := hB135.trans (hb153.mono hB135.size)
                  have hS155 := hS136.join hb153 hM156 hB135.size
                  obtain ⟨u157, hu157, hF⟩ := bindE hF
                  refine wl_call rfl Try.call31 (C_impl_UnsafeParts w152 u147 v148 (hS155.own_ro (i := 0) rfl) v150 (hS155.own_ro (i := 1) rfl) _ hu157) rfl ?_
                  rintro _ w160 ⟨v158, F159, rfl, hb161, hM164⟩
                  refine ⟨_, rfl, ?_⟩
                  have hB162 := hB154.trans (hb161.mono hB154.size)
                  have hS163 := hS155.join hb161 hM164 hB154.size
                  refine wl_move rfl rfl ?_
                  refine wl_extract rfl rfl rfl ?_
                  refine wl_extract rfl rfl rfl ?_
                  refine wl_assign rfl rfl ?_
                  refine wl_assign rfl rfl ?_
                  refine WL.nil ?_
                  refine fun a ha => hK146 _ _ ?_ a ha
                  refine W.seq fun K165 hK165 => ?_
                  refine W.seq fun K166 hK166 => ?_
                  obtain ⟨k171, hk171, hF⟩ := jE1 hF
                  have hJ172 : ∀ (y170 : Bool) (w167 : World) (_ : k171 y170 = some r) (_ : Below w0.heap.size w0 w167) (_ : Sep w0.heap.size w167 [R.own ty_3 F61 v60 u124.2]), ∀ a, St 96 [(7, v60), (10, (.int .i64 u124.1)), (87, (.bool y170))] a → K166 a w167 := by
                    intro y170 w167 hF hB168 hS169
                    subst hk171
                    refine fun a ha => hK166 _ _ ?_ a ha
                    refine W.cond rfl (fun h173 => ?_) (fun h173 => ?_)
                    · replace hF := ifP h173 hF
                      refine W.seq fun K174 hK174 => ?_
                      refine W.region ?_
                      refine wl_assign rfl rfl ?_
                      refine WL.nil ?_
                      refine fun a ha => hK174 _ _ ?_ a ha
                      refine W.ret ?_
                      have hr := Option.some.inj hF
                      subst hr
                      exact rets (vs := [(.bool false)]) hQ rfl ⟨rv_tmp rfl, trivial⟩ ⟨rfl, hB168⟩
                    · replace hF := ifN h173 hF
                      refine W.skip ?_
                      refine fun a ha => hK165 _ _ ?_ a ha
                      refine W.seq fun K175 hK175 => ?_
                      refine W.region ?_
                      refine wl_assign rfl rfl ?_
                      refine WL.nil ?_
                      refine fun a ha => hK175 _ _ ?_ a ha
                      refine W.seq fun K176 hK176 => ?_
                      refine W.region ?_
                      refine wl_move rfl rfl ?_
                      refine wl_move rfl rfl ?_
                      obtain ⟨u177, hu177, hF⟩ := bindE hF
                      refine wl_call rfl Try.call34 (C_laws_heldIntS w167 u124.2 v60 (hS169.own_ro (i := 0) rfl) 1 _ hu177) rfl ?_
                      rintro _ w178 ⟨rfl, hb179⟩
                      refine ⟨_, rfl, ?_⟩
                      have hB180 := hB168.trans (hb179.mono hB168.size)
                      have hS181 := hS169.below hb179
                      refine wl_assign rfl rfl ?_
                      refine WL.nil ?_
                      refine fun a ha => hK176 _ _ ?_ a ha
                      refine W.seq fun K183 hK183 => ?_
                      refine W.seq fun K184 hK184 => ?_
                      refine W.region ?_
                      refine wl_move rfl rfl ?_
                      refine wl_lss rfl rfl rfl ?_
                      refine WL.nil ?_
                      refine fun a ha => hK184 _ _ ?_ a ha
                      refine W.cond rfl (fun h185 => ?_) (fun h185 => ?_)
                      · replace hF := ifP h185 hF
                        refine W.seq fun K186 hK186 => ?_
                        refine W.region ?_
                        refine wl_assign rfl rfl ?_
                        refine WL.nil ?_
                        refine fun a ha => hK186 _ _ ?_ a ha
                        refine W.ret ?_
                        have hr := Option.some.inj hF
                        subst hr
                        exact rets (vs := [(.bool false)]) hQ rfl ⟨rv_tmp rfl, trivial⟩ ⟨rfl, hB180⟩
                      · replace hF := ifN h185 hF
                        refine W.skip ?_
                        refine fun a ha => hK183 _ _ ?_ a ha
                        refine W.seq fun K187 hK187 => ?_
                        refine W.seq fun K188 hK188 => ?_
                        refine W.region ?_
                        refine wl_move rfl rfl ?_
                        refine wl_move rfl rfl ?_
                        refine wl_neq rfl rfl rfl ?_
                        refine WL.nil ?_
                        refine fun a ha => hK188 _ _ ?_ a ha
                        refine W.cond rfl (fun h189 => ?_) (fun h189 => ?_)
                        · replace hF := ifP h189 hF
                          refine W.seq fun K190 hK190 => ?_
                          refine W.region ?_
                          refine wl_assign rfl rfl ?_
                          refine WL.nil ?_
                          refine fun a ha => hK190 _ _ ?_ a ha
                          refine W.ret ?_
                          have hr := Option.some.inj hF
                          subst hr
                          exact rets (vs := [(.bool false)]) hQ rfl ⟨rv_tmp rfl, trivial⟩ ⟨rfl, hB180⟩
                        · replace hF := ifN h189 hF
                          refine W.skip ?_
                          refine fun a ha => hK187 _ _ ?_ a ha
                          refine W.seq fun K191 hK191 => ?_
                          refine W.region ?_
                          refine wl_assign rfl rfl ?_
                          refine WL.nil ?_
                          refine fun a ha => hK191 _ _ ?_ a ha
                          refine W.ret ?_
                          have hr := Option.some.inj hF
                          subst hr
                          exact rets (vs := [(.bool true)]) hQ rfl ⟨rv_tmp rfl, trivial⟩ ⟨rfl, hB180⟩
                  refine W.region ?_
                  refine wl_move rfl rfl ?_
                  refine wl_move rfl rfl ?_
                  obtain ⟨u192, hu192, hF⟩ := bindE hF
                  refine wl_call rfl Try.call32 (C_laws_eqIntS w160 u157.1 v158 (hS163.own_ro (i := 0) rfl) u30.1 v31 (hS163.own_ro (i := 5) rfl) _ hu192) rfl ?_
                  rintro _ w193 ⟨rfl, hb194⟩
                  refine ⟨_, rfl, ?_⟩
                  have hB195 := hB162.trans (hb194.mono hB162.size)
                  have hS196 := hS163.below hb194
                  refine wl_not rfl rfl ?_
                  refine wl_move rfl rfl ?_
                  rcases bE (!u192) with h198 | h198
                  · replace hF := ifP h198 hF
                    refine wl_off rfl rfl rfl h198 ?_
                    refine wl_off rfl rfl rfl h198 ?_
                    refine wl_off rfl rfl rfl h198 ?_
                    refine wl_pick_t rfl rfl h198 rfl ?_
                    refine WL.nil ?_
                    exact fun a ha => hJ172 (true) _ hF hB195 (hS196.sel [3] rfl) a (ha.sub ⟨rfl, rfl, rfl, trivial⟩)
                  · replace hF := ifN h198 hF
                    refine wl_on rfl rfl h198 ?_
                    refine wl_move rfl rfl ?_
                    refine wl_on rfl rfl h198 ?_
                    refine wl_move rfl rfl ?_
                    refine wl_on rfl rfl h198 ?_
                    refine wl_neqb Try.underlying4 rfl rfl rfl ?_
                    refine wl_pick_f rfl rfl h198 rfl ?_
                    refine WL.nil ?_
                    exact fun a ha => hJ172 ((u157.2 != u30.2)) _ hF hB195 (hS196.sel [3] rfl) a (ha.sub ⟨rfl, rfl, rfl, trivial⟩)
          refine W.region ?_
          refine wl_move rfl rfl ?_
          refine wl_lss rfl rfl rfl ?_
          refine wl_move rfl rfl ?_
          rcases bE (decide (u106.1 < 0)) with h199 | h199
          · replace hF := ifP h199 hF
            refine wl_off rfl rfl rfl h199 ?_
            refine wl_off rfl rfl rfl h199 ?_
            refine wl_off rfl rfl rfl h199 ?_
            refine wl_off rfl rfl rfl h199 ?_
            refine wl_pick_t rfl rfl h199 rfl ?_
            refine wl_move rfl rfl ?_
            refine wl_off rfl rfl rfl rfl ?_
            refine wl_off rfl rfl rfl rfl ?_
            refine wl_off rfl rfl rfl rfl ?_
            refine wl_pick_t rfl rfl rfl rfl ?_
            refine WL.nil ?_
            exact fun a ha => hJ119 (true) _ hF hB110 (hS111.sel [4, 5, 7] rfl) a (ha.sub ⟨rfl, rfl, rfl, rfl, rfl, trivial⟩)
          · replace hF := ifN h199 hF
            refine wl_on rfl rfl h199 ?_
            refine wl_move rfl rfl ?_
            refine wl_on rfl rfl h199 ?_
            refine wl_move rfl rfl ?_
            refine wl_on rfl rfl h199 ?_
            obtain ⟨u200, hu200, hF⟩ := bindE hF
            refine wl_call rfl Try.call32 (C_laws_eqIntS w107 u59.1 v60 (hS111.own_ro (i := 7) rfl) u30.1 v31 (hS111.own_ro (i := 5) rfl) _ hu200) rfl ?_
            rintro _ w201 ⟨rfl, hb202⟩
            refine ⟨_, rfl, ?_⟩
            have hB203 := hB110.trans (hb202.mono hB110.size)
            have hS204 := hS111.below hb202
            refine wl_on rfl rfl h199 ?_
            refine wl_not rfl rfl ?_
            refine wl_pick_f rfl rfl h199 rfl ?_
            refine wl_move rfl rfl ?_
            rcases bE (!u200) with h206 | h206
            · replace hF := ifP h206 hF
              refine wl_off rfl rfl rfl h206 ?_
              refine wl_off rfl rfl rfl h206 ?_
              refine wl_off rfl rfl rfl h206 ?_
              refine wl_pick_t rfl rfl h206 rfl ?_
              refine WL.nil ?_
              exact fun a ha => hJ119 (true) _ hF hB203 (hS204.sel [4, 5, 7] rfl) a (ha.sub ⟨rfl, rfl, rfl, rfl, rfl, trivial⟩)
            · replace hF := ifN h206 hF
              refine wl_on rfl rfl h206 ?_
              refine wl_move rfl rfl ?_
              refine wl_on rfl rfl h206 ?_
              refine wl_move rfl rfl ?_
              refine wl_on rfl rfl h206 ?_
              refine wl_neqb Try.underlying4 rfl rfl rfl ?_
              refine wl_pick_f rfl rfl h206 rfl ?_
              refine WL.nil ?_
              exact fun a ha => hJ119 ((u59.2 != u30.2)) _ hF hB203 (hS204.sel [4, 5, 7] rfl) a (ha.sub ⟨rfl, rfl, rfl, rfl, rfl, trivial⟩)
    refine W.region ?_
    refine wl_move rfl rfl ?_
    refine wl_move rfl rfl ?_
    obtain ⟨u207, hu207, hF⟩ := bindE hF
    refine wl_call rfl Try.call32 (C_laws_eqIntS w62 u59.1 v60 (hS65.own_ro (i := 0) rfl) u30.1 v31 (hS65.own_ro (i := 4) rfl) _ hu207) rfl ?_
    rintro _ w208 ⟨rfl, hb209⟩
    refine ⟨_, rfl, ?_⟩
    have hB210 := hB64.trans (hb209.mono hB64.size)
    have hS211 := hS65.below hb209
    refine wl_not rfl rfl ?_
    refine wl_move rfl rfl ?_
    rcases bE (!u207) with h213 | h213
    · replace hF := ifP h213 hF
      refine wl_off rfl rfl rfl h213 ?_
      refine wl_off rfl rfl rfl h213 ?_
      refine wl_off rfl rfl rfl h213 ?_
      refine wl_pick_t rfl rfl h213 rfl ?_
      refine WL.nil ?_
      exact fun a ha => hJ74 (true) _ hF hB210 (hS211.sel [7, 4, 2, 3, 1, 0] rfl) a (ha.sub ⟨rfl, rfl, rfl, rfl, rfl, rfl, rfl, trivial⟩)
    · replace hF := ifN h213 hF
      refine wl_on rfl rfl h213 ?_
      refine wl_move rfl rfl ?_
      refine wl_on rfl rfl h213 ?_
      refine wl_move rfl rfl ?_
      refine wl_on rfl rfl h213 ?_
      refine wl_neqb Try.underlying4 rfl rfl rfl ?_
      refine wl_pick_f rfl rfl h213 rfl ?_
      refine WL.nil ?_
      exact fun a ha => hJ74 ((u59.2 != u30.2)) _ hF hB210 (hS211.sel [7, 4, 2, 3, 1, 0] rfl) a (ha.sub ⟨rfl, rfl, rfl, rfl, rfl, rfl, rfl, trivial⟩)
end Go.Proofs.Ythlfhcefeaehmaa
