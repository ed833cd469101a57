/-
  THE WALKS of functions of this seat, by program (gen.py).
-/
import Derived.Test.YtadklddedeoniaaH
import Derived.Test.YtadklddedeoniaaWFnExactAddShowChart
import Derived.Test.YtadklddedeoniaaWFnExactCuesBetween
import Derived.Test.YtadklddedeoniaaWFnExactMostBehind
import Derived.Test.YtadklddedeoniaaWFnExactReverseShow
import Derived.Test.YtadklddedeoniaaWFnExactWaySums
set_option linter.unusedSimpArgs false
set_option linter.unusedVariables false
set_option maxRecDepth 100000
namespace Go.Proofs.Ytadklddedeoniaa
open Go Go.RowKit
theorem C_spec_NewMarch (w0 : World) (x0 : ((List (List (Int × Int))) × (List Int) × Int × Int)) (v0_0 : Value) (h0_0 : rdS ty_69 (· < w0.heap.size) w0 v0_0 x0.1) (v0_1 : Value) (h0_1 : rdS ty_3 (· < w0.heap.size) w0 v0_1 x0.2.1) (r : ((((List (List (Int × Int))) × (List Int) × Int × Int) × Int × (List Int) × (List Int)) × Bool)) (hF : F_spec_NewMarch x0 = some r) :
    Calls Try.prog 59 [(.agg #[v0_0, v0_1, (.int .i64 x0.2.2.1), (.int .i64 x0.2.2.2)])].toArray w0 fun e w' => ∃ (q0 : Value) (G0 : List Nat) (q1 : Value) (G1 : List Nat) (q2 : Value) (G2 : List Nat) (q3 : Value) (G3 : List Nat), e = .returned (.tuple #[(.agg #[q0, q1, (.int .i64 r.1.1.2.2.1), (.int .i64 r.1.1.2.2.2), (.int .i64 r.1.2.1), q2, q3]), (.bool r.2)]) ∧ Below w0.heap.size w0 w' ∧ Sep w0.heap.size w' [R.own ty_69 G0 q0 r.1.1.1, R.own ty_3 G1 q1 r.1.1.2.1, R.own ty_3 G2 q2 r.1.2.2.1, R.own ty_3 G3 q3 r.1.2.2.2] := by
  refine calls_mk' Try.func59 rfl Try.ntmps59 rfl rfl fun Q hQ hP => ?_
  have hB : Below w0.heap.size w0 w0 := Below.refl _ _
  have hS : Sep w0.heap.size w0 [] := Sep.nil _ _
  unfold F_spec_NewMarch at hF
  refine W.seq fun K1 hK1 => ?_
  refine W.region ?_
  refine wl_box (cs := [v0_0, v0_1, (.int .i64 x0.2.2.1), (.int .i64 x0.2.2.2)]) rfl rfl rfl hB hS ?_
  intro b2 w3 hb4 hB5 hS6
  refine wl_alloc (cs := [(.slice none 0 0), (.slice none 0 0), (.int .i64 0), (.int .i64 0), (.int .i64 0), (.slice none 0 0), (.slice none 0 0)]) tf_60 rfl rfl hB5 hS6 ?_
  intro b7 w8 hb9 hB10 hS11
  refine wl_assign rfl rfl ?_
  refine WL.nil ?_
  refine fun a ha => hK1 _ _ ?_ a ha
  refine W.seq fun K12 hK12 => ?_
  refine W.seq fun K13 hK13 => ?_
  refine W.region ?_
  refine wl_load_blk (i := 1) (vs := [v0_0, v0_1, (.int .i64 x0.2.2.1), (.int .i64 x0.2.2.2)]) (v := (.agg #[v0_0, v0_1, (.int .i64 x0.2.2.1), (.int .i64 x0.2.2.2)])) tf_31 rfl rfl hS11 rfl rfl rfl ?_
  obtain ⟨u14, hu14, hF⟩ := bindE hF
  refine wl_call rfl Try.call69 (C_spec_swGood w8 x0 v0_0 (h0_0.ro hB10) v0_1 (h0_1.ro hB10) _ hu14) rfl ?_
  rintro _ w15 ⟨rfl, hb16⟩
  refine ⟨_, rfl, ?_⟩
  have hB17 := hB10.trans (hb16.mono hB10.size)
  have hS18 := hS11.below hb16
  refine wl_not rfl rfl ?_
  refine WL.nil ?_
  refine fun a ha => hK13 _ _ ?_ a ha
  refine W.cond rfl (fun h20 => ?_) (fun h20 => ?_)
  · replace hF := ifP h20 hF
    refine W.seq fun K21 hK21 => ?_
    refine W.region ?_
    refine wl_build (zs := [(.slice none 0 0), (.slice none 0 0), (.int .i64 0), (.int .i64 0), (.int .i64 0), (.slice none 0 0), (.slice none 0 0)]) (out := [(.slice none 0 0), (.slice none 0 0), (.int .i64 0), (.int .i64 0), (.int .i64 0), (.slice none 0 0), (.slice none 0 0)]) (vs := []) (css := []) tf_60 pl_60 rfl rfl rfl rfl rfl ?_
    refine wl_store_blk (i := 0) (vs := [(.slice none 0 0), (.slice none 0 0), (.int .i64 0), (.int .i64 0), (.int .i64 0), (.slice none 0 0), (.slice none 0 0)]) (cs' := [(.slice none 0 0), (.slice none 0 0), (.int .i64 0), (.int .i64 0), (.int .i64 0), (.slice none 0 0), (.slice none 0 0)]) tf_60 rfl rfl rfl rfl hB17 hS18 rfl rfl ⟨rfl, rfl, rfl, rfl, rfl, rfl, rfl, trivial⟩ rfl ?_
    intro w22 hk25 hB23 hS24
    refine wl_assign rfl rfl ?_
    refine WL.nil ?_
    refine fun a ha => hK21 _ _ ?_ a ha
    refine W.ret ?_
    have hS26 := hS24.push0 (r := R.own ty_69 [] (.slice none 0 0) []) rfl fun _ => .inl ⟨rfl, rfl, rfl⟩
    have hS27 := hS26.push0 (r := R.own ty_3 [] (.slice none 0 0) []) rfl fun _ => .inl ⟨rfl, rfl, rfl⟩
    have hS28 := hS27.push0 (r := R.own ty_3 [] (.slice none 0 0) []) rfl fun _ => .inl ⟨rfl, rfl, rfl⟩
    have hS29 := hS28.push0 (r := R.own ty_3 [] (.slice none 0 0) []) rfl fun _ => .inl ⟨rfl, rfl, rfl⟩
    have hr := Option.some.inj hF
    subst hr
    exact rets (vs := [(.agg #[(.slice none 0 0), (.slice none 0 0), (.int .i64 0), (.int .i64 0), (.int .i64 0), (.slice none 0 0), (.slice none 0 0)]), (.bool false)]) hQ rfl ⟨rv_cell (i := 0) tf_60 rfl hS24 rfl rfl rfl, rv_tmp rfl, trivial⟩ ⟨(.slice none 0 0), [], (.slice none 0 0), [], (.slice none 0 0), [], (.slice none 0 0), [], rfl, hB23, hS29.sel [3, 2, 1, 0] rfl⟩
  · replace hF := ifN h20 hF
    refine W.skip ?_
    refine fun a ha => hK12 _ _ ?_ a ha
    refine W.seq fun K30 hK30 => ?_
    obtain ⟨k46, hk46, hF⟩ := jE6 hF
    have hJ47 : ∀ (l34 : (List (List (Int × Int)))) (l37 : (List Int)) (y40 : Int) (y41 : Int) (l42 : (List Int)) (y45 : Bool) (v35 : Value) (F36 : List Nat) (v38 : Value) (F39 : List Nat) (v43 : Value) (F44 : List Nat) (w31 : World) (_ : k46 l34 l37 y40 y41 l42 y45 = some r) (_ : Below w0.heap.size w0 w31) (_ : Sep w0.heap.size w31 [R.own ty_69 F36 v35 l34, R.own ty_3 F39 v38 l37, R.own ty_3 F44 v43 l42, R.blk b7 60 [v35, v38, (.int .i64 y40), (.int .i64 y41), (.int .i64 0), (.slice none 0 0), v43]]), ∀ a, St 17 [(2, (.pointer (some ⟨b7, 0, none⟩))), (3, (.bool y45))] a → K30 a w31 := by
      intro l34 l37 y40 y41 l42 y45 v35 F36 v38 F39 v43 F44 w31 hF hB32 hS33
      subst hk46
      refine fun a ha => hK30 _ _ ?_ a ha
      refine W.ret ?_
      have hS48 := hS33.push0 (r := R.own ty_3 [] (.slice none 0 0) []) rfl fun _ => .inl ⟨rfl, rfl, rfl⟩
      have hr := Option.some.inj hF
      subst hr
      exact rets (vs := [(.agg #[v35, v38, (.int .i64 y40), (.int .i64 y41), (.int .i64 0), (.slice none 0 0), v43]), (.bool y45)]) hQ rfl ⟨rv_cell (i := 3) tf_60 rfl hS33 rfl rfl rfl, rv_tmp rfl, trivial⟩ ⟨v35, F36, v38, F39, (.slice none 0 0), [], v43, F44, rfl, hB32, hS48.sel [1, 2, 0, 3] rfl⟩
    refine W.regionH mixed_ [b7] hB17 hS18 ?_
    intro w49 hb50 hB51 hS52
    have hSW53 := KeepX.refl w49 [b7]
    refine WH.takex (i := 0) rfl (by kernel_rfl) (by kernel_rfl) (by kernel_rfl) hP hSW53 ?_
    refine pr_load_blk (i := 1) (vs := [v0_0, v0_1, (.int .i64 x0.2.2.1), (.int .i64 x0.2.2.2)]) (v := (.agg #[v0_0, v0_1, (.int .i64 x0.2.2.1), (.int .i64 x0.2.2.2)])) tf_31 rfl rfl hS52 rfl rfl rfl (hS52.disj (i := 1) (j := 0) rfl rfl rfl b2 (by simp [R.blk])) ?_
    refine WH.takex (i := 2) rfl (by kernel_rfl) (by kernel_rfl) (by kernel_rfl) hP hSW53 ?_
    refine pr_field (o := 0) (off' := 0) ff_31_0 rfl rfl rfl ?_
    refine WH.takex (i := 3) rfl (by kernel_rfl) (by kernel_rfl) (by kernel_rfl) hP hSW53 ?_
    refine pr_load_blk (i := 1) (vs := [v0_0]) (v := v0_0) tf_29 rfl rfl hS52 rfl rfl rfl (hS52.disj (i := 1) (j := 0) rfl rfl rfl b2 (by simp [R.blk])) ?_
    obtain ⟨u54, hu54, hF⟩ := bindE hF
    refine WH.takex (i := 4) rfl (by kernel_rfl) (by kernel_rfl) (by kernel_rfl) hP hSW53 ?_
    refine pr_index (e := ty_69) Try.underlying29 rfl rfl rfl h0_0 hu54 ?_
    rintro p55 _ ⟨v57, rfl, hv58⟩ hp56
    refine WH.takex (i := 5) rfl (by kernel_rfl) (by kernel_rfl) (by kernel_rfl) hP hSW53 ?_
    refine pr_load_p (vs := [v57]) (v := v57) tf_69 rfl rfl (hp56.kx hB51 (fun b hb => (((hS52.get (i := 0) rfl).2.1 b hb).1))) rfl rfl ?_
    refine WH.takex (i := 6) rfl (by kernel_rfl) (by kernel_rfl) (by kernel_rfl) hP hSW53 ?_
    refine pr_lenr (e := ty_116) (l := u54) Try.underlying69 rfl rfl hv58 ?_
    refine WH.many (is := [1, 7]) (by kernel_rfl) rfl ?_
    refine List.forall_mem_cons.2 ⟨⟨_, rfl, ?_⟩, List.forall_mem_cons.2 ⟨⟨_, rfl, ?_⟩, fun _ h => by cases h⟩⟩
    ·
      obtain ⟨u59, hu59, hF⟩ := bindE hF
      refine wl_call rfl Try.call100 (C_spec_swOwn w49 x0 v0_0 (h0_0.ro hB51) v0_1 (h0_1.ro hB51) _ hu59) rfl ?_
      rintro _ w65 ⟨v60, F61, v62, F63, rfl, hb66, hM69⟩
      refine ⟨_, rfl, ?_⟩
      have hB67 := hB51.trans (hb66.mono hB51.size)
      have hS68 := hS52.join hb66 hM69 hB51.size
      have hSW70 := hSW53.ext hb66
      have hbS71 : Below w49.heap.size w49 w65 := hb66
      refine WL.nil (WH.ret hSW70 ?_)
      refine WH.one (i := 7) (by kernel_rfl) rfl ?_
      obtain ⟨u72, hu72, hF⟩ := bindE hF
      refine wl_make (e := ty_3) Try.underlying23 rfl rfl hu72 (Below.self w65) (Sep.nil _ _) ?_
      intro v73 F74 w75 hb76 hB79 hM80
      have hB77 := hB67.trans (hb76.mono hB67.size)
      have hS78 := hS68.join hb76 hM80 hB67.size
      have hn81 : ∀ b ∈ F74, w49.heap.size ≤ b := fun b hb => Nat.le_trans hSW70.size ((hM80.1 _ (List.mem_cons_self ..)).2.1 b hb).1
      have hSW82 := hSW70.ext hb76
      have hbS83 : Below w49.heap.size w49 w75 := hbS71.trans (hb76.mono hbS71.size)
      refine WL.nil (WH.ret hSW82 ?_)
      refine WH.takex (i := 8) rfl (by kernel_rfl) (by kernel_rfl) (by kernel_rfl) hP hSW82 ?_
      refine pr_build (zs := [(.slice none 0 0), (.slice none 0 0), (.int .i64 0), (.int .i64 0), (.int .i64 0), (.slice none 0 0), (.slice none 0 0)]) (out := [v60, v62, (.int .i64 u59.2.2.1), (.int .i64 u59.2.2.2), (.int .i64 0), (.slice none 0 0), v73]) (vs := [(.agg #[v60, v62, (.int .i64 u59.2.2.1), (.int .i64 u59.2.2.2)]), v73]) (css := [[v60, v62, (.int .i64 u59.2.2.1), (.int .i64 u59.2.2.2)], [v73]]) tf_60 pl_60 rfl rfl (by simp only [List.map_cons, List.map_nil, cells_one ((hS78.own_ro (i := 0) rfl).one)]; rfl) rfl rfl ?_
      refine WH.one (i := 9) (by kernel_rfl) rfl ?_
      refine wl_store_blk (i := 3) (vs := [v60, v62, (.int .i64 u59.2.2.1), (.int .i64 u59.2.2.2), (.int .i64 0), (.slice none 0 0), v73]) (cs' := [v60, v62, (.int .i64 u59.2.2.1), (.int .i64 u59.2.2.2), (.int .i64 0), (.slice none 0 0), v73]) tf_60 rfl rfl rfl rfl hB77 hS78 rfl rfl ⟨(hS78.own_ro (i := 1) rfl).one, (hS78.own_ro (i := 2) rfl).one, rfl, rfl, rfl, rfl, (hS78.own_ro (i := 0) rfl).one, trivial⟩ rfl ?_
      intro w84 hk87 hB85 hS86
      have hSW88 := hSW82.wr' hk87.1 hk87.2.1 (fun _ _ h => h)
      refine WL.nil (WH.ret hSW88 ?_)
      refine WH.takex (i := 10) rfl (by kernel_rfl) (by kernel_rfl) (by kernel_rfl) hP hSW88 ?_
      refine pr_assign rfl rfl ?_
      refine WH.done (by kernel_rfl) ?_
      exact fun a ha => hJ47 (u59.1) (u59.2.1) (u59.2.2.1) (u59.2.2.2) (u72) (true) (v60) (F61) (v62) (F63) (v73) (F74) _ hF hB85 (hS86.sel [1, 2, 0, 3] rfl) a (ha.sub ⟨rfl, rfl, trivial⟩)
    ·
      obtain ⟨u89, hu89, hF⟩ := bindE hF
      obtain ⟨u90, hu90, hF⟩ := bindE hF
      refine wl_make (e := ty_3) Try.underlying23 rfl rfl hu90 (Below.self w49) (Sep.nil _ _) ?_
      intro v91 F92 w93 hb94 hB97 hM98
      have hB95 := hB51.trans (hb94.mono hB51.size)
      have hS96 := hS52.join hb94 hM98 hB51.size
      have hn99 : ∀ b ∈ F92, w49.heap.size ≤ b := fun b hb => Nat.le_trans hSW53.size ((hM98.1 _ (List.mem_cons_self ..)).2.1 b hb).1
      have hSW100 := hSW53.ext hb94
      have hbS101 : Below w49.heap.size w49 w93 := hb94
      refine WL.nil (WH.ret hSW100 ?_)
      refine WH.one (i := 1) (by kernel_rfl) rfl ?_
      refine wl_call rfl Try.call100 (C_spec_swOwn w93 x0 v0_0 (h0_0.ro hB95) v0_1 (h0_1.ro hB95) _ hu89) rfl ?_
      rintro _ w106 ⟨v102, F103, v104, F105, rfl, hb107, hM110⟩
      refine ⟨_, rfl, ?_⟩
      have hB108 := hB95.trans (hb107.mono hB95.size)
      have hS109 := hS96.join hb107 hM110 hB95.size
      have hSW111 := hSW100.ext hb107
      have hbS112 : Below w49.heap.size w49 w106 := hbS101.trans (hb107.mono hbS101.size)
      refine WL.nil (WH.ret hSW111 ?_)
      refine WH.takex (i := 8) rfl (by kernel_rfl) (by kernel_rfl) (by kernel_rfl) hP hSW111 ?_
      refine pr_build (zs := [(.slice none 0 0), (.slice none 0 0), (.int .i64 0), (.int .i64 0), (.int .i64 0), (.slice none 0 0), (.slice none 0 0)]) (out := [v102, v104, (.int .i64 u89.2.2.1), (.int .i64 u89.2.2.2), (.int .i64 0), (.slice none 0 0), v91]) (vs := [(.agg #[v102, v104, (.int .i64 u89.2.2.1), (.int .i64 u89.2.2.2)]), v91]) (css := [[v102, v104, (.int .i64 u89.2.2.1), (.int .i64 u89.2.2.2)], [v91]]) tf_60 pl_60 rfl rfl (by simp only [List.map_cons, List.map_nil, cells_one ((hS109.own_ro (i := 2) rfl).one)]; rfl) rfl rfl ?_
      refine WH.one (i := 9) (by kernel_rfl) rfl ?_
      refine wl_store_blk (i := 3) (vs := [v102, v104, (.int .i64 u89.2.2.1), (.int .i64 u89.2.2.2), (.int .i64 0), (.slice none 0 0), v91]) (cs' := [v102, v104, (.int .i64 u89.2.2.1), (.int .i64 u89.2.2.2), (.int .i64 0), (.slice none 0 0), v91]) tf_60 rfl rfl rfl rfl hB108 hS109 rfl rfl ⟨(hS109.own_ro (i := 0) rfl).one, (hS109.own_ro (i := 1) rfl).one, rfl, rfl, rfl, rfl, (hS109.own_ro (i := 2) rfl).one, trivial⟩ rfl ?_
      intro w113 hk116 hB114 hS115
      have hSW117 := hSW111.wr' hk116.1 hk116.2.1 (fun _ _ h => h)
      refine WL.nil (WH.ret hSW117 ?_)
      refine WH.takex (i := 10) rfl (by kernel_rfl) (by kernel_rfl) (by kernel_rfl) hP hSW117 ?_
      refine pr_assign rfl rfl ?_
      refine WH.done (by kernel_rfl) ?_
      exact fun a ha => hJ47 (u89.1) (u89.2.1) (u89.2.2.1) (u89.2.2.2) (u90) (true) (v102) (F103) (v104) (F105) (v91) (F92) _ hF hB114 (hS115.sel [0, 1, 2, 3] rfl) a (ha.sub ⟨rfl, rfl, trivial⟩)
theorem C_impl_NewMarch (w0 : World) (x0 : ((List (List (Int × Int))) × (List Int) × Int × Int)) (v0_0 : Value) (h0_0 : rdS ty_69 (· < w0.heap.size) w0 v0_0 x0.1) (v0_1 : Value) (h0_1 : rdS ty_3 (· < w0.heap.size) w0 v0_1 x0.2.1) (r : ((((List (List (Int × Int))) × (List Int) × Int × Int) × Int × (List Int) × (List Int)) × Bool)) (hF : F_impl_NewMarch x0 = some r) :
    Calls Try.prog 60 [(.agg #[v0_0, v0_1, (.int .i64 x0.2.2.1), (.int .i64 x0.2.2.2)])].toArray w0 fun e w' => ∃ (q0 : Value) (G0 : List Nat) (q1 : Value) (G1 : List Nat) (q2 : Value) (G2 : List Nat) (q3 : Value) (G3 : List Nat), e = .returned (.tuple #[(.agg #[q0, q1, (.int .i64 r.1.1.2.2.1), (.int .i64 r.1.1.2.2.2), (.int .i64 r.1.2.1), q2, q3]), (.bool r.2)]) ∧ Below w0.heap.size w0 w' ∧ Sep w0.heap.size w' [R.own ty_69 G0 q0 r.1.1.1, R.own ty_3 G1 q1 r.1.1.2.1, R.own ty_3 G2 q2 r.1.2.2.1, R.own ty_3 G3 q3 r.1.2.2.2] := by
  refine calls_mk' Try.func60 rfl Try.ntmps60 rfl rfl fun Q hQ hP => ?_
  have hB : Below w0.heap.size w0 w0 := Below.refl _ _
  have hS : Sep w0.heap.size w0 [] := Sep.nil _ _
  unfold F_impl_NewMarch at hF
  refine W.seq fun K1 hK1 => ?_
  refine W.region ?_
  refine wl_box (cs := [v0_0, v0_1, (.int .i64 x0.2.2.1), (.int .i64 x0.2.2.2)]) rfl rfl rfl hB hS ?_
  intro b2 w3 hb4 hB5 hS6
  refine wl_alloc (cs := [(.slice none 0 0), (.slice none 0 0), (.int .i64 0), (.int .i64 0), (.int .i64 0), (.slice none 0 0), (.slice none 0 0)]) tf_60 rfl rfl hB5 hS6 ?_
  intro b7 w8 hb9 hB10 hS11
  refine wl_assign rfl rfl ?_
  refine WL.nil ?_
  refine fun a ha => hK1 _ _ ?_ a ha
  refine W.seq fun K12 hK12 => ?_
  refine W.seq fun K13 hK13 => ?_
  refine W.region ?_
  refine wl_load_blk (i := 1) (vs := [v0_0, v0_1, (.int .i64 x0.2.2.1), (.int .i64 x0.2.2.2)]) (v := (.agg #[v0_0, v0_1, (.int .i64 x0.2.2.1), (.int .i64 x0.2.2.2)])) tf_31 rfl rfl hS11 rfl rfl rfl ?_
  obtain ⟨u14, hu14, hF⟩ := bindE hF
  refine wl_call rfl Try.call73 (C_impl_IsShow w8 x0 v0_0 (h0_0.ro hB10) v0_1 (h0_1.ro hB10) _ hu14) rfl ?_
  rintro _ w15 ⟨rfl, hb16⟩
  refine ⟨_, rfl, ?_⟩
  have hB17 := hB10.trans (hb16.mono hB10.size)
  have hS18 := hS11.below hb16
  refine wl_not rfl rfl ?_
  refine WL.nil ?_
  refine fun a ha => hK13 _ _ ?_ a ha
  refine W.cond rfl (fun h20 => ?_) (fun h20 => ?_)
  · replace hF := ifP h20 hF
    refine W.seq fun K21 hK21 => ?_
    refine W.region ?_
    refine wl_build (zs := [(.slice none 0 0), (.slice none 0 0), (.int .i64 0), (.int .i64 0), (.int .i64 0), (.slice none 0 0), (.slice none 0 0)]) (out := [(.slice none 0 0), (.slice none 0 0), (.int .i64 0), (.int .i64 0), (.int .i64 0), (.slice none 0 0), (.slice none 0 0)]) (vs := []) (css := []) tf_60 pl_60 rfl rfl rfl rfl rfl ?_
    refine wl_store_blk (i := 0) (vs := [(.slice none 0 0), (.slice none 0 0), (.int .i64 0), (.int .i64 0), (.int .i64 0), (.slice none 0 0), (.slice none 0 0)]) (cs' := [(.slice none 0 0), (.slice none 0 0), (.int .i64 0), (.int .i64 0), (.int .i64 0), (.slice none 0 0), (.slice none 0 0)]) tf_60 rfl rfl rfl rfl hB17 hS18 rfl rfl ⟨rfl, rfl, rfl, rfl, rfl, rfl, rfl, trivial⟩ rfl ?_
    intro w22 hk25 hB23 hS24
    refine wl_assign rfl rfl ?_
    refine WL.nil ?_
    refine fun a ha => hK21 _ _ ?_ a ha
    refine W.ret ?_
    have hS26 := hS24.push0 (r := R.own ty_69 [] (.slice none 0 0) []) rfl fun _ => .inl ⟨rfl, rfl, rfl⟩
    have hS27 := hS26.push0 (r := R.own ty_3 [] (.slice none 0 0) []) rfl fun _ => .inl ⟨rfl, rfl, rfl⟩
    have hS28 := hS27.push0 (r := R.own ty_3 [] (.slice none 0 0) []) rfl fun _ => .inl ⟨rfl, rfl, rfl⟩
    have hS29 := hS28.push0 (r := R.own ty_3 [] (.slice none 0 0) []) rfl fun _ => .inl ⟨rfl, rfl, rfl⟩
    have hr := Option.some.inj hF
    subst hr
    exact rets (vs := [(.agg #[(.slice none 0 0), (.slice none 0 0), (.int .i64 0), (.int .i64 0), (.int .i64 0), (.slice none 0 0), (.slice none 0 0)]), (.bool false)]) hQ rfl ⟨rv_cell (i := 0) tf_60 rfl hS24 rfl rfl rfl, rv_tmp rfl, trivial⟩ ⟨(.slice none 0 0), [], (.slice none 0 0), [], (.slice none 0 0), [], (.slice none 0 0), [], rfl, hB23, hS29.sel [3, 2, 1, 0] rfl⟩
  · replace hF := ifN h20 hF
    refine W.skip ?_
    refine fun a ha => hK12 _ _ ?_ a ha
    refine W.seq fun K30 hK30 => ?_
    obtain ⟨k49, hk49, hF⟩ := jE7 hF
    have hJ50 : ∀ (l34 : (List (List (Int × Int)))) (l37 : (List Int)) (y40 : Int) (y41 : Int) (l42 : (List Int)) (l45 : (List Int)) (y48 : Bool) (v35 : Value) (F36 : List Nat) (v38 : Value) (F39 : List Nat) (v43 : Value) (F44 : List Nat) (v46 : Value) (F47 : List Nat) (w31 : World) (_ : k49 l34 l37 y40 y41 l42 l45 y48 = some r) (_ : Below w0.heap.size w0 w31) (_ : Sep w0.heap.size w31 [R.own ty_69 F36 v35 l34, R.own ty_3 F39 v38 l37, R.own ty_3 F44 v43 l42, R.own ty_3 F47 v46 l45, R.blk b7 60 [v35, v38, (.int .i64 y40), (.int .i64 y41), (.int .i64 0), v43, v46]]), ∀ a, St 18 [(2, (.pointer (some ⟨b7, 0, none⟩))), (3, (.bool y48))] a → K30 a w31 := by
      intro l34 l37 y40 y41 l42 l45 y48 v35 F36 v38 F39 v43 F44 v46 F47 w31 hF hB32 hS33
      subst hk49
      refine fun a ha => hK30 _ _ ?_ a ha
      refine W.ret ?_
      have hr := Option.some.inj hF
      subst hr
      exact rets (vs := [(.agg #[v35, v38, (.int .i64 y40), (.int .i64 y41), (.int .i64 0), v43, v46]), (.bool y48)]) hQ rfl ⟨rv_cell (i := 4) tf_60 rfl hS33 rfl rfl rfl, rv_tmp rfl, trivial⟩ ⟨v35, F36, v38, F39, v43, F44, v46, F47, rfl, hB32, hS33.sel [0, 1, 2, 3] rfl⟩
    refine W.regionH mixed_ [b7] hB17 hS18 ?_
    intro w51 hb52 hB53 hS54
    have hSW55 := KeepX.refl w51 [b7]
    refine WH.takex (i := 0) rfl (by kernel_rfl) (by kernel_rfl) (by kernel_rfl) hP hSW55 ?_
    refine pr_load_blk (i := 1) (vs := [v0_0, v0_1, (.int .i64 x0.2.2.1), (.int .i64 x0.2.2.2)]) (v := (.agg #[v0_0, v0_1, (.int .i64 x0.2.2.1), (.int .i64 x0.2.2.2)])) tf_31 rfl rfl hS54 rfl rfl rfl (hS54.disj (i := 1) (j := 0) rfl rfl rfl b2 (by simp [R.blk])) ?_
    refine WH.takex (i := 3) rfl (by kernel_rfl) (by kernel_rfl) (by kernel_rfl) hP hSW55 ?_
    refine pr_field (o := 0) (off' := 0) ff_31_0 rfl rfl rfl ?_
    refine WH.takex (i := 4) rfl (by kernel_rfl) (by kernel_rfl) (by kernel_rfl) hP hSW55 ?_
    refine pr_load_blk (i := 1) (vs := [v0_0]) (v := v0_0) tf_29 rfl rfl hS54 rfl rfl rfl (hS54.disj (i := 1) (j := 0) rfl rfl rfl b2 (by simp [R.blk])) ?_
    obtain ⟨u56, hu56, hF⟩ := bindE hF
    refine WH.takex (i := 5) rfl (by kernel_rfl) (by kernel_rfl) (by kernel_rfl) hP hSW55 ?_
    refine pr_index (e := ty_69) Try.underlying29 rfl rfl rfl h0_0 hu56 ?_
    rintro p57 _ ⟨v59, rfl, hv60⟩ hp58
    refine WH.takex (i := 6) rfl (by kernel_rfl) (by kernel_rfl) (by kernel_rfl) hP hSW55 ?_
    refine pr_load_p (vs := [v59]) (v := v59) tf_69 rfl rfl (hp58.kx hB53 (fun b hb => (((hS54.get (i := 0) rfl).2.1 b hb).1))) rfl rfl ?_
    refine WH.takex (i := 7) rfl (by kernel_rfl) (by kernel_rfl) (by kernel_rfl) hP hSW55 ?_
    refine pr_lenr (e := ty_116) (l := u56) Try.underlying69 rfl rfl hv60 ?_
    refine WH.many (is := [1, 2, 8]) (by kernel_rfl) rfl ?_
    refine List.forall_mem_cons.2 ⟨⟨_, rfl, ?_⟩, List.forall_mem_cons.2 ⟨⟨_, rfl, ?_⟩, List.forall_mem_cons.2 ⟨⟨_, rfl, ?_⟩, fun _ h => by cases h⟩⟩⟩
    ·
      obtain ⟨u61, hu61, hF⟩ := bindE hF
      refine wl_call rfl Try.call96 (C_impl_copyShow w51 x0 v0_0 (h0_0.ro hB53) v0_1 (h0_1.ro hB53) _ hu61) rfl ?_
      rintro _ w66 ⟨v62, F63, v64, F65, rfl, hb67, hM70⟩
      refine ⟨_, rfl, ?_⟩
      have hB68 := hB53.trans (hb67.mono hB53.size)
      have hS69 := hS54.join hb67 hM70 hB53.size
      have hSW71 := hSW55.ext hb67
      have hbS72 : Below w51.heap.size w51 w66 := hb67
      refine WL.nil (WH.ret hSW71 ?_)
      refine WH.many (is := [2, 8]) (by kernel_rfl) rfl ?_
      refine List.forall_mem_cons.2 ⟨⟨_, rfl, ?_⟩, List.forall_mem_cons.2 ⟨⟨_, rfl, ?_⟩, fun _ h => by cases h⟩⟩
      ·
        refine wl_lit (vs := []) (l := []) fl_3 Try.underlying23 rfl rfl rfl rfl rfl rfl (Below.self w66) (Sep.nil _ _) ?_
        intro v73 F74 w75 hb76 hB79 hM80
        have hB77 := hB68.trans (hb76.mono hB68.size)
        have hS78 := hS69.join hb76 hM80 hB68.size
        have hn81 : ∀ b ∈ F74, w51.heap.size ≤ b := fun b hb => Nat.le_trans hSW71.size ((hM80.1 _ (List.mem_cons_self ..)).2.1 b hb).1
        have hSW82 := hSW71.ext hb76
        have hbS83 : Below w51.heap.size w51 w75 := hbS72.trans (hb76.mono hbS72.size)
        refine WL.nil (WH.ret hSW82 ?_)
        refine WH.one (i := 8) (by kernel_rfl) rfl ?_
        obtain ⟨u84, hu84, hF⟩ := bindE hF
        refine wl_make (e := ty_3) Try.underlying23 rfl rfl hu84 (Below.self w75) (Sep.nil _ _) ?_
        intro v85 F86 w87 hb88 hB91 hM92
        have hB89 := hB77.trans (hb88.mono hB77.size)
        have hS90 := hS78.join hb88 hM92 hB77.size
        have hn93 : ∀ b ∈ F86, w51.heap.size ≤ b := fun b hb => Nat.le_trans hSW82.size ((hM92.1 _ (List.mem_cons_self ..)).2.1 b hb).1
        have hSW94 := hSW82.ext hb88
        have hbS95 : Below w51.heap.size w51 w87 := hbS83.trans (hb88.mono hbS83.size)
        refine WL.nil (WH.ret hSW94 ?_)
        refine WH.takex (i := 9) rfl (by kernel_rfl) (by kernel_rfl) (by kernel_rfl) hP hSW94 ?_
        refine pr_build (zs := [(.slice none 0 0), (.slice none 0 0), (.int .i64 0), (.int .i64 0), (.int .i64 0), (.slice none 0 0), (.slice none 0 0)]) (out := [v62, v64, (.int .i64 u61.2.2.1), (.int .i64 u61.2.2.2), (.int .i64 0), v73, v85]) (vs := [(.agg #[v62, v64, (.int .i64 u61.2.2.1), (.int .i64 u61.2.2.2)]), v73, v85]) (css := [[v62, v64, (.int .i64 u61.2.2.1), (.int .i64 u61.2.2.2)], [v73], [v85]]) tf_60 pl_60 rfl rfl (by simp only [List.map_cons, List.map_nil, cells_one ((hS90.own_ro (i := 1) rfl).one), cells_one ((hS90.own_ro (i := 0) rfl).one)]; rfl) rfl rfl ?_
        refine WH.one (i := 10) (by kernel_rfl) rfl ?_
        refine wl_store_blk (i := 4) (vs := [v62, v64, (.int .i64 u61.2.2.1), (.int .i64 u61.2.2.2), (.int .i64 0), v73, v85]) (cs' := [v62, v64, (.int .i64 u61.2.2.1), (.int .i64 u61.2.2.2), (.int .i64 0), v73, v85]) tf_60 rfl rfl rfl rfl hB89 hS90 rfl rfl ⟨(hS90.own_ro (i := 2) rfl).one, (hS90.own_ro (i := 3) rfl).one, rfl, rfl, rfl, (hS90.own_ro (i := 1) rfl).one, (hS90.own_ro (i := 0) rfl).one, trivial⟩ rfl ?_
        intro w96 hk99 hB97 hS98
        have hSW100 := hSW94.wr' hk99.1 hk99.2.1 (fun _ _ h => h)
        refine WL.nil (WH.ret hSW100 ?_)
        refine WH.takex (i := 11) rfl (by kernel_rfl) (by kernel_rfl) (by kernel_rfl) hP hSW100 ?_
        refine pr_assign rfl rfl ?_
        refine WH.done (by kernel_rfl) ?_
        exact fun a ha => hJ50 (u61.1) (u61.2.1) (u61.2.2.1) (u61.2.2.2) ([]) (u84) (true) (v62) (F63) (v64) (F65) (v73) (F74) (v85) (F86) _ hF hB97 (hS98.sel [2, 3, 1, 0, 4] rfl) a (ha.sub ⟨rfl, rfl, trivial⟩)
      ·
        obtain ⟨u101, hu101, hF⟩ := bindE hF
        refine wl_make (e := ty_3) Try.underlying23 rfl rfl hu101 (Below.self w66) (Sep.nil _ _) ?_
        intro v102 F103 w104 hb105 hB108 hM109
        have hB106 := hB68.trans (hb105.mono hB68.size)
        have hS107 := hS69.join hb105 hM109 hB68.size
        have hn110 : ∀ b ∈ F103, w51.heap.size ≤ b := fun b hb => Nat.le_trans hSW71.size ((hM109.1 _ (List.mem_cons_self ..)).2.1 b hb).1
        have hSW111 := hSW71.ext hb105
        have hbS112 : Below w51.heap.size w51 w104 := hbS72.trans (hb105.mono hbS72.size)
        refine WL.nil (WH.ret hSW111 ?_)
        refine WH.one (i := 2) (by kernel_rfl) rfl ?_
        refine wl_lit (vs := []) (l := []) fl_3 Try.underlying23 rfl rfl rfl rfl rfl rfl (Below.self w104) (Sep.nil _ _) ?_
        intro v113 F114 w115 hb116 hB119 hM120
        have hB117 := hB106.trans (hb116.mono hB106.size)
        have hS118 := hS107.join hb116 hM120 hB106.size
        have hn121 : ∀ b ∈ F114, w51.heap.size ≤ b := fun b hb => Nat.le_trans hSW111.size ((hM120.1 _ (List.mem_cons_self ..)).2.1 b hb).1
        have hSW122 := hSW111.ext hb116
        have hbS123 : Below w51.heap.size w51 w115 := hbS112.trans (hb116.mono hbS112.size)
        refine WL.nil (WH.ret hSW122 ?_)
        refine WH.takex (i := 9) rfl (by kernel_rfl) (by kernel_rfl) (by kernel_rfl) hP hSW122 ?_
        refine pr_build (zs := [(.slice none 0 0), (.slice none 0 0), (.int .i64 0), (.int .i64 0), (.int .i64 0), (.slice none 0 0), (.slice none 0 0)]) (out := [v62, v64, (.int .i64 u61.2.2.1), (.int .i64 u61.2.2.2), (.int .i64 0), v113, v102]) (vs := [(.agg #[v62, v64, (.int .i64 u61.2.2.1), (.int .i64 u61.2.2.2)]), v113, v102]) (css := [[v62, v64, (.int .i64 u61.2.2.1), (.int .i64 u61.2.2.2)], [v113], [v102]]) tf_60 pl_60 rfl rfl (by simp only [List.map_cons, List.map_nil, cells_one ((hS118.own_ro (i := 0) rfl).one), cells_one ((hS118.own_ro (i := 1) rfl).one)]; rfl) rfl rfl ?_
        refine WH.one (i := 10) (by kernel_rfl) rfl ?_
        refine wl_store_blk (i := 4) (vs := [v62, v64, (.int .i64 u61.2.2.1), (.int .i64 u61.2.2.2), (.int .i64 0), v113, v102]) (cs' := [v62, v64, (.int .i64 u61.2.2.1), (.int .i64 u61.2.2.2), (.int .i64 0), v113, v102]) tf_60 rfl rfl rfl rfl hB117 hS118 rfl rfl ⟨(hS118.own_ro (i := 2) rfl).one, (hS118.own_ro (i := 3) rfl).one, rfl, rfl, rfl, (hS118.own_ro (i := 0) rfl).one, (hS118.own_ro (i := 1) rfl).one, trivial⟩ rfl ?_
        intro w124 hk127 hB125 hS126
        have hSW128 := hSW122.wr' hk127.1 hk127.2.1 (fun _ _ h => h)
        refine WL.nil (WH.ret hSW128 ?_)
        refine WH.takex (i := 11) rfl (by kernel_rfl) (by kernel_rfl) (by kernel_rfl) hP hSW128 ?_
        refine pr_assign rfl rfl ?_
        refine WH.done (by kernel_rfl) ?_
        exact fun a ha => hJ50 (u61.1) (u61.2.1) (u61.2.2.1) (u61.2.2.2) ([]) (u101) (true) (v62) (F63) (v64) (F65) (v113) (F114) (v102) (F103) _ hF hB125 (hS126.sel [2, 3, 0, 1, 4] rfl) a (ha.sub ⟨rfl, rfl, trivial⟩)
    ·
      refine wl_lit (vs := []) (l := []) fl_3 Try.underlying23 rfl rfl rfl rfl rfl rfl (Below.self w51) (Sep.nil _ _) ?_
      intro v129 F130 w131 hb132 hB135 hM136
      have hB133 := hB53.trans (hb132.mono hB53.size)
      have hS134 := hS54.join hb132 hM136 hB53.size
      have hn137 : ∀ b ∈ F130, w51.heap.size ≤ b := fun b hb => Nat.le_trans hSW55.size ((hM136.1 _ (List.mem_cons_self ..)).2.1 b hb).1
      have hSW138 := hSW55.ext hb132
      have hbS139 : Below w51.heap.size w51 w131 := hb132
      refine WL.nil (WH.ret hSW138 ?_)
      refine WH.many (is := [1, 8]) (by kernel_rfl) rfl ?_
      refine List.forall_mem_cons.2 ⟨⟨_, rfl, ?_⟩, List.forall_mem_cons.2 ⟨⟨_, rfl, ?_⟩, fun _ h => by cases h⟩⟩
      ·
        obtain ⟨u140, hu140, hF⟩ := bindE hF
        refine wl_call rfl Try.call96 (C_impl_copyShow w131 x0 v0_0 (h0_0.ro hB133) v0_1 (h0_1.ro hB133) _ hu140) rfl ?_
        rintro _ w145 ⟨v141, F142, v143, F144, rfl, hb146, hM149⟩
        refine ⟨_, rfl, ?_⟩
        have hB147 := hB133.trans (hb146.mono hB133.size)
        have hS148 := hS134.join hb146 hM149 hB133.size
        have hSW150 := hSW138.ext hb146
        have hbS151 : Below w51.heap.size w51 w145 := hbS139.trans (hb146.mono hbS139.size)
        refine WL.nil (WH.ret hSW150 ?_)
        refine WH.one (i := 8) (by kernel_rfl) rfl ?_
        obtain ⟨u152, hu152, hF⟩ := bindE hF
        refine wl_make (e := ty_3) Try.underlying23 rfl rfl hu152 (Below.self w145) (Sep.nil _ _) ?_
        intro v153 F154 w155 hb156 hB159 hM160
        have hB157 := hB147.trans (hb156.mono hB147.size)
        have hS158 := hS148.join hb156 hM160 hB147.size
        have hn161 : ∀ b ∈ F154, w51.heap.size ≤ b := fun b hb => Nat.le_trans hSW150.size ((hM160.1 _ (List.mem_cons_self ..)).2.1 b hb).1
        have hSW162 := hSW150.ext hb156
        have hbS163 : Below w51.heap.size w51 w155 := hbS151.trans (hb156.mono hbS151.size)
        refine WL.nil (WH.ret hSW162 ?_)
        refine WH.takex (i := 9) rfl (by kernel_rfl) (by kernel_rfl) (by kernel_rfl) hP hSW162 ?_
        refine pr_build (zs := [(.slice none 0 0), (.slice none 0 0), (.int .i64 0), (.int .i64 0), (.int .i64 0), (.slice none 0 0), (.slice none 0 0)]) (out := [v141, v143, (.int .i64 u140.2.2.1), (.int .i64 u140.2.2.2), (.int .i64 0), v129, v153]) (vs := [(.agg #[v141, v143, (.int .i64 u140.2.2.1), (.int .i64 u140.2.2.2)]), v129, v153]) (css := [[v141, v143, (.int .i64 u140.2.2.1), (.int .i64 u140.2.2.2)], [v129], [v153]]) tf_60 pl_60 rfl rfl (by simp only [List.map_cons, List.map_nil, cells_one ((hS158.own_ro (i := 3) rfl).one), cells_one ((hS158.own_ro (i := 0) rfl).one)]; rfl) rfl rfl ?_
        refine WH.one (i := 10) (by kernel_rfl) rfl ?_
        refine wl_store_blk (i := 4) (vs := [v141, v143, (.int .i64 u140.2.2.1), (.int .i64 u140.2.2.2), (.int .i64 0), v129, v153]) (cs' := [v141, v143, (.int .i64 u140.2.2.1), (.int .i64 u140.2.2.2), (.int .i64 0), v129, v153]) tf_60 rfl rfl rfl rfl hB157 hS158 rfl rfl ⟨(hS158.own_ro (i := 1) rfl).one, (hS158.own_ro (i := 2) rfl).one, rfl, rfl, rfl, (hS158.own_ro (i := 3) rfl).one, (hS158.own_ro (i := 0) rfl).one, trivial⟩ rfl ?_
        intro w164 hk167 hB165 hS166
        have hSW168 := hSW162.wr' hk167.1 hk167.2.1 (fun _ _ h => h)
        refine WL.nil (WH.ret hSW168 ?_)
        refine WH.takex (i := 11) rfl (by kernel_rfl) (by kernel_rfl) (by kernel_rfl) hP hSW168 ?_
        refine pr_assign rfl rfl ?_
        refine WH.done (by kernel_rfl) ?_
        exact fun a ha => hJ50 (u140.1) (u140.2.1) (u140.2.2.1) (u140.2.2.2) ([]) (u152) (true) (v141) (F142) (v143) (F144) (v129) (F130) (v153) (F154) _ hF hB165 (hS166.sel [1, 2, 3, 0, 4] rfl) a (ha.sub ⟨rfl, rfl, trivial⟩)
      ·
        obtain ⟨u169, hu169, hF⟩ := bindE hF
        obtain ⟨u170, hu170, hF⟩ := bindE hF
        refine wl_make (e := ty_3) Try.underlying23 rfl rfl hu170 (Below.self w131) (Sep.nil _ _) ?_
        intro v171 F172 w173 hb174 hB177 hM178
        have hB175 := hB133.trans (hb174.mono hB133.size)
        have hS176 := hS134.join hb174 hM178 hB133.size
        have hn179 : ∀ b ∈ F172, w51.heap.size ≤ b := fun b hb => Nat.le_trans hSW138.size ((hM178.1 _ (List.mem_cons_self ..)).2.1 b hb).1
        have hSW180 := hSW138.ext hb174
        have hbS181 : Below w51.heap.size w51 w173 := hbS139.trans (hb174.mono hbS139.size)
        refine WL.nil (WH.ret hSW180 ?_)
        refine WH.one (i := 1) (by kernel_rfl) rfl ?_
        refine wl_call rfl Try.call96 (C_impl_copyShow w173 x0 v0_0 (h0_0.ro hB175) v0_1 (h0_1.ro hB175) _ hu169) rfl ?_
        rintro _ w186 ⟨v182, F183, v184, F185, rfl, hb187, hM190⟩
        refine ⟨_, rfl, ?_⟩
        have hB188 := hB175.trans (hb187.mono hB175.size)
        have hS189 := hS176.join hb187 hM190 hB175.size
        have hSW191 := hSW180.ext hb187
        have hbS192 : Below w51.heap.size w51 w186 := hbS181.trans (hb187.mono hbS181.size)
        refine WL.nil (WH.ret hSW191 ?_)
        refine WH.takex (i := 9) rfl (by kernel_rfl) (by kernel_rfl) (by kernel_rfl) hP hSW191 ?_
        refine pr_build (zs := [(.slice none 0 0), (.slice none 0 0), (.int .i64 0), (.int .i64 0), (.int .i64 0), (.slice none 0 0), (.slice none 0 0)]) (out := [v182, v184, (.int .i64 u169.2.2.1), (.int .i64 u169.2.2.2), (.int .i64 0), v129, v171]) (vs := [(.agg #[v182, v184, (.int .i64 u169.2.2.1), (.int .i64 u169.2.2.2)]), v129, v171]) (css := [[v182, v184, (.int .i64 u169.2.2.1), (.int .i64 u169.2.2.2)], [v129], [v171]]) tf_60 pl_60 rfl rfl (by simp only [List.map_cons, List.map_nil, cells_one ((hS189.own_ro (i := 3) rfl).one), cells_one ((hS189.own_ro (i := 2) rfl).one)]; rfl) rfl rfl ?_
        refine WH.one (i := 10) (by kernel_rfl) rfl ?_
        refine wl_store_blk (i := 4) (vs := [v182, v184, (.int .i64 u169.2.2.1), (.int .i64 u169.2.2.2), (.int .i64 0), v129, v171]) (cs' := [v182, v184, (.int .i64 u169.2.2.1), (.int .i64 u169.2.2.2), (.int .i64 0), v129, v171]) tf_60 rfl rfl rfl rfl hB188 hS189 rfl rfl ⟨(hS189.own_ro (i := 0) rfl).one, (hS189.own_ro (i := 1) rfl).one, rfl, rfl, rfl, (hS189.own_ro (i := 3) rfl).one, (hS189.own_ro (i := 2) rfl).one, trivial⟩ rfl ?_
        intro w193 hk196 hB194 hS195
        have hSW197 := hSW191.wr' hk196.1 hk196.2.1 (fun _ _ h => h)
        refine WL.nil (WH.ret hSW197 ?_)
        refine WH.takex (i := 11) rfl (by kernel_rfl) (by kernel_rfl) (by kernel_rfl) hP hSW197 ?_
        refine pr_assign rfl rfl ?_
        refine WH.done (by kernel_rfl) ?_
        exact fun a ha => hJ50 (u169.1) (u169.2.1) (u169.2.2.1) (u169.2.2.2) ([]) (u170) (true) (v182) (F183) (v184) (F185) (v129) (F130) (v171) (F172) _ hF hB194 (hS195.sel [0, 1, 3, 2, 4] rfl) a (ha.sub ⟨rfl, rfl, trivial⟩)
    ·
      obtain ⟨u198, hu198, hF⟩ := bindE hF
      obtain ⟨u199, hu199, hF⟩ := bindE hF
      refine wl_make (e := ty_3) Try.underlying23 rfl rfl hu199 (Below.self w51) (Sep.nil _ _) ?_
      intro v200 F201 w202 hb203 hB206 hM207
      have hB204 := hB53.trans (hb203.mono hB53.size)
      have hS205 := hS54.join hb203 hM207 hB53.size
      have hn208 : ∀ b ∈ F201, w51.heap.size ≤ b := fun b hb => Nat.le_trans hSW55.size ((hM207.1 _ (List.mem_cons_self ..)).2.1 b hb).1
      have hSW209 := hSW55.ext hb203
      have hbS210 : Below w51.heap.size w51 w202 := hb203
      refine WL.nil (WH.ret hSW209 ?_)
      refine WH.many (is := [1, 2]) (by kernel_rfl) rfl ?_
      refine List.forall_mem_cons.2 ⟨⟨_, rfl, ?_⟩, List.forall_mem_cons.2 ⟨⟨_, rfl, ?_⟩, fun _ h => by cases h⟩⟩
      ·
        refine wl_call rfl Try.call96 (C_impl_copyShow w202 x0 v0_0 (h0_0.ro hB204) v0_1 (h0_1.ro hB204) _ hu198) rfl ?_
        rintro _ w215 ⟨v211, F212, v213, F214, rfl, hb216, hM219⟩
        refine ⟨_, rfl, ?_⟩
        have hB217 := hB204.trans (hb216.mono hB204.size)
        have hS218 := hS205.join hb216 hM219 hB204.size
        have hSW220 := hSW209.ext hb216
        have hbS221 : Below w51.heap.size w51 w215 := hbS210.trans (hb216.mono hbS210.size)
        refine WL.nil (WH.ret hSW220 ?_)
        refine WH.one (i := 2) (by kernel_rfl) rfl ?_
        refine wl_lit (vs := []) (l := []) fl_3 Try.underlying23 rfl rfl rfl rfl rfl rfl (Below.self w215) (Sep.nil _ _) ?_
        intro v222 F223 w224 hb225 hB228 hM229
        have hB226 := hB217.trans (hb225.mono hB217.size)
        have hS227 := hS218.join hb225 hM229 hB217.size
        have hn230 : ∀ b ∈ F223, w51.heap.size ≤ b := fun b hb => Nat.le_trans hSW220.size ((hM229.1 _ (List.mem_cons_self ..)).2.1 b hb).1
        have hSW231 := hSW220.ext hb225
        have hbS232 : Below w51.heap.size w51 w224 := hbS221.trans (hb225.mono hbS221.size)
        refine WL.nil (WH.ret hSW231 ?_)
        refine WH.takex (i := 9) rfl (by kernel_rfl) (by kernel_rfl) (by kernel_rfl) hP hSW231 ?_
        refine pr_build (zs := [(.slice none 0 0), (.slice none 0 0), (.int .i64 0), (.int .i64 0), (.int .i64 0), (.slice none 0 0), (.slice none 0 0)]) (out := [v211, v213, (.int .i64 u198.2.2.1), (.int .i64 u198.2.2.2), (.int .i64 0), v222, v200]) (vs := [(.agg #[v211, v213, (.int .i64 u198.2.2.1), (.int .i64 u198.2.2.2)]), v222, v200]) (css := [[v211, v213, (.int .i64 u198.2.2.1), (.int .i64 u198.2.2.2)], [v222], [v200]]) tf_60 pl_60 rfl rfl (by simp only [List.map_cons, List.map_nil, cells_one ((hS227.own_ro (i := 0) rfl).one), cells_one ((hS227.own_ro (i := 3) rfl).one)]; rfl) rfl rfl ?_
        refine WH.one (i := 10) (by kernel_rfl) rfl ?_
        refine wl_store_blk (i := 4) (vs := [v211, v213, (.int .i64 u198.2.2.1), (.int .i64 u198.2.2.2), (.int .i64 0), v222, v200]) (cs' := [v211, v213, (.int .i64 u198.2.2.1), (.int .i64 u198.2.2.2), (.int .i64 0), v222, v200]) tf_60 rfl rfl rfl rfl hB226 hS227 rfl rfl ⟨(hS227.own_ro (i := 1) rfl).one, (hS227.own_ro (i := 2) rfl).one, rfl, rfl, rfl, (hS227.own_ro (i := 0) rfl).one, (hS227.own_ro (i := 3) rfl).one, trivial⟩ rfl ?_
        intro w233 hk236 hB234 hS235
        have hSW237 := hSW231.wr' hk236.1 hk236.2.1 (fun _ _ h => h)
        refine WL.nil (WH.ret hSW237 ?_)
        refine WH.takex (i := 11) rfl (by kernel_rfl) (by kernel_rfl) (by kernel_rfl) hP hSW237 ?_
        refine pr_assign rfl rfl ?_
        refine WH.done (by kernel_rfl) ?_
        exact fun a ha => hJ50 (u198.1) (u198.2.1) (u198.2.2.1) (u198.2.2.2) ([]) (u199) (true) (v211) (F212) (v213) (F214) (v222) (F223) (v200) (F201) _ hF hB234 (hS235.sel [1, 2, 0, 3, 4] rfl) a (ha.sub ⟨rfl, rfl, trivial⟩)
      ·
        refine wl_lit (vs := []) (l := []) fl_3 Try.underlying23 rfl rfl rfl rfl rfl rfl (Below.self w202) (Sep.nil _ _) ?_
        intro v238 F239 w240 hb241 hB244 hM245
        have hB242 := hB204.trans (hb241.mono hB204.size)
        have hS243 := hS205.join hb241 hM245 hB204.size
        have hn246 : ∀ b ∈ F239, w51.heap.size ≤ b := fun b hb => Nat.le_trans hSW209.size ((hM245.1 _ (List.mem_cons_self ..)).2.1 b hb).1
        have hSW247 := hSW209.ext hb241
        have hbS248 : Below w51.heap.size w51 w240 := hbS210.trans (hb241.mono hbS210.size)
        refine WL.nil (WH.ret hSW247 ?_)
        refine WH.one (i := 1) (by kernel_rfl) rfl ?_
        refine wl_call rfl Try.call96 (C_impl_copyShow w240 x0 v0_0 (h0_0.ro hB242) v0_1 (h0_1.ro hB242) _ hu198) rfl ?_
        rintro _ w253 ⟨v249, F250, v251, F252, rfl, hb254, hM257⟩
        refine ⟨_, rfl, ?_⟩
        have hB255 := hB242.trans (hb254.mono hB242.size)
        have hS256 := hS243.join hb254 hM257 hB242.size
        have hSW258 := hSW247.ext hb254
        have hbS259 : Below w51.heap.size w51 w253 := hbS248.trans (hb254.mono hbS248.size)
        refine WL.nil (WH.ret hSW258 ?_)
        refine WH.takex (i := 9) rfl (by kernel_rfl) (by kernel_rfl) (by kernel_rfl) hP hSW258 ?_
        refine pr_build (zs := [(.slice none 0 0), (.slice none 0 0), (.int .i64 0), (.int .i64 0), (.int .i64 0), (.slice none 0 0), (.slice none 0 0)]) (out := [v249, v251, (.int .i64 u198.2.2.1), (.int .i64 u198.2.2.2), (.int .i64 0), v238, v200]) (vs := [(.agg #[v249, v251, (.int .i64 u198.2.2.1), (.int .i64 u198.2.2.2)]), v238, v200]) (css := [[v249, v251, (.int .i64 u198.2.2.1), (.int .i64 u198.2.2.2)], [v238], [v200]]) tf_60 pl_60 rfl rfl (by simp only [List.map_cons, List.map_nil, cells_one ((hS256.own_ro (i := 2) rfl).one), cells_one ((hS256.own_ro (i := 3) rfl).one)]; rfl) rfl rfl ?_
        refine WH.one (i := 10) (by kernel_rfl) rfl ?_
        refine wl_store_blk (i := 4) (vs := [v249, v251, (.int .i64 u198.2.2.1), (.int .i64 u198.2.2.2), (.int .i64 0), v238, v200]) (cs' := [v249, v251, (.int .i64 u198.2.2.1), (.int .i64 u198.2.2.2), (.int .i64 0), v238, v200]) tf_60 rfl rfl rfl rfl hB255 hS256 rfl rfl ⟨(hS256.own_ro (i := 0) rfl).one, (hS256.own_ro (i := 1) rfl).one, rfl, rfl, rfl, (hS256.own_ro (i := 2) rfl).one, (hS256.own_ro (i := 3) rfl).one, trivial⟩ rfl ?_
        intro w260 hk263 hB261 hS262
        have hSW264 := hSW258.wr' hk263.1 hk263.2.1 (fun _ _ h => h)
        refine WL.nil (WH.ret hSW264 ?_)
        refine WH.takex (i := 11) rfl (by kernel_rfl) (by kernel_rfl) (by kernel_rfl) hP hSW264 ?_
        refine pr_assign rfl rfl ?_
        refine WH.done (by kernel_rfl) ?_
        exact fun a ha => hJ50 (u198.1) (u198.2.1) (u198.2.2.1) (u198.2.2.2) ([]) (u199) (true) (v249) (F250) (v251) (F252) (v238) (F239) (v200) (F201) _ hF hB261 (hS262.sel [0, 1, 2, 3, 4] rfl) a (ha.sub ⟨rfl, rfl, trivial⟩)
theorem C_laws_markMarch (w0 : World) (x0 : (((List (List (Int × Int))) × (List Int) × Int × Int) × Int × (List Int) × (List Int))) (v0_0 : Value) (B0_0 : List Nat) (v0_1 : Value) (B0_1 : List Nat) (v0_2 : Value) (B0_2 : List Nat) (v0_3 : Value) (B0_3 : List Nat) (x1 : Int) (hS0 : Sep 0 w0 [R.own ty_69 B0_0 v0_0 x0.1.1, R.own ty_3 B0_1 v0_1 x0.1.2.1, R.own ty_3 B0_2 v0_2 x0.2.2.1, R.own ty_3 B0_3 v0_3 x0.2.2.2]) (r : (Int × (((List (List (Int × Int))) × (List Int) × Int × Int) × Int × (List Int) × (List Int)))) (hF : F_laws_markMarch x0 x1 = some r) :
    Calls Try.prog 61 [(.agg #[v0_0, v0_1, (.int .i64 x0.1.2.2.1), (.int .i64 x0.1.2.2.2), (.int .i64 x0.2.1), v0_2, v0_3]), (.int .i64 x1)].toArray w0 fun e w' => e = .returned (.int .i64 r.1) ∧ Below 0 (wE w0) w' ∧ Sep 0 w' [R.rest w0 (fps [R.own ty_69 B0_0 v0_0 x0.1.1, R.own ty_3 B0_1 v0_1 x0.1.2.1, R.own ty_3 B0_2 v0_2 x0.2.2.1, R.own ty_3 B0_3 v0_3 x0.2.2.2]), R.own ty_69 B0_0 v0_0 r.2.1.1, R.own ty_3 B0_1 v0_1 r.2.1.2.1, R.own ty_3 B0_2 v0_2 r.2.2.2.1, R.own ty_3 B0_3 v0_3 r.2.2.2.2] := by
  refine calls_mk' Try.func61 rfl Try.ntmps61 rfl rfl fun Q hQ hP => ?_
  have hB : Below (wE w0).heap.size (wE w0) w0 := wE_below w0
  have hS : Sep (wE w0).heap.size w0 [R.rest w0 (fps [R.own ty_69 B0_0 v0_0 x0.1.1, R.own ty_3 B0_1 v0_1 x0.1.2.1, R.own ty_3 B0_2 v0_2 x0.2.2.1, R.own ty_3 B0_3 v0_3 x0.2.2.2]), R.own ty_69 B0_0 v0_0 x0.1.1, R.own ty_3 B0_1 v0_1 x0.1.2.1, R.own ty_3 B0_2 v0_2 x0.2.2.1, R.own ty_3 B0_3 v0_3 x0.2.2.2] := hS0.rest
  unfold F_laws_markMarch at hF
  refine W.seq fun K1 hK1 => ?_
  refine W.region ?_
  refine wl_box (cs := [v0_0, v0_1, (.int .i64 x0.1.2.2.1), (.int .i64 x0.1.2.2.2), (.int .i64 x0.2.1), v0_2, v0_3]) rfl rfl rfl hB hS ?_
  intro b2 w3 hb4 hB5 hS6
  refine wl_assign rfl rfl ?_
  refine WL.nil ?_
  refine fun a ha => hK1 _ _ ?_ a ha
  refine W.seq fun K7 hK7 => ?_
  refine W.region ?_
  refine wl_field (o := 0) (off' := 0) ff_60_0 rfl rfl rfl ?_
  refine wl_load_blk (i := 0) (vs := [v0_0, v0_1, (.int .i64 x0.1.2.2.1), (.int .i64 x0.1.2.2.2)]) (v := (.agg #[v0_0, v0_1, (.int .i64 x0.1.2.2.1), (.int .i64 x0.1.2.2.2)])) tf_31 rfl rfl hS6 rfl rfl rfl ?_
  refine wl_move rfl rfl ?_
  obtain ⟨u8, hu8, hF⟩ := bindE hF
  refine wl_call rfl Try.call21 (C_laws_markShow w3 x0.1 v0_0 B0_0 v0_1 B0_1 x1 (hS6.sel [2, 3] rfl).base0 _ hu8) rfl ?_
  rintro _ w9 ⟨rfl, hE10, hM11⟩
  refine ⟨_, rfl, ?_⟩
  have hB12 := hS6.mutB [2, 3] rfl (M := [R.own ty_69 B0_0 v0_0 x0.1.1, R.own ty_3 B0_1 v0_1 x0.1.2.1]) rfl (M' := [R.own ty_69 B0_0 v0_0 u8.2.1, R.own ty_3 B0_1 v0_1 u8.2.2.1]) rfl hB5 hB5.size hE10 hM11
  have hS13 : Sep (wE w0).heap.size w9 [R.own ty_69 B0_0 v0_0 u8.2.1, R.own ty_3 B0_1 v0_1 u8.2.2.1, R.blk b2 60 [v0_0, v0_1, (.int .i64 x0.1.2.2.1), (.int .i64 x0.1.2.2.2), (.int .i64 x0.2.1), v0_2, v0_3], R.rest w0 (fps [R.own ty_69 B0_0 v0_0 x0.1.1, R.own ty_3 B0_1 v0_1 x0.1.2.1, R.own ty_3 B0_2 v0_2 x0.2.2.1, R.own ty_3 B0_3 v0_3 x0.2.2.2]), R.own ty_3 B0_2 v0_2 x0.2.2.1, R.own ty_3 B0_3 v0_3 x0.2.2.2] := hS6.mut [2, 3] [0, 1, 4, 5] rfl (M := [R.own ty_69 B0_0 v0_0 x0.1.1, R.own ty_3 B0_1 v0_1 x0.1.2.1]) rfl (M' := [R.own ty_69 B0_0 v0_0 u8.2.1, R.own ty_3 B0_1 v0_1 u8.2.2.1]) rfl hM11
  refine wl_assign rfl rfl ?_
  refine WL.nil ?_
  refine fun a ha => hK7 _ _ ?_ a ha
  refine W.seq fun K14 hK14 => ?_
  refine W.region ?_
  refine wl_field (o := 5) (off' := 5) ff_60_2 rfl rfl rfl ?_
  refine wl_load_blk (i := 2) (vs := [v0_2]) (v := v0_2) tf_23 rfl rfl hS13 rfl rfl rfl ?_
  refine wl_move rfl rfl ?_
  obtain ⟨u15, hu15, hF⟩ := bindE hF
  refine wl_call rfl Try.call22 (C_laws_markIntS w9 x0.2.2.1 v0_2 B0_2 u8.1 (hS13.sel [4] rfl).base0 _ hu15) rfl ?_
  rintro _ w16 ⟨rfl, hE17, hM18⟩
  refine ⟨_, rfl, ?_⟩
  have hB19 := hS13.mutB [4] rfl (M := [R.own ty_3 B0_2 v0_2 x0.2.2.1]) rfl (M' := [R.own ty_3 B0_2 v0_2 u15.2]) rfl hB12 hB12.size hE17 hM18
  have hS20 : Sep (wE w0).heap.size w16 [R.own ty_3 B0_2 v0_2 u15.2, R.own ty_69 B0_0 v0_0 u8.2.1, R.own ty_3 B0_1 v0_1 u8.2.2.1, R.blk b2 60 [v0_0, v0_1, (.int .i64 x0.1.2.2.1), (.int .i64 x0.1.2.2.2), (.int .i64 x0.2.1), v0_2, v0_3], R.rest w0 (fps [R.own ty_69 B0_0 v0_0 x0.1.1, R.own ty_3 B0_1 v0_1 x0.1.2.1, R.own ty_3 B0_2 v0_2 x0.2.2.1, R.own ty_3 B0_3 v0_3 x0.2.2.2]), R.own ty_3 B0_3 v0_3 x0.2.2.2] := hS13.mut [4] [0, 1, 2, 3, 5] rfl (M := [R.own ty_3 B0_2 v0_2 x0.2.2.1]) rfl (M' := [R.own ty_3 B0_2 v0_2 u15.2]) rfl hM18
  refine wl_assign rfl rfl ?_
  refine WL.nil ?_
  refine fun a ha => hK14 _ _ ?_ a ha
  refine W.seq fun K21 hK21 => ?_
  refine W.region ?_
  refine wl_field (o := 6) (off' := 6) ff_60_3 rfl rfl rfl ?_
  refine wl_load_blk (i := 3) (vs := [v0_3]) (v := v0_3) tf_23 rfl rfl hS20 rfl rfl rfl ?_
  refine wl_move rfl rfl ?_
  obtain ⟨u22, hu22, hF⟩ := bindE hF
  refine wl_call rfl Try.call22 (C_laws_markIntS w16 x0.2.2.2 v0_3 B0_3 u15.1 (hS20.sel [5] rfl).base0 _ hu22) rfl ?_
  rintro _ w23 ⟨rfl, hE24, hM25⟩
  refine ⟨_, rfl, ?_⟩
  have hB26 := hS20.mutB [5] rfl (M := [R.own ty_3 B0_3 v0_3 x0.2.2.2]) rfl (M' := [R.own ty_3 B0_3 v0_3 u22.2]) rfl hB19 hB19.size hE24 hM25
  have hS27 : Sep (wE w0).heap.size w23 [R.own ty_3 B0_3 v0_3 u22.2, R.own ty_3 B0_2 v0_2 u15.2, R.own ty_69 B0_0 v0_0 u8.2.1, R.own ty_3 B0_1 v0_1 u8.2.2.1, R.blk b2 60 [v0_0, v0_1, (.int .i64 x0.1.2.2.1), (.int .i64 x0.1.2.2.2), (.int .i64 x0.2.1), v0_2, v0_3], R.rest w0 (fps [R.own ty_69 B0_0 v0_0 x0.1.1, R.own ty_3 B0_1 v0_1 x0.1.2.1, R.own ty_3 B0_2 v0_2 x0.2.2.1, R.own ty_3 B0_3 v0_3 x0.2.2.2])] := hS20.mut [5] [0, 1, 2, 3, 4] rfl (M := [R.own ty_3 B0_3 v0_3 x0.2.2.2]) rfl (M' := [R.own ty_3 B0_3 v0_3 u22.2]) rfl hM25
  refine wl_assign rfl rfl ?_
  refine WL.nil ?_
  refine fun a ha => hK21 _ _ ?_ a ha
  refine W.seq fun K28 hK28 => ?_
  refine W.region ?_
  refine wl_move rfl rfl ?_
  refine wl_assign rfl rfl ?_
  refine WL.nil ?_
  refine fun a ha => hK28 _ _ ?_ a ha
  refine W.ret ?_
  have hr := Option.some.inj hF
  subst hr
  exact rets (vs := [(.int .i64 u22.1)]) hQ rfl ⟨rv_tmp rfl, trivial⟩ ⟨rfl, hB26, hS27.sel [5, 2, 3, 1, 0] rfl⟩
theorem C_laws_heldMarch (w0 : World) (x0 : (((List (List (Int × Int))) × (List Int) × Int × Int) × Int × (List Int) × (List Int))) (v0_0 : Value) (h0_0 : rdS ty_69 (· < w0.heap.size) w0 v0_0 x0.1.1) (v0_1 : Value) (h0_1 : rdS ty_3 (· < w0.heap.size) w0 v0_1 x0.1.2.1) (v0_2 : Value) (h0_2 : rdS ty_3 (· < w0.heap.size) w0 v0_2 x0.2.2.1) (v0_3 : Value) (h0_3 : rdS ty_3 (· < w0.heap.size) w0 v0_3 x0.2.2.2) (x1 : Int) (r : Int) (hF : F_laws_heldMarch x0 x1 = some r) :
    Calls Try.prog 62 [(.agg #[v0_0, v0_1, (.int .i64 x0.1.2.2.1), (.int .i64 x0.1.2.2.2), (.int .i64 x0.2.1), v0_2, v0_3]), (.int .i64 x1)].toArray w0 fun e w' => e = .returned (.int .i64 r) ∧ Below w0.heap.size w0 w' := by
  refine calls_mk' Try.func62 rfl Try.ntmps62 rfl rfl fun Q hQ hP => ?_
  have hB : Below w0.heap.size w0 w0 := Below.refl _ _
  have hS : Sep w0.heap.size w0 [] := Sep.nil _ _
  unfold F_laws_heldMarch at hF
  refine W.seq fun K1 hK1 => ?_
  refine W.region ?_
  refine wl_box (cs := [v0_0, v0_1, (.int .i64 x0.1.2.2.1), (.int .i64 x0.1.2.2.2), (.int .i64 x0.2.1), v0_2, v0_3]) rfl rfl rfl hB hS ?_
  intro b2 w3 hb4 hB5 hS6
  refine wl_assign rfl rfl ?_
  refine WL.nil ?_
  refine fun a ha => hK1 _ _ ?_ a ha
  refine W.seq fun K7 hK7 => ?_
  refine W.region ?_
  refine wl_field (o := 0) (off' := 0) ff_60_0 rfl rfl rfl ?_
  refine wl_load_blk (i := 0) (vs := [v0_0, v0_1, (.int .i64 x0.1.2.2.1), (.int .i64 x0.1.2.2.2)]) (v := (.agg #[v0_0, v0_1, (.int .i64 x0.1.2.2.1), (.int .i64 x0.1.2.2.2)])) tf_31 rfl rfl hS6 rfl rfl rfl ?_
  refine wl_move rfl rfl ?_
  obtain ⟨u8, hu8, hF⟩ := bindE hF
  refine wl_call rfl Try.call43 (C_laws_heldShow w3 x0.1 v0_0 (h0_0.ro hB5) v0_1 (h0_1.ro hB5) x1 _ hu8) rfl ?_
  rintro _ w9 ⟨rfl, hb10⟩
  refine ⟨_, rfl, ?_⟩
  have hB11 := hB5.trans (hb10.mono hB5.size)
  have hS12 := hS6.below hb10
  refine wl_assign rfl rfl ?_
  refine WL.nil ?_
  refine fun a ha => hK7 _ _ ?_ a ha
  refine W.seq fun K14 hK14 => ?_
  refine W.seq fun K15 hK15 => ?_
  refine W.region ?_
  refine wl_move rfl rfl ?_
  refine wl_lss rfl rfl rfl ?_
  refine WL.nil ?_
  refine fun a ha => hK15 _ _ ?_ a ha
  refine W.cond rfl (fun h16 => ?_) (fun h16 => ?_)
  · replace hF := ifP h16 hF
    refine W.seq fun K17 hK17 => ?_
    refine W.region ?_
    refine wl_assign rfl rfl ?_
    refine WL.nil ?_
    refine fun a ha => hK17 _ _ ?_ a ha
    refine W.ret ?_
    have hr := Option.some.inj hF
    subst hr
    exact rets (vs := [(.int .i64 (-1))]) hQ rfl ⟨rv_tmp rfl, trivial⟩ ⟨rfl, hB11⟩
  · replace hF := ifN h16 hF
    refine W.skip ?_
    refine fun a ha => hK14 _ _ ?_ a ha
    refine W.seq fun K18 hK18 => ?_
    refine W.region ?_
    refine wl_field (o := 5) (off' := 5) ff_60_2 rfl rfl rfl ?_
    refine wl_load_blk (i := 0) (vs := [v0_2]) (v := v0_2) tf_23 rfl rfl hS12 rfl rfl rfl ?_
    refine wl_move rfl rfl ?_
    obtain ⟨u19, hu19, hF⟩ := bindE hF
    refine wl_call rfl Try.call23 (C_laws_heldIntS w9 x0.2.2.1 v0_2 (h0_2.ro hB11) u8 _ hu19) rfl ?_
    rintro _ w20 ⟨rfl, hb21⟩
    refine ⟨_, rfl, ?_⟩
    have hB22 := hB11.trans (hb21.mono hB11.size)
    have hS23 := hS12.below hb21
    refine wl_assign rfl rfl ?_
    refine WL.nil ?_
    refine fun a ha => hK18 _ _ ?_ a ha
    refine W.seq fun K25 hK25 => ?_
    refine W.seq fun K26 hK26 => ?_
    refine W.region ?_
    refine wl_move rfl rfl ?_
    refine wl_lss rfl rfl rfl ?_
    refine WL.nil ?_
    refine fun a ha => hK26 _ _ ?_ a ha
    refine W.cond rfl (fun h27 => ?_) (fun h27 => ?_)
    · replace hF := ifP h27 hF
      refine W.seq fun K28 hK28 => ?_
      refine W.region ?_
      refine wl_assign rfl rfl ?_
      refine WL.nil ?_
      refine fun a ha => hK28 _ _ ?_ a ha
      refine W.ret ?_
      have hr := Option.some.inj hF
      subst hr
      exact rets (vs := [(.int .i64 (-1))]) hQ rfl ⟨rv_tmp rfl, trivial⟩ ⟨rfl, hB22⟩
    · replace hF := ifN h27 hF
      refine W.skip ?_
      refine fun a ha => hK25 _ _ ?_ a ha
      refine W.seq fun K29 hK29 => ?_
      refine W.region ?_
      refine wl_field (o := 6) (off' := 6) ff_60_3 rfl rfl rfl ?_
      refine wl_load_blk (i := 0) (vs := [v0_3]) (v := v0_3) tf_23 rfl rfl hS23 rfl rfl rfl ?_
      refine wl_move rfl rfl ?_
      obtain ⟨u30, hu30, hF⟩ := bindE hF
      refine wl_call rfl Try.call23 (C_laws_heldIntS w20 x0.2.2.2 v0_3 (h0_3.ro hB22) u19 _ hu30) rfl ?_
      rintro _ w31 ⟨rfl, hb32⟩
      refine ⟨_, rfl, ?_⟩
      have hB33 := hB22.trans (hb32.mono hB22.size)
      have hS34 := hS23.below hb32
      refine wl_assign rfl rfl ?_
      refine WL.nil ?_
      refine fun a ha => hK29 _ _ ?_ a ha
      refine W.seq fun K36 hK36 => ?_
      refine W.seq fun K37 hK37 => ?_
      refine W.region ?_
      refine wl_move rfl rfl ?_
      refine wl_lss rfl rfl rfl ?_
      refine WL.nil ?_
      refine fun a ha => hK37 _ _ ?_ a ha
      refine W.cond rfl (fun h38 => ?_) (fun h38 => ?_)
      · replace hF := ifP h38 hF
        refine W.seq fun K39 hK39 => ?_
        refine W.region ?_
        refine wl_assign rfl rfl ?_
        refine WL.nil ?_
        refine fun a ha => hK39 _ _ ?_ a ha
        refine W.ret ?_
        have hr := Option.some.inj hF
        subst hr
        exact rets (vs := [(.int .i64 (-1))]) hQ rfl ⟨rv_tmp rfl, trivial⟩ ⟨rfl, hB33⟩
      · replace hF := ifN h38 hF
        refine W.skip ?_
        refine fun a ha => hK36 _ _ ?_ a ha
        refine W.seq fun K40 hK40 => ?_
        refine W.region ?_
        refine wl_move rfl rfl ?_
        refine wl_assign rfl rfl ?_
        refine WL.nil ?_
        refine fun a ha => hK40 _ _ ?_ a ha
        refine W.ret ?_
        have hr := Option.some.inj hF
        subst hr
        exact rets (vs := [(.int .i64 u30)]) hQ rfl ⟨rv_tmp rfl, trivial⟩ ⟨rfl, hB33⟩
theorem C_laws_FnExactNewMarch (w0 : World) (x0 : ((List (List (Int × Int))) × (List Int) × Int × Int)) (v0_0 : Value) (h0_0 : rdS ty_66 (· < w0.heap.size) w0 v0_0 x0.1) (v0_1 : Value) (h0_1 : rdS ty_3 (· < w0.heap.size) w0 v0_1 x0.2.1) (r : Bool) (hF : F_laws_FnExactNewMarch x0 = some r) :
    Calls Try.prog 12 [(.agg #[v0_0, v0_1, (.int .i64 x0.2.2.1), (.int .i64 x0.2.2.2)])].toArray w0 fun e w' => e = .returned (.bool r) ∧ Below w0.heap.size w0 w' := by
  refine calls_mk' Try.func12 rfl Try.ntmps12 rfl rfl fun Q hQ hP => ?_
  have hB : Below w0.heap.size w0 w0 := Below.refl _ _
  have hS : Sep w0.heap.size w0 [] := Sep.nil _ _
  unfold F_laws_FnExactNewMarch at hF
  refine W.seq fun K1 hK1 => ?_
  refine W.region ?_
  refine wl_box (cs := [v0_0, v0_1, (.int .i64 x0.2.2.1), (.int .i64 x0.2.2.2)]) rfl rfl rfl hB hS ?_
  intro b2 w3 hb4 hB5 hS6
  refine wl_assign rfl rfl ?_
  refine WL.nil ?_
  refine fun a ha => hK1 _ _ ?_ a ha
  refine W.seq fun K7 hK7 => ?_
  refine W.region ?_
  refine wl_assign rfl rfl ?_
  refine WL.nil ?_
  refine fun a ha => hK7 _ _ ?_ a ha
  refine W.seq fun K8 hK8 => ?_
  refine W.region ?_
  refine wl_load_blk (i := 0) (vs := [v0_0, v0_1, (.int .i64 x0.2.2.1), (.int .i64 x0.2.2.2)]) (v := (.agg #[v0_0, v0_1, (.int .i64 x0.2.2.1), (.int .i64 x0.2.2.2)])) tf_25 rfl rfl hS6 rfl rfl rfl ?_
  refine wl_move rfl rfl ?_
  obtain ⟨u9, hu9, hF⟩ := bindE hF
  refine wl_call rfl Try.call15 (C_laws_szShow w3 x0 v0_0 (h0_0.ro hB5) v0_1 (h0_1.ro hB5) 1048576 _ hu9) rfl ?_
  rintro _ w10 ⟨rfl, hb11⟩
  refine ⟨_, rfl, ?_⟩
  have hB12 := hB5.trans (hb11.mono hB5.size)
  have hS13 := hS6.below hb11
  refine wl_assign rfl rfl ?_
  refine WL.nil ?_
  refine fun a ha => hK8 _ _ ?_ a ha
  refine W.seq fun K15 hK15 => ?_
  refine W.seq fun K16 hK16 => ?_
  refine W.region ?_
  refine wl_move rfl rfl ?_
  refine wl_lss rfl rfl rfl ?_
  refine WL.nil ?_
  refine fun a ha => hK16 _ _ ?_ a ha
  refine W.cond rfl (fun h17 => ?_) (fun h17 => ?_)
  · replace hF := ifP h17 hF
    refine W.seq fun K18 hK18 => ?_
    refine W.region ?_
    refine wl_assign rfl rfl ?_
    refine WL.nil ?_
    refine fun a ha => hK18 _ _ ?_ a ha
    refine W.ret ?_
    have hr := Option.some.inj hF
    subst hr
    exact rets (vs := [(.bool true)]) hQ rfl ⟨rv_tmp rfl, trivial⟩ ⟨rfl, hB12⟩
  · replace hF := ifN h17 hF
    refine W.skip ?_
    refine fun a ha => hK15 _ _ ?_ a ha
    refine W.seq fun K19 hK19 => ?_
    refine W.region ?_
    refine wl_load_blk (i := 0) (vs := [v0_0, v0_1, (.int .i64 x0.2.2.1), (.int .i64 x0.2.2.2)]) (v := (.agg #[v0_0, v0_1, (.int .i64 x0.2.2.1), (.int .i64 x0.2.2.2)])) tf_25 rfl rfl hS13 rfl rfl rfl ?_
    obtain ⟨u20, hu20, hF⟩ := bindE hF
    refine wl_call rfl Try.call17 (C_laws_toShow w10 x0 v0_0 (h0_0.ro hB12) v0_1 (h0_1.ro hB12) _ hu20) rfl ?_
    rintro _ w25 ⟨v21, F22, v23, F24, rfl, hb26, hM29⟩
    refine ⟨_, rfl, ?_⟩
    have hB27 := hB12.trans (hb26.mono hB12.size)
    have hS28 := hS13.join hb26 hM29 hB12.size
    obtain ⟨u30, hu30, hF⟩ := bindE hF
    refine wl_call rfl Try.call59 (C_spec_NewMarch w25 u20 v21 (hS28.own_ro (i := 0) rfl) v23 (hS28.own_ro (i := 1) rfl) _ hu30) rfl ?_
    rintro _ w39 ⟨v31, F32, v33, F34, v35, F36, v37, F38, rfl, hb40, hM43⟩
    refine ⟨_, rfl, ?_⟩
    have hB41 := hB27.trans (hb40.mono hB27.size)
    have hS42 := hS28.join hb40 hM43 hB27.size
    refine wl_move rfl rfl ?_
    refine wl_extract rfl rfl rfl ?_
    refine wl_extract rfl rfl rfl ?_
    refine wl_alloc (cs := [(.slice none 0 0), (.slice none 0 0), (.int .i64 0), (.int .i64 0), (.int .i64 0), (.slice none 0 0), (.slice none 0 0)]) tf_60 rfl rfl hB41 hS42 ?_
    intro b44 w45 hb46 hB47 hS48
    refine wl_store_blk (i := 0) (vs := [v31, v33, (.int .i64 u30.1.1.2.2.1), (.int .i64 u30.1.1.2.2.2), (.int .i64 u30.1.2.1), v35, v37]) (cs' := [v31, v33, (.int .i64 u30.1.1.2.2.1), (.int .i64 u30.1.1.2.2.2), (.int .i64 u30.1.2.1), v35, v37]) tf_60 rfl rfl rfl rfl hB47 hS48 rfl rfl ⟨(hS48.own_ro (i := 1) rfl).one, (hS48.own_ro (i := 2) rfl).one, rfl, rfl, rfl, (hS48.own_ro (i := 3) rfl).one, (hS48.own_ro (i := 4) rfl).one, trivial⟩ rfl ?_
    intro w49 hk52 hB50 hS51
    refine wl_assign rfl rfl ?_
    refine WL.nil ?_
    refine fun a ha => hK19 _ _ ?_ a ha
    refine W.seq fun K53 hK53 => ?_
    refine W.region ?_
    refine wl_load_blk (i := 7) (vs := [v0_0, v0_1, (.int .i64 x0.2.2.1), (.int .i64 x0.2.2.2)]) (v := (.agg #[v0_0, v0_1, (.int .i64 x0.2.2.1), (.int .i64 x0.2.2.2)])) tf_25 rfl rfl hS51 rfl rfl rfl ?_
    obtain ⟨u54, hu54, hF⟩ := bindE hF
    refine wl_call rfl Try.call17 (C_laws_toShow w49 x0 v0_0 (h0_0.ro hB50) v0_1 (h0_1.ro hB50) _ hu54) rfl ?_
    rintro _ w59 ⟨v55, F56, v57, F58, rfl, hb60, hM63⟩
    refine ⟨_, rfl, ?_⟩
    have hB61 := hB50.trans (hb60.mono hB50.size)
    have hS62 := hS51.join hb60 hM63 hB50.size
    refine wl_alloc (cs := [(.slice none 0 0), (.slice none 0 0), (.int .i64 0), (.int .i64 0)]) tf_31 rfl rfl hB61 hS62 ?_
    intro b64 w65 hb66 hB67 hS68
    refine wl_store_blk (i := 0) (vs := [v55, v57, (.int .i64 u54.2.2.1), (.int .i64 u54.2.2.2)]) (cs' := [v55, v57, (.int .i64 u54.2.2.1), (.int .i64 u54.2.2.2)]) tf_31 rfl rfl rfl rfl hB67 hS68 rfl rfl ⟨(hS68.own_ro (i := 1) rfl).one, (hS68.own_ro (i := 2) rfl).one, rfl, rfl, trivial⟩ rfl ?_
    intro w69 hk72 hB70 hS71
    refine WL.nil ?_
    refine fun a ha => hK53 _ _ ?_ a ha
    refine W.seq fun K73 hK73 => ?_
    refine W.region ?_
    refine wl_load_blk (i := 0) (vs := [v55, v57, (.int .i64 u54.2.2.1), (.int .i64 u54.2.2.2)]) (v := (.agg #[v55, v57, (.int .i64 u54.2.2.1), (.int .i64 u54.2.2.2)])) tf_31 rfl rfl hS71 rfl rfl rfl ?_
    obtain ⟨u74, hu74, hF⟩ := bindE hF
    refine wl_call rfl Try.call60 (C_impl_NewMarch w69 u54 v55 (hS71.own_ro (i := 1) rfl) v57 (hS71.own_ro (i := 2) rfl) _ hu74) rfl ?_
    rintro _ w83 ⟨v75, F76, v77, F78, v79, F80, v81, F82, rfl, hb84, hM87⟩
    refine ⟨_, rfl, ?_⟩
    have hB85 := hB70.trans (hb84.mono hB70.size)
    have hS86 := hS71.join hb84 hM87 hB70.size
    refine wl_move rfl rfl ?_
    refine wl_extract rfl rfl rfl ?_
    refine wl_extract rfl rfl rfl ?_
    refine wl_alloc (cs := [(.slice none 0 0), (.slice none 0 0), (.int .i64 0), (.int .i64 0), (.int .i64 0), (.slice none 0 0), (.slice none 0 0)]) tf_60 rfl rfl hB85 hS86 ?_
    intro b88 w89 hb90 hB91 hS92
    refine wl_store_blk (i := 0) (vs := [v75, v77, (.int .i64 u74.1.1.2.2.1), (.int .i64 u74.1.1.2.2.2), (.int .i64 u74.1.2.1), v79, v81]) (cs' := [v75, v77, (.int .i64 u74.1.1.2.2.1), (.int .i64 u74.1.1.2.2.2), (.int .i64 u74.1.2.1), v79, v81]) tf_60 rfl rfl rfl rfl hB91 hS92 rfl rfl ⟨(hS92.own_ro (i := 1) rfl).one, (hS92.own_ro (i := 2) rfl).one, rfl, rfl, rfl, (hS92.own_ro (i := 3) rfl).one, (hS92.own_ro (i := 4) rfl).one, trivial⟩ rfl ?_
    intro w93 hk96 hB94 hS95
    refine wl_assign rfl rfl ?_
    refine WL.nil ?_
    refine fun a ha => hK73 _ _ ?_ a ha
    refine W.seq fun K97 hK97 => ?_
    refine W.seq fun K98 hK98 => ?_
    obtain ⟨k103, hk103, hF⟩ := jE1 hF
    have hJ104 : ∀ (y102 : Bool) (w99 : World) (_ : k103 y102 = some r) (_ : Below w0.heap.size w0 w99) (_ : Sep w0.heap.size w99 [R.blk b2 25 [v0_0, v0_1, (.int .i64 x0.2.2.1), (.int .i64 x0.2.2.2)], R.own ty_69 F32 v31 u30.1.1.1, R.own ty_3 F34 v33 u30.1.1.2.1, R.own ty_3 F36 v35 u30.1.2.2.1, R.own ty_3 F38 v37 u30.1.2.2.2, R.blk b44 60 [v31, v33, (.int .i64 u30.1.1.2.2.1), (.int .i64 u30.1.1.2.2.2), (.int .i64 u30.1.2.1), v35, v37], R.own ty_69 F56 v55 u54.1, R.own ty_3 F58 v57 u54.2.1, R.blk b64 31 [v55, v57, (.int .i64 u54.2.2.1), (.int .i64 u54.2.2.2)], R.own ty_69 F76 v75 u74.1.1.1, R.own ty_3 F78 v77 u74.1.1.2.1, R.own ty_3 F80 v79 u74.1.2.2.1, R.own ty_3 F82 v81 u74.1.2.2.2, R.blk b88 60 [v75, v77, (.int .i64 u74.1.1.2.2.1), (.int .i64 u74.1.1.2.2.2), (.int .i64 u74.1.2.1), v79, v81]]), ∀ a, St 96 [(1, (.pointer (some ⟨b2, 0, none⟩))), (4, (.pointer (some ⟨b44, 0, none⟩))), (5, (.bool u30.2)), (6, (.pointer (some ⟨b64, 0, none⟩))), (7, (.pointer (some ⟨b88, 0, none⟩))), (8, (.bool u74.2)), (40, (.bool y102))] a → K98 a w99 := by
      intro y102 w99 hF hB100 hS101
      subst hk103
      refine fun a ha => hK98 _ _ ?_ a ha
      refine W.cond rfl (fun h105 => ?_) (fun h105 => ?_)
      · replace hF := ifP h105 hF
        refine W.seq fun K106 hK106 => ?_
        refine W.region ?_
        refine wl_assign rfl rfl ?_
        refine WL.nil ?_
        refine fun a ha => hK106 _ _ ?_ a ha
        refine W.ret ?_
        have hr := Option.some.inj hF
        subst hr
        exact rets (vs := [(.bool false)]) hQ rfl ⟨rv_tmp rfl, trivial⟩ ⟨rfl, hB100⟩
      · replace hF := ifN h105 hF
        refine W.skip ?_
        refine fun a ha => hK97 _ _ ?_ a ha
        refine W.seq fun K107 hK107 => ?_
        refine W.seq fun K108 hK108 => ?_
        refine W.regionH mixed_ [] hB100 hS101 ?_
        intro w109 hb110 hB111 hS112
        have hSW113 := KeepX.refl w109 []
        refine WH.takex (i := 0) rfl (by kernel_rfl) (by kernel_rfl) (by kernel_rfl) hP hSW113 ?_
        refine pr_load_blk (i := 8) (vs := [v55, v57, (.int .i64 u54.2.2.1), (.int .i64 u54.2.2.2)]) (v := (.agg #[v55, v57, (.int .i64 u54.2.2.1), (.int .i64 u54.2.2.2)])) tf_31 rfl rfl hS112 rfl rfl rfl (by simp) ?_
        refine WH.takex (i := 1) rfl (by kernel_rfl) (by kernel_rfl) (by kernel_rfl) hP hSW113 ?_
        refine pr_load_blk (i := 0) (vs := [v0_0, v0_1, (.int .i64 x0.2.2.1), (.int .i64 x0.2.2.2)]) (v := (.agg #[v0_0, v0_1, (.int .i64 x0.2.2.1), (.int .i64 x0.2.2.2)])) tf_25 rfl rfl hS112 rfl rfl rfl (by simp) ?_
        refine WH.one (i := 2) (by kernel_rfl) rfl ?_
        obtain ⟨u114, hu114, hF⟩ := bindE hF
        refine wl_call rfl Try.call17 (C_laws_toShow w109 x0 v0_0 (h0_0.ro hB111) v0_1 (h0_1.ro hB111) _ hu114) rfl ?_
        rintro _ w119 ⟨v115, F116, v117, F118, rfl, hb120, hM123⟩
        refine ⟨_, rfl, ?_⟩
        have hB121 := hB111.trans (hb120.mono hB111.size)
        have hS122 := hS112.join hb120 hM123 hB111.size
        have hSW124 := hSW113.ext hb120
        refine WL.nil (WH.ret hSW124 ?_)
        refine WH.one (i := 3) (by kernel_rfl) rfl ?_
        obtain ⟨u125, hu125, hF⟩ := bindE hF
        refine wl_call rfl Try.call20 (C_laws_eqShow w119 u54 v55 (hS122.own_ro (i := 8) rfl) v57 (hS122.own_ro (i := 9) rfl) u114 v115 (hS122.own_ro (i := 0) rfl) v117 (hS122.own_ro (i := 1) rfl) _ hu125) rfl ?_
        rintro _ w126 ⟨rfl, hb127⟩
        refine ⟨_, rfl, ?_⟩
        have hB128 := hB121.trans (hb127.mono hB121.size)
        have hS129 := hS122.below hb127
        have hSW131 := hSW124.ext hb127
        refine WL.nil (WH.ret hSW131 ?_)
        refine WH.takex (i := 4) rfl (by kernel_rfl) (by kernel_rfl) (by kernel_rfl) hP hSW131 ?_
        refine pr_not rfl rfl ?_
        refine WH.done (by kernel_rfl) ?_
        refine fun a ha => hK108 _ _ ?_ a ha
        refine W.cond rfl (fun h132 => ?_) (fun h132 => ?_)
        · replace hF := ifP h132 hF
          refine W.seq fun K133 hK133 => ?_
          refine W.region ?_
          refine wl_assign rfl rfl ?_
          refine WL.nil ?_
          refine fun a ha => hK133 _ _ ?_ a ha
          refine W.ret ?_
          have hr := Option.some.inj hF
          subst hr
          exact rets (vs := [(.bool false)]) hQ rfl ⟨rv_tmp rfl, trivial⟩ ⟨rfl, hB128⟩
        · replace hF := ifN h132 hF
          refine W.skip ?_
          refine fun a ha => hK107 _ _ ?_ a ha
          refine W.seq fun K134 hK134 => ?_
          refine W.region ?_
          refine wl_assign rfl rfl ?_
          refine WL.nil ?_
          refine fun a ha => hK134 _ _ ?_ a ha
          refine W.seq fun K135 hK135 => ?_
          refine W.region ?_
          refine wl_load_blk (i := 10) (vs := [v55, v57, (.int .i64 u54.2.2.1), (.int .i64 u54.2.2.2)]) (v := (.agg #[v55, v57, (.int .i64 u54.2.2.1), (.int .i64 u54.2.2.2)])) tf_31 rfl rfl hS129 rfl rfl rfl ?_
          refine wl_move rfl rfl ?_
          obtain ⟨u136, hu136, hF⟩ := bindE hF
          refine wl_call rfl Try.call21 (C_laws_markShow w126 u54 v55 F56 v57 F58 1 (hS129.sel [8, 9] rfl).base0 _ hu136) rfl ?_
          rintro _ w137 ⟨rfl, hE138, hM139⟩
          refine ⟨_, rfl, ?_⟩
          have hB140 := hS129.mutB [8, 9] rfl (M := [R.own ty_69 F56 v55 u54.1, R.own ty_3 F58 v57 u54.2.1]) rfl (M' := [R.own ty_69 F56 v55 u136.2.1, R.own ty_3 F58 v57 u136.2.2.1]) rfl hB128 hB128.size hE138 hM139
          have hS141 : Sep w0.heap.size w137 [R.own ty_69 F56 v55 u136.2.1, R.own ty_3 F58 v57 u136.2.2.1, R.own ty_69 F116 v115 u114.1, R.own ty_3 F118 v117 u114.2.1, R.blk b2 25 [v0_0, v0_1, (.int .i64 x0.2.2.1), (.int .i64 x0.2.2.2)], R.own ty_69 F32 v31 u30.1.1.1, R.own ty_3 F34 v33 u30.1.1.2.1, R.own ty_3 F36 v35 u30.1.2.2.1, R.own ty_3 F38 v37 u30.1.2.2.2, R.blk b44 60 [v31, v33, (.int .i64 u30.1.1.2.2.1), (.int .i64 u30.1.1.2.2.2), (.int .i64 u30.1.2.1), v35, v37], R.blk b64 31 [v55, v57, (.int .i64 u54.2.2.1), (.int .i64 u54.2.2.2)], R.own ty_69 F76 v75 u74.1.1.1, R.own ty_3 F78 v77 u74.1.1.2.1, R.own ty_3 F80 v79 u74.1.2.2.1, R.own ty_3 F82 v81 u74.1.2.2.2, R.blk b88 60 [v75, v77, (.int .i64 u74.1.1.2.2.1), (.int .i64 u74.1.1.2.2.2), (.int .i64 u74.1.2.1), v79, v81]] := hS129.mut [8, 9] [0, 1, 2, 3, 4, 5, 6, 7, 10, 11, 12, 13, 14, 15] rfl (M := [R.own ty_69 F56 v55 u54.1, R.own ty_3 F58 v57 u54.2.1]) rfl (M' := [R.own ty_69 F56 v55 u136.2.1, R.own ty_3 F58 v57 u136.2.2.1]) rfl hM139
          refine wl_assign rfl rfl ?_
          refine WL.nil ?_
          refine fun a ha => hK135 _ _ ?_ a ha
          refine W.seq fun K142 hK142 => ?_
          refine W.seq fun K143 hK143 => ?_
          obtain ⟨k148, hk148, hF⟩ := jE1 hF
          have hJ149 : ∀ (y147 : Bool) (w144 : World) (_ : k148 y147 = some r) (_ : Below w0.heap.size w0 w144) (_ : Sep w0.heap.size w144 [R.blk b2 25 [v0_0, v0_1, (.int .i64 x0.2.2.1), (.int .i64 x0.2.2.2)], R.own ty_69 F32 v31 u30.1.1.1, R.own ty_3 F34 v33 u30.1.1.2.1, R.own ty_3 F36 v35 u30.1.2.2.1, R.own ty_3 F38 v37 u30.1.2.2.2, R.blk b44 60 [v31, v33, (.int .i64 u30.1.1.2.2.1), (.int .i64 u30.1.1.2.2.2), (.int .i64 u30.1.2.1), v35, v37], R.own ty_69 F76 v75 u74.1.1.1, R.own ty_3 F78 v77 u74.1.1.2.1, R.own ty_3 F80 v79 u74.1.2.2.1, R.own ty_3 F82 v81 u74.1.2.2.2, R.blk b88 60 [v75, v77, (.int .i64 u74.1.1.2.2.1), (.int .i64 u74.1.1.2.2.2), (.int .i64 u74.1.2.1), v79, v81]]), ∀ a, St 96 [(1, (.pointer (some ⟨b2, 0, none⟩))), (4, (.pointer (some ⟨b44, 0, none⟩))), (5, (.bool u30.2)), (7, (.pointer (some ⟨b88, 0, none⟩))), (61, (.bool y147))] a → K143 a w144 := by
            intro y147 w144 hF hB145 hS146
            subst hk148
            refine fun a ha => hK143 _ _ ?_ a ha
            refine W.cond rfl (fun h150 => ?_) (fun h150 => ?_)
            · replace hF := ifP h150 hF
              refine W.seq fun K151 hK151 => ?_
              refine W.region ?_
              refine wl_assign rfl rfl ?_
              refine WL.nil ?_
              refine fun a ha => hK151 _ _ ?_ a ha
              refine W.ret ?_
              have hr := Option.some.inj hF
              subst hr
              exact rets (vs := [(.bool false)]) hQ rfl ⟨rv_tmp rfl, trivial⟩ ⟨rfl, hB145⟩
            · replace hF := ifN h150 hF
              refine W.skip ?_
              refine fun a ha => hK142 _ _ ?_ a ha
              refine W.seq fun K152 hK152 => ?_
              refine W.region ?_
              refine wl_assign rfl rfl ?_
              refine WL.nil ?_
              refine fun a ha => hK152 _ _ ?_ a ha
              refine W.seq fun K153 hK153 => ?_
              refine W.region ?_
              refine wl_load_blk (i := 10) (vs := [v75, v77, (.int .i64 u74.1.1.2.2.1), (.int .i64 u74.1.1.2.2.2), (.int .i64 u74.1.2.1), v79, v81]) (v := (.agg #[v75, v77, (.int .i64 u74.1.1.2.2.1), (.int .i64 u74.1.1.2.2.2), (.int .i64 u74.1.2.1), v79, v81])) tf_60 rfl rfl hS146 rfl rfl rfl ?_
              refine wl_move rfl rfl ?_
              obtain ⟨u154, hu154, hF⟩ := bindE hF
              refine wl_call rfl Try.call61 (C_laws_markMarch w144 u74.1 v75 F76 v77 F78 v79 F80 v81 F82 1 (hS146.sel [6, 7, 8, 9] rfl).base0 _ hu154) rfl ?_
              rintro _ w155 ⟨rfl, hE156, hM157⟩
              refine ⟨_, rfl, ?_⟩
              have hB158 := hS146.mutB [6, 7, 8, 9] rfl (M := [R.own ty_69 F76 v75 u74.1.1.1, R.own ty_3 F78 v77 u74.1.1.2.1, R.own ty_3 F80 v79 u74.1.2.2.1, R.own ty_3 F82 v81 u74.1.2.2.2]) rfl (M' := [R.own ty_69 F76 v75 u154.2.1.1, R.own ty_3 F78 v77 u154.2.1.2.1, R.own ty_3 F80 v79 u154.2.2.2.1, R.own ty_3 F82 v81 u154.2.2.2.2]) rfl hB145 hB145.size hE156 hM157
              have hS159 : Sep w0.heap.size w155 [R.own ty_69 F76 v75 u154.2.1.1, R.own ty_3 F78 v77 u154.2.1.2.1, R.own ty_3 F80 v79 u154.2.2.2.1, R.own ty_3 F82 v81 u154.2.2.2.2, R.blk b2 25 [v0_0, v0_1, (.int .i64 x0.2.2.1), (.int .i64 x0.2.2.2)], R.own ty_69 F32 v31 u30.1.1.1, R.own ty_3 F34 v33 u30.1.1.2.1, R.own ty_3 F36 v35 u30.1.2.2.1, R.own ty_3 F38 v37 u30.1.2.2.2, R.blk b44 60 [v31, v33, (.int .i64 u30.1.1.2.2.1), (.int .i64 u30.1.1.2.2.2), (.int .i64 u30.1.2.1), v35, v37], R.blk b88 60 [v75, v77, (.int .i64 u74.1.1.2.2.1), (.int .i64 u74.1.1.2.2.2), (.int .i64 u74.1.2.1), v79, v81]] := hS146.mut [6, 7, 8, 9] [0, 1, 2, 3, 4, 5, 10] rfl (M := [R.own ty_69 F76 v75 u74.1.1.1, R.own ty_3 F78 v77 u74.1.1.2.1, R.own ty_3 F80 v79 u74.1.2.2.1, R.own ty_3 F82 v81 u74.1.2.2.2]) rfl (M' := [R.own ty_69 F76 v75 u154.2.1.1, R.own ty_3 F78 v77 u154.2.1.2.1, R.own ty_3 F80 v79 u154.2.2.2.1, R.own ty_3 F82 v81 u154.2.2.2.2]) rfl hM157
              refine wl_assign rfl rfl ?_
              refine WL.nil ?_
              refine fun a ha => hK153 _ _ ?_ a ha
              refine W.seq fun K160 hK160 => ?_
              refine W.region ?_
              refine wl_assign rfl rfl ?_
              refine WL.nil ?_
              refine fun a ha => hK160 _ _ ?_ a ha
              refine W.seq fun K161 hK161 => ?_
              refine W.region ?_
              refine wl_load_blk (i := 10) (vs := [v75, v77, (.int .i64 u74.1.1.2.2.1), (.int .i64 u74.1.1.2.2.2), (.int .i64 u74.1.2.1), v79, v81]) (v := (.agg #[v75, v77, (.int .i64 u74.1.1.2.2.1), (.int .i64 u74.1.1.2.2.2), (.int .i64 u74.1.2.1), v79, v81])) tf_60 rfl rfl hS159 rfl rfl rfl ?_
              refine wl_move rfl rfl ?_
              obtain ⟨u162, hu162, hF⟩ := bindE hF
              refine wl_call rfl Try.call62 (C_laws_heldMarch w155 ((u154.2.1.1, u154.2.1.2.1, u74.1.1.2.2.1, u74.1.1.2.2.2), u74.1.2.1, u154.2.2.2.1, u154.2.2.2.2) v75 (hS159.own_ro (i := 0) rfl) v77 (hS159.own_ro (i := 1) rfl) v79 (hS159.own_ro (i := 2) rfl) v81 (hS159.own_ro (i := 3) rfl) 1 _ hu162) rfl ?_
              rintro _ w163 ⟨rfl, hb164⟩
              refine ⟨_, rfl, ?_⟩
              have hB165 := hB158.trans (hb164.mono hB158.size)
              have hS166 := hS159.below hb164
              refine wl_assign rfl rfl ?_
              refine WL.nil ?_
              refine fun a ha => hK161 _ _ ?_ a ha
              refine W.seq fun K168 hK168 => ?_
              refine W.seq fun K169 hK169 => ?_
              refine W.region ?_
              refine wl_move rfl rfl ?_
              refine wl_lss rfl rfl rfl ?_
              refine WL.nil ?_
              refine fun a ha => hK169 _ _ ?_ a ha
              refine W.cond rfl (fun h170 => ?_) (fun h170 => ?_)
              · replace hF := ifP h170 hF
                refine W.seq fun K171 hK171 => ?_
                refine W.region ?_
                refine wl_assign rfl rfl ?_
                refine WL.nil ?_
                refine fun a ha => hK171 _ _ ?_ a ha
                refine W.ret ?_
                have hr := Option.some.inj hF
                subst hr
                exact rets (vs := [(.bool false)]) hQ rfl ⟨rv_tmp rfl, trivial⟩ ⟨rfl, hB165⟩
              · replace hF := ifN h170 hF
                refine W.skip ?_
                refine fun a ha => hK168 _ _ ?_ a ha
                refine W.seq fun K172 hK172 => ?_
                refine W.seq fun K173 hK173 => ?_
                refine W.region ?_
                refine wl_move rfl rfl ?_
                refine wl_move rfl rfl ?_
                refine wl_neq rfl rfl rfl ?_
                refine WL.nil ?_
                refine fun a ha => hK173 _ _ ?_ a ha
                refine W.cond rfl (fun h174 => ?_) (fun h174 => ?_)
                · replace hF := ifP h174 hF
                  refine W.seq fun K175 hK175 => ?_
                  refine W.region ?_
                  refine wl_assign rfl rfl ?_
                  refine WL.nil ?_
                  refine fun a ha => hK175 _ _ ?_ a ha
                  refine W.ret ?_
                  have hr := Option.some.inj hF
                  subst hr
                  exact rets (vs := [(.bool false)]) hQ rfl ⟨rv_tmp rfl, trivial⟩ ⟨rfl, hB165⟩
                · replace hF := ifN h174 hF
                  refine W.skip ?_
                  refine fun a ha => hK172 _ _ ?_ a ha
                  refine W.seq fun K176 hK176 => ?_
                  refine W.region ?_
                  refine wl_load_blk (i := 4) (vs := [v0_0, v0_1, (.int .i64 x0.2.2.1), (.int .i64 x0.2.2.2)]) (v := (.agg #[v0_0, v0_1, (.int .i64 x0.2.2.1), (.int .i64 x0.2.2.2)])) tf_25 rfl rfl hS166 rfl rfl rfl ?_
                  obtain ⟨u177, hu177, hF⟩ := bindE hF
                  refine wl_call rfl Try.call17 (C_laws_toShow w163 x0 v0_0 (h0_0.ro hB165) v0_1 (h0_1.ro hB165) _ hu177) rfl ?_
                  rintro _ w182 ⟨v178, F179, v180, F181, rfl, hb183, hM186⟩
                  refine ⟨_, rfl, ?_⟩
                  have hB184 := hB165.trans (hb183.mono hB165.size)
                  have hS185 := hS166.join hb183 hM186 hB165.size
                  obtain ⟨u187, hu187, hF⟩ := bindE hF
                  refine wl_call rfl Try.call60 (C_impl_NewMarch w182 u177 v178 (hS185.own_ro (i := 0) rfl) v180 (hS185.own_ro (i := 1) rfl) _ hu187) rfl ?_
                  rintro _ w196 ⟨v188, F189, v190, F191, v192, F193, v194, F195, rfl, hb197, hM200⟩
                  refine ⟨_, rfl, ?_⟩
                  have hB198 := hB184.trans (hb197.mono hB184.size)
                  have hS199 := hS185.join hb197 hM200 hB184.size
                  refine wl_move rfl rfl ?_
                  refine wl_extract rfl rfl rfl ?_
                  refine wl_extract rfl rfl rfl ?_
                  refine wl_alloc (cs := [(.slice none 0 0), (.slice none 0 0), (.int .i64 0), (.int .i64 0), (.int .i64 0), (.slice none 0 0), (.slice none 0 0)]) tf_60 rfl rfl hB198 hS199 ?_
                  intro b201 w202 hb203 hB204 hS205
                  refine wl_store_blk (i := 0) (vs := [v188, v190, (.int .i64 u187.1.1.2.2.1), (.int .i64 u187.1.1.2.2.2), (.int .i64 u187.1.2.1), v192, v194]) (cs' := [v188, v190, (.int .i64 u187.1.1.2.2.1), (.int .i64 u187.1.1.2.2.2), (.int .i64 u187.1.2.1), v192, v194]) tf_60 rfl rfl rfl rfl hB204 hS205 rfl rfl ⟨(hS205.own_ro (i := 1) rfl).one, (hS205.own_ro (i := 2) rfl).one, rfl, rfl, rfl, (hS205.own_ro (i := 3) rfl).one, (hS205.own_ro (i := 4) rfl).one, trivial⟩ rfl ?_
                  intro w206 hk209 hB207 hS208
                  refine wl_assign rfl rfl ?_
                  refine WL.nil ?_
                  refine fun a ha => hK176 _ _ ?_ a ha
                  refine W.seq fun K210 hK210 => ?_
                  refine W.seq fun K211 hK211 => ?_
                  obtain ⟨k216, hk216, hF⟩ := jE1 hF
                  have hJ217 : ∀ (y215 : Bool) (w212 : World) (_ : k216 y215 = some r) (_ : Below w0.heap.size w0 w212) (_ : Sep w0.heap.size w212 [R.own ty_69 F76 v75 u154.2.1.1, R.own ty_3 F78 v77 u154.2.1.2.1, R.own ty_3 F80 v79 u154.2.2.2.1, R.own ty_3 F82 v81 u154.2.2.2.2, R.blk b88 60 [v75, v77, (.int .i64 u74.1.1.2.2.1), (.int .i64 u74.1.1.2.2.2), (.int .i64 u74.1.2.1), v79, v81]]), ∀ a, St 96 [(7, (.pointer (some ⟨b88, 0, none⟩))), (10, (.int .i64 u154.1)), (87, (.bool y215))] a → K211 a w212 := by
                    intro y215 w212 hF hB213 hS214
                    subst hk216
                    refine fun a ha => hK211 _ _ ?_ a ha
                    refine W.cond rfl (fun h218 => ?_) (fun h218 => ?_)
                    · replace hF := ifP h218 hF
                      refine W.seq fun K219 hK219 => ?_
                      refine W.region ?_
                      refine wl_assign rfl rfl ?_
                      refine WL.nil ?_
                      refine fun a ha => hK219 _ _ ?_ a ha
                      refine W.ret ?_
                      have hr := Option.some.inj hF
                      subst hr
                      exact rets (vs := [(.bool false)]) hQ rfl ⟨rv_tmp rfl, trivial⟩ ⟨rfl, hB213⟩
                    · replace hF := ifN h218 hF
                      refine W.skip ?_
                      refine fun a ha => hK210 _ _ ?_ a ha
                      refine W.seq fun K220 hK220 => ?_
                      refine W.region ?_
                      refine wl_assign rfl rfl ?_
                      refine WL.nil ?_
                      refine fun a ha => hK220 _ _ ?_ a ha
                      refine W.seq fun K221 hK221 => ?_
                      refine W.region ?_
                      refine wl_load_blk (i := 4) (vs := [v75, v77, (.int .i64 u74.1.1.2.2.1), (.int .i64 u74.1.1.2.2.2), (.int .i64 u74.1.2.1), v79, v81]) (v := (.agg #[v75, v77, (.int .i64 u74.1.1.2.2.1), (.int .i64 u74.1.1.2.2.2), (.int .i64 u74.1.2.1), v79, v81])) tf_60 rfl rfl hS214 rfl rfl rfl ?_
                      refine wl_move rfl rfl ?_
                      obtain ⟨u222, hu222, hF⟩ := bindE hF
                      refine wl_call rfl Try.call62 (C_laws_heldMarch w212 ((u154.2.1.1, u154.2.1.2.1, u74.1.1.2.2.1, u74.1.1.2.2.2), u74.1.2.1, u154.2.2.2.1, u154.2.2.2.2) v75 (hS214.own_ro (i := 0) rfl) v77 (hS214.own_ro (i := 1) rfl) v79 (hS214.own_ro (i := 2) rfl) v81 (hS214.own_ro (i := 3) rfl) 1 _ hu222) rfl ?_
                      rintro _ w223 ⟨rfl, hb224⟩
                      refine ⟨_, rfl, ?_⟩
                      have hB225 := hB213.trans (hb224.mono hB213.size)
                      have hS226 := hS214.below hb224
                      refine wl_assign rfl rfl ?_
                      refine WL.nil ?_
                      refine fun a ha => hK221 _ _ ?_ a ha
                      refine W.seq fun K228 hK228 => ?_
                      refine W.seq fun K229 hK229 => ?_
                      refine W.region ?_
                      refine wl_move rfl rfl ?_
                      refine wl_lss rfl rfl rfl ?_
                      refine WL.nil ?_
                      refine fun a ha => hK229 _ _ ?_ a ha
                      refine W.cond rfl (fun h230 => ?_) (fun h230 => ?_)
                      · replace hF := ifP h230 hF
                        refine W.seq fun K231 hK231 => ?_
                        refine W.region ?_
                        refine wl_assign rfl rfl ?_
                        refine WL.nil ?_
                        refine fun a ha => hK231 _ _ ?_ a ha
                        refine W.ret ?_
                        have hr := Option.some.inj hF
                        subst hr
                        exact rets (vs := [(.bool false)]) hQ rfl ⟨rv_tmp rfl, trivial⟩ ⟨rfl, hB225⟩
                      · replace hF := ifN h230 hF
                        refine W.skip ?_
                        refine fun a ha => hK228 _ _ ?_ a ha
                        refine W.seq fun K232 hK232 => ?_
                        refine W.seq fun K233 hK233 => ?_
                        refine W.region ?_
                        refine wl_move rfl rfl ?_
                        refine wl_move rfl rfl ?_
                        refine wl_neq rfl rfl rfl ?_
                        refine WL.nil ?_
                        refine fun a ha => hK233 _ _ ?_ a ha
                        refine W.cond rfl (fun h234 => ?_) (fun h234 => ?_)
                        · replace hF := ifP h234 hF
                          refine W.seq fun K235 hK235 => ?_
                          refine W.region ?_
                          refine wl_assign rfl rfl ?_
                          refine WL.nil ?_
                          refine fun a ha => hK235 _ _ ?_ a ha
                          refine W.ret ?_
                          have hr := Option.some.inj hF
                          subst hr
                          exact rets (vs := [(.bool false)]) hQ rfl ⟨rv_tmp rfl, trivial⟩ ⟨rfl, hB225⟩
                        · replace hF := ifN h234 hF
                          refine W.skip ?_
                          refine fun a ha => hK232 _ _ ?_ a ha
                          refine W.seq fun K236 hK236 => ?_
                          refine W.region ?_
                          refine wl_assign rfl rfl ?_
                          refine WL.nil ?_
                          refine fun a ha => hK236 _ _ ?_ a ha
                          refine W.ret ?_
                          have hr := Option.some.inj hF
                          subst hr
                          exact rets (vs := [(.bool true)]) hQ rfl ⟨rv_tmp rfl, trivial⟩ ⟨rfl, hB225⟩
                  refine W.region ?_
                  refine wl_load_blk (i := 0) (vs := [v188, v190, (.int .i64 u187.1.1.2.2.1), (.int .i64 u187.1.1.2.2.2), (.int .i64 u187.1.2.1), v192, v194]) (v := (.agg #[v188, v190, (.int .i64 u187.1.1.2.2.1), (.int .i64 u187.1.1.2.2.2), (.int .i64 u187.1.2.1), v192, v194])) tf_60 rfl rfl hS208 rfl rfl rfl ?_
                  refine wl_load_blk (i := 16) (vs := [v31, v33, (.int .i64 u30.1.1.2.2.1), (.int .i64 u30.1.1.2.2.2), (.int .i64 u30.1.2.1), v35, v37]) (v := (.agg #[v31, v33, (.int .i64 u30.1.1.2.2.1), (.int .i64 u30.1.1.2.2.2), (.int .i64 u30.1.2.1), v35, v37])) tf_60 rfl rfl hS208 rfl rfl rfl ?_
                  obtain ⟨u237, hu237, hF⟩ := bindE hF
                  refine wl_call rfl Try.call40 (C_laws_eqMarch w206 u187.1 v188 (hS208.own_ro (i := 1) rfl) v190 (hS208.own_ro (i := 2) rfl) v192 (hS208.own_ro (i := 3) rfl) v194 (hS208.own_ro (i := 4) rfl) u30.1 v31 (hS208.own_ro (i := 12) rfl) v33 (hS208.own_ro (i := 13) rfl) v35 (hS208.own_ro (i := 14) rfl) v37 (hS208.own_ro (i := 15) rfl) _ hu237) rfl ?_
                  rintro _ w238 ⟨rfl, hb239⟩
                  refine ⟨_, rfl, ?_⟩
                  have hB240 := hB207.trans (hb239.mono hB207.size)
                  have hS241 := hS208.below hb239
                  refine wl_not rfl rfl ?_
                  refine wl_move rfl rfl ?_
                  rcases bE (!u237) with h243 | h243
                  · replace hF := ifP h243 hF
                    refine wl_off rfl rfl rfl h243 ?_
                    refine wl_off rfl rfl rfl h243 ?_
                    refine wl_off rfl rfl rfl h243 ?_
                    refine wl_pick_t rfl rfl h243 rfl ?_
                    refine WL.nil ?_
                    exact fun a ha => hJ217 (true) _ hF hB240 (hS241.sel [7, 8, 9, 10, 17] rfl) a (ha.sub ⟨rfl, rfl, rfl, trivial⟩)
                  · replace hF := ifN h243 hF
                    refine wl_on rfl rfl h243 ?_
                    refine wl_move rfl rfl ?_
                    refine wl_on rfl rfl h243 ?_
                    refine wl_move rfl rfl ?_
                    refine wl_on rfl rfl h243 ?_
                    refine wl_neqb Try.underlying4 rfl rfl rfl ?_
                    refine wl_pick_f rfl rfl h243 rfl ?_
                    refine WL.nil ?_
                    exact fun a ha => hJ217 ((u187.2 != u30.2)) _ hF hB240 (hS241.sel [7, 8, 9, 10, 17] rfl) a (ha.sub ⟨rfl, rfl, rfl, trivial⟩)
          refine W.region ?_
          refine wl_move rfl rfl ?_
          refine wl_lss rfl rfl rfl ?_
          refine wl_move rfl rfl ?_
          rcases bE (decide (u136.1 < 0)) with h244 | h244
          · replace hF := ifP h244 hF
            refine wl_off rfl rfl rfl h244 ?_
            refine wl_off rfl rfl rfl h244 ?_
            refine wl_off rfl rfl rfl h244 ?_
            refine wl_off rfl rfl rfl h244 ?_
            refine wl_pick_t rfl rfl h244 rfl ?_
            refine wl_move rfl rfl ?_
            refine wl_off rfl rfl rfl rfl ?_
            refine wl_off rfl rfl rfl rfl ?_
            refine wl_off rfl rfl rfl rfl ?_
            refine wl_pick_t rfl rfl rfl rfl ?_
            refine WL.nil ?_
            exact fun a ha => hJ149 (true) _ hF hB140 (hS141.sel [4, 5, 6, 7, 8, 9, 11, 12, 13, 14, 15] rfl) a (ha.sub ⟨rfl, rfl, rfl, rfl, rfl, trivial⟩)
          · replace hF := ifN h244 hF
            refine wl_on rfl rfl h244 ?_
            refine wl_load_blk (i := 15) (vs := [v75, v77, (.int .i64 u74.1.1.2.2.1), (.int .i64 u74.1.1.2.2.2), (.int .i64 u74.1.2.1), v79, v81]) (v := (.agg #[v75, v77, (.int .i64 u74.1.1.2.2.1), (.int .i64 u74.1.1.2.2.2), (.int .i64 u74.1.2.1), v79, v81])) tf_60 rfl rfl hS141 rfl rfl rfl ?_
            refine wl_on rfl rfl h244 ?_
            refine wl_load_blk (i := 9) (vs := [v31, v33, (.int .i64 u30.1.1.2.2.1), (.int .i64 u30.1.1.2.2.2), (.int .i64 u30.1.2.1), v35, v37]) (v := (.agg #[v31, v33, (.int .i64 u30.1.1.2.2.1), (.int .i64 u30.1.1.2.2.2), (.int .i64 u30.1.2.1), v35, v37])) tf_60 rfl rfl hS141 rfl rfl rfl ?_
            refine wl_on rfl rfl h244 ?_
            obtain ⟨u245, hu245, hF⟩ := bindE hF
            refine wl_call rfl Try.call40 (C_laws_eqMarch w137 u74.1 v75 (hS141.own_ro (i := 11) rfl) v77 (hS141.own_ro (i := 12) rfl) v79 (hS141.own_ro (i := 13) rfl) v81 (hS141.own_ro (i := 14) rfl) u30.1 v31 (hS141.own_ro (i := 5) rfl) v33 (hS141.own_ro (i := 6) rfl) v35 (hS141.own_ro (i := 7) rfl) v37 (hS141.own_ro (i := 8) rfl) _ hu245) rfl ?_
            rintro _ w246 ⟨rfl, hb247⟩
            refine ⟨_, rfl, ?_⟩
            have hB248 := hB140.trans (hb247.mono hB140.size)
            have hS249 := hS141.below hb247
            refine wl_on rfl rfl h244 ?_
            refine wl_not rfl rfl ?_
            refine wl_pick_f rfl rfl h244 rfl ?_
            refine wl_move rfl rfl ?_
            rcases bE (!u245) with h251 | h251
            · replace hF := ifP h251 hF
              refine wl_off rfl rfl rfl h251 ?_
              refine wl_off rfl rfl rfl h251 ?_
              refine wl_off rfl rfl rfl h251 ?_
              refine wl_pick_t rfl rfl h251 rfl ?_
              refine WL.nil ?_
              exact fun a ha => hJ149 (true) _ hF hB248 (hS249.sel [4, 5, 6, 7, 8, 9, 11, 12, 13, 14, 15] rfl) a (ha.sub ⟨rfl, rfl, rfl, rfl, rfl, trivial⟩)
            · replace hF := ifN h251 hF
              refine wl_on rfl rfl h251 ?_
              refine wl_move rfl rfl ?_
              refine wl_on rfl rfl h251 ?_
              refine wl_move rfl rfl ?_
              refine wl_on rfl rfl h251 ?_
              refine wl_neqb Try.underlying4 rfl rfl rfl ?_
              refine wl_pick_f rfl rfl h251 rfl ?_
              refine WL.nil ?_
              exact fun a ha => hJ149 ((u74.2 != u30.2)) _ hF hB248 (hS249.sel [4, 5, 6, 7, 8, 9, 11, 12, 13, 14, 15] rfl) a (ha.sub ⟨rfl, rfl, rfl, rfl, rfl, trivial⟩)
    refine W.region ?_
    refine wl_load_blk (i := 0) (vs := [v75, v77, (.int .i64 u74.1.1.2.2.1), (.int .i64 u74.1.1.2.2.2), (.int .i64 u74.1.2.1), v79, v81]) (v := (.agg #[v75, v77, (.int .i64 u74.1.1.2.2.1), (.int .i64 u74.1.1.2.2.2), (.int .i64 u74.1.2.1), v79, v81])) tf_60 rfl rfl hS95 rfl rfl rfl ?_
    refine wl_load_blk (i := 8) (vs := [v31, v33, (.int .i64 u30.1.1.2.2.1), (.int .i64 u30.1.1.2.2.2), (.int .i64 u30.1.2.1), v35, v37]) (v := (.agg #[v31, v33, (.int .i64 u30.1.1.2.2.1), (.int .i64 u30.1.1.2.2.2), (.int .i64 u30.1.2.1), v35, v37])) tf_60 rfl rfl hS95 rfl rfl rfl ?_
    obtain ⟨u252, hu252, hF⟩ := bindE hF
    refine wl_call rfl Try.call40 (C_laws_eqMarch w93 u74.1 v75 (hS95.own_ro (i := 1) rfl) v77 (hS95.own_ro (i := 2) rfl) v79 (hS95.own_ro (i := 3) rfl) v81 (hS95.own_ro (i := 4) rfl) u30.1 v31 (hS95.own_ro (i := 9) rfl) v33 (hS95.own_ro (i := 10) rfl) v35 (hS95.own_ro (i := 11) rfl) v37 (hS95.own_ro (i := 12) rfl) _ hu252) rfl ?_
    rintro _ w253 ⟨rfl, hb254⟩
    refine ⟨_, rfl, ?_⟩
    have hB255 := hB94.trans (hb254.mono hB94.size)
    have hS256 := hS95.below hb254
    refine wl_not rfl rfl ?_
    refine wl_move rfl rfl ?_
    rcases bE (!u252) with h258 | h258
    · replace hF := ifP h258 hF
      refine wl_off rfl rfl rfl h258 ?_
      refine wl_off rfl rfl rfl h258 ?_
      refine wl_off rfl rfl rfl h258 ?_
      refine wl_pick_t rfl rfl h258 rfl ?_
      refine WL.nil ?_
      exact fun a ha => hJ104 (true) _ hF hB255 (hS256.sel [15, 9, 10, 11, 12, 8, 6, 7, 5, 1, 2, 3, 4, 0] rfl) a (ha.sub ⟨rfl, rfl, rfl, rfl, rfl, rfl, rfl, trivial⟩)
    · replace hF := ifN h258 hF
      refine wl_on rfl rfl h258 ?_
      refine wl_move rfl rfl ?_
      refine wl_on rfl rfl h258 ?_
      refine wl_move rfl rfl ?_
      refine wl_on rfl rfl h258 ?_
      refine wl_neqb Try.underlying4 rfl rfl rfl ?_
      refine wl_pick_f rfl rfl h258 rfl ?_
      refine WL.nil ?_
      exact fun a ha => hJ104 ((u74.2 != u30.2)) _ hF hB255 (hS256.sel [15, 9, 10, 11, 12, 8, 6, 7, 5, 1, 2, 3, 4, 0] rfl) a (ha.sub ⟨rfl, rfl, rfl, rfl, rfl, rfl, rfl, trivial⟩)
end Go.Proofs.Ytadklddedeoniaa
