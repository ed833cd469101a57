/-
  THE WALKS of functions of this seat, by program (gen.py, prune.py).
-/
import Derived.Test.YtmkignciedkidaaWXFnShowChangesc
set_option linter.unusedSimpArgs false
set_option linter.unusedVariables false
set_option maxRecDepth 100000
set_option maxHeartbeats 1600000
namespace Go.Proofs.Ytmkignciedkidaa
open Go Go.RowKit
theorem C_spec_AddShowChart (w0 : World) (x0 : ((List (List (Int × Int))) × (List Int) × Int × Int)) (v0_0 : Value) (h0_0 : rdS ty_63 (· < w0.heap.size) w0 v0_0 x0.1) (v0_1 : Value) (h0_1 : rdS ty_3 (· < w0.heap.size) w0 v0_1 x0.2.1) (x1 : (List (Int × Int))) (v1_0 : Value) (h1_0 : rdS ty_68 (· < w0.heap.size) w0 v1_0 x1) (x2 : Int) (r : (((List (List (Int × Int))) × (List Int) × Int × Int) × Bool)) (hF : F_spec_AddShowChart x0 x1 x2 = some r) :
    Calls Try.prog 57 [(.agg #[v0_0, v0_1, (.int .i64 x0.2.2.1), (.int .i64 x0.2.2.2)]), v1_0, (.int .i64 x2)].toArray w0 fun e w' => ∃ (q0 : Value) (G0 : List Nat) (q1 : Value) (G1 : List Nat), e = .returned (.tuple #[(.agg #[q0, q1, (.int .i64 r.1.2.2.1), (.int .i64 r.1.2.2.2)]), (.bool r.2)]) ∧ Below w0.heap.size w0 w' ∧ Sep w0.heap.size w' [R.own ty_63 G0 q0 r.1.1, R.own ty_3 G1 q1 r.1.2.1] := by
  refine calls_mk' Try.func57 rfl Try.ntmps57 rfl rfl fun Q hQ hP => ?_
  have hB : Below w0.heap.size w0 w0 := Below.refl _ _
  have hS : Sep w0.heap.size w0 [] := Sep.nil _ _
  unfold F_spec_AddShowChart at hF
  refine W.seq fun K1 hK1 => ?_
  refine W.region ?_
  refine wl_box (cs := [v0_0, v0_1, (.int .i64 x0.2.2.1), (.int .i64 x0.2.2.2)]) rfl rfl rfl hB hS ?_
  intro b2 w3 hb4 hB5 hS6
  refine wl_alloc (cs := [(.slice none 0 0), (.slice none 0 0), (.int .i64 0), (.int .i64 0)]) tf_53 rfl rfl hB5 hS6 ?_
  intro b7 w8 hb9 hB10 hS11
  refine wl_assign rfl rfl ?_
  refine WL.nil ?_
  refine fun a ha => hK1 _ _ ?_ a ha
  refine W.seq fun K12 hK12 => ?_
  refine W.seq fun K13 hK13 => ?_
  refine W.region ?_
  refine wl_load_blk (i := 1) (vs := [v0_0, v0_1, (.int .i64 x0.2.2.1), (.int .i64 x0.2.2.2)]) (v := (.agg #[v0_0, v0_1, (.int .i64 x0.2.2.1), (.int .i64 x0.2.2.2)])) tf_53 rfl rfl hS11 rfl rfl rfl ?_
  obtain ⟨u14, hu14, hF⟩ := bindE hF
  refine wl_call rfl Try.call145 (C_spec_swGood w8 x0 v0_0 (h0_0.ro hB10) v0_1 (h0_1.ro hB10) _ hu14) rfl ?_
  rintro _ w15 ⟨rfl, hb16⟩
  refine ⟨_, rfl, ?_⟩
  have hB17 := hB10.trans (hb16.mono hB10.size)
  have hS18 := hS11.below hb16
  refine wl_not rfl rfl ?_
  refine WL.nil ?_
  refine fun a ha => hK13 _ _ ?_ a ha
  refine W.cond rfl (fun h20 => ?_) (fun h20 => ?_)
  · replace hF := ifP h20 hF
    refine W.seq fun K21 hK21 => ?_
    refine W.region ?_
    refine wl_build (zs := [(.slice none 0 0), (.slice none 0 0), (.int .i64 0), (.int .i64 0)]) (out := [(.slice none 0 0), (.slice none 0 0), (.int .i64 0), (.int .i64 0)]) (vs := []) (css := []) tf_53 pl_53 rfl rfl rfl rfl rfl ?_
    refine wl_store_blk (i := 0) (vs := [(.slice none 0 0), (.slice none 0 0), (.int .i64 0), (.int .i64 0)]) (cs' := [(.slice none 0 0), (.slice none 0 0), (.int .i64 0), (.int .i64 0)]) tf_53 rfl rfl rfl rfl hB17 hS18 rfl rfl ⟨rfl, rfl, rfl, rfl, trivial⟩ rfl ?_
    intro w22 hk25 hB23 hS24
    refine wl_assign rfl rfl ?_
    refine WL.nil ?_
    refine fun a ha => hK21 _ _ ?_ a ha
    refine W.ret ?_
    have hS26 := hS24.push0 (r := R.own ty_63 [] (.slice none 0 0) []) rfl fun _ => .inl ⟨rfl, rfl, rfl⟩
    have hS27 := hS26.push0 (r := R.own ty_3 [] (.slice none 0 0) []) rfl fun _ => .inl ⟨rfl, rfl, rfl⟩
    have hr := Option.some.inj hF
    subst hr
    exact rets (vs := [(.agg #[(.slice none 0 0), (.slice none 0 0), (.int .i64 0), (.int .i64 0)]), (.bool false)]) hQ rfl ⟨rv_cell (i := 0) tf_53 rfl hS24 rfl rfl rfl, rv_tmp rfl, trivial⟩ ⟨(.slice none 0 0), [], (.slice none 0 0), [], rfl, hB23, hS27.sel [1, 0] rfl⟩
  · replace hF := ifN h20 hF
    refine W.skip ?_
    refine fun a ha => hK12 _ _ ?_ a ha
    refine W.seq fun K28 hK28 => ?_
    refine W.region ?_
    refine wl_load_blk (i := 1) (vs := [v0_0, v0_1, (.int .i64 x0.2.2.1), (.int .i64 x0.2.2.2)]) (v := (.agg #[v0_0, v0_1, (.int .i64 x0.2.2.1), (.int .i64 x0.2.2.2)])) tf_53 rfl rfl hS18 rfl rfl rfl ?_
    obtain ⟨u29, hu29, hF⟩ := bindE hF
    refine wl_call rfl Try.call170 (C_spec_swOwn w15 x0 v0_0 (h0_0.ro hB17) v0_1 (h0_1.ro hB17) _ hu29) rfl ?_
    rintro _ w34 ⟨v30, F31, v32, F33, rfl, hb35, hM38⟩
    refine ⟨_, rfl, ?_⟩
    have hB36 := hB17.trans (hb35.mono hB17.size)
    have hS37 := hS18.join hb35 hM38 hB17.size
    refine wl_alloc (cs := [(.slice none 0 0), (.slice none 0 0), (.int .i64 0), (.int .i64 0)]) tf_53 rfl rfl hB36 hS37 ?_
    intro b39 w40 hb41 hB42 hS43
    refine wl_store_blk (i := 0) (vs := [v30, v32, (.int .i64 u29.2.2.1), (.int .i64 u29.2.2.2)]) (cs' := [v30, v32, (.int .i64 u29.2.2.1), (.int .i64 u29.2.2.2)]) tf_53 rfl rfl rfl rfl hB42 hS43 rfl rfl ⟨(hS43.own_ro (i := 1) rfl).one, (hS43.own_ro (i := 2) rfl).one, rfl, rfl, trivial⟩ rfl ?_
    intro w44 hk47 hB45 hS46
    refine WL.nil ?_
    refine fun a ha => hK28 _ _ ?_ a ha
    refine W.seq fun K48 hK48 => ?_
    obtain ⟨k55, hk55, hF⟩ := jE1 hF
    have hJ56 : ∀ (l52 : (List (List (Int × Int)))) (v53 : Value) (F54 : List Nat) (w49 : World) (_ : k55 l52 = some r) (_ : Below w0.heap.size w0 w49) (_ : Sep w0.heap.size w49 [R.blk b7 53 [(.slice none 0 0), (.slice none 0 0), (.int .i64 0), (.int .i64 0)], R.own ty_63 F54 v53 l52, R.own ty_3 F33 v32 u29.2.1, R.blk b39 53 [v53, v32, (.int .i64 u29.2.2.1), (.int .i64 u29.2.2.2)]]), ∀ a, St 32 [(2, (.int .i64 x2)), (6, (.pointer (some ⟨b7, 0, none⟩))), (8, (.pointer (some ⟨b39, 0, none⟩)))] a → K48 a w49 := by
      intro l52 v53 F54 w49 hF hB50 hS51
      subst hk55
      refine fun a ha => hK48 _ _ ?_ a ha
      refine W.seq fun K57 hK57 => ?_
      refine W.region ?_
      refine wl_field (o := 1) (off' := 1) ff_53_1 rfl rfl rfl ?_
      refine wl_load_blk (i := 3) (vs := [v32]) (v := v32) tf_29 rfl rfl hS51 rfl rfl rfl ?_
      refine wl_move rfl rfl ?_
      refine wl_lit (vs := [(.int .i64 x2)]) (l := [x2]) fl_3 Try.underlying29 rfl rfl rfl rfl rfl rfl hB50 hS51 ?_
      intro v58 F59 w60 hb61 hB62 hS63
      obtain ⟨u64, hu64, hF⟩ := bindE hF
      refine wl_append (i := 3) (S := (· < w60.heap.size)) fl_3 Try.underlying29 rfl rfl rfl hB62 hS63 rfl (hS63.own_ro (i := 0) rfl) hu64 ?_
      intro v65 F66 w67 hk68 hB69 hS70
      refine wl_field (o := 1) (off' := 1) ff_53_1 rfl rfl rfl ?_
      refine wl_store_blk (i := 4) (vs := [v65]) (cs' := [v53, v65, (.int .i64 u29.2.2.1), (.int .i64 u29.2.2.2)]) tf_29 rfl rfl (cells_one (hS70.own_ro (i := 3) rfl).one) rfl hB69 hS70 rfl rfl ⟨(hS70.own_ro (i := 3) rfl).one, trivial⟩ rfl ?_
      intro w71 hk74 hB72 hS73
      refine WL.nil ?_
      refine fun a ha => hK57 _ _ ?_ a ha
      refine W.seq fun K75 hK75 => ?_
      refine W.region ?_
      refine wl_load_blk (i := 4) (vs := [v53, v65, (.int .i64 u29.2.2.1), (.int .i64 u29.2.2.2)]) (v := (.agg #[v53, v65, (.int .i64 u29.2.2.1), (.int .i64 u29.2.2.2)])) tf_53 rfl rfl hS73 rfl rfl rfl ?_
      obtain ⟨u76, hu76, hF⟩ := bindE hF
      refine wl_call rfl Try.call172 (C_spec_swIf__take w71 (l52, u64, u29.2.2.1, u29.2.2.2) v53 F54 v65 F66 (hS73.sel [2, 3] rfl).base0 _ hu76) rfl ?_
      rintro _ w77 ⟨v82, F83, v84, F85, rfl, hE78, hM79⟩
      refine ⟨_, rfl, ?_⟩
      have hB80 := hS73.takeB [2, 3] rfl (M := [R.own ty_63 F54 v53 l52, R.own ty_3 F66 v65 u64]) rfl hB72 hE78 hM79
      have hS81 : Sep w0.heap.size w77 [R.own ty_63 F83 v82 u76.1.1, R.own ty_3 F85 v84 u76.1.2.1, R.own ty_3 F59 v58 [x2], R.blk b7 53 [(.slice none 0 0), (.slice none 0 0), (.int .i64 0), (.int .i64 0)], R.blk b39 53 [v53, v65, (.int .i64 u29.2.2.1), (.int .i64 u29.2.2.2)]] := hS73.take [2, 3] [0, 1, 4] rfl (M := [R.own ty_63 F54 v53 l52, R.own ty_3 F66 v65 u64]) rfl hM79 hB72.size
      refine wl_extract rfl rfl rfl ?_
      refine wl_extract rfl rfl rfl ?_
      refine wl_store_blk (i := 3) (vs := [v82, v84, (.int .i64 u76.1.2.2.1), (.int .i64 u76.1.2.2.2)]) (cs' := [v82, v84, (.int .i64 u76.1.2.2.1), (.int .i64 u76.1.2.2.2)]) tf_53 rfl rfl rfl rfl hB80 hS81 rfl rfl ⟨(hS81.own_ro (i := 0) rfl).one, (hS81.own_ro (i := 1) rfl).one, rfl, rfl, trivial⟩ rfl ?_
      intro w86 hk89 hB87 hS88
      refine wl_assign rfl rfl ?_
      refine WL.nil ?_
      refine fun a ha => hK75 _ _ ?_ a ha
      refine W.ret ?_
      have hr := Option.some.inj hF
      subst hr
      exact rets (vs := [(.agg #[v82, v84, (.int .i64 u76.1.2.2.1), (.int .i64 u76.1.2.2.2)]), (.bool u76.2)]) hQ rfl ⟨rv_cell (i := 3) tf_53 rfl hS88 rfl rfl rfl, rv_tmp rfl, trivial⟩ ⟨v82, F83, v84, F85, rfl, hB87, hS88.sel [0, 1] rfl⟩
    refine W.regionH mixed_ ([b39] ++ F31) hB45 hS46 ?_
    intro w90 hb91 hB92 hS93
    have hSW94 := KeepX.refl w90 ([b39] ++ F31)
    refine WH.takex (i := 0) rfl (by kernel_rfl) (by kernel_rfl) (by kernel_rfl) hP hSW94 ?_
    refine pr_field (o := 0) (off' := 0) ff_53_0 rfl rfl rfl ?_
    refine WH.takex (i := 2) rfl (by kernel_rfl) (by kernel_rfl) (by kernel_rfl) hP hSW94 ?_
    refine pr_move rfl rfl ?_
    refine WH.many (is := [1, 3]) (by kernel_rfl) rfl ?_
    refine List.forall_mem_cons.2 ⟨⟨_, rfl, ?_⟩, List.forall_mem_cons.2 ⟨⟨_, rfl, ?_⟩, fun _ h => by cases h⟩⟩
    ·
      refine wl_load_blk (i := 0) (vs := [v30]) (v := v30) tf_51 rfl rfl hS93 rfl rfl rfl ?_
      refine WL.nil (WH.ret hSW94 ?_)
      refine WH.one (i := 3) (by kernel_rfl) rfl ?_
      obtain ⟨u95, hu95, hF⟩ := bindE hF
      refine wl_call rfl Try.call171 (C_spec_chOwn w90 x1 v1_0 (h1_0.ro hB92) _ hu95) rfl ?_
      rintro _ w98 ⟨v96, F97, rfl, hb99, hM102⟩
      refine ⟨_, rfl, ?_⟩
      have hB100 := hB92.trans (hb99.mono hB92.size)
      have hn103 : ∀ b ∈ F97, w90.heap.size ≤ b := fun b hb => Nat.le_trans hSW94.size ((hM102.get (i := 0) rfl).2.1 b hb).1
      have hS101 := hS93.join hb99 hM102 hB92.size
      have hSW104 := hSW94.ext hb99
      have hbS105 : Below w90.heap.size w90 w98 := hb99
      refine WL.nil (WH.ret hSW104 ?_)
      refine WH.one (i := 4) (by kernel_rfl) rfl ?_
      have hq106 := hS101.sel [0, 1, 2, 3, 4, 5] rfl
      have hq107 := hq106.head (r' := R.cel ty_63 F97 [v96] u95) (rfl) fun _ h0 => ⟨_, rfl, h0⟩
      refine wl_lit1 (e := ty_63) (vs := [v96]) Try.underlying51 rfl rfl (cells_one (hS101.own_ro (i := 0) rfl).one) rfl hB100 hq107 ?_
      intro v108 F109 w110 hb111 hf112 hB113 hS114
      have hn115 : ∀ b ∈ F109, w90.heap.size ≤ b := fun b hb => (hf112 b hb).elim (hn103 b) fun h => Nat.le_trans hSW104.size h
      have hSW116 := hSW104.ext hb111
      have hbS117 : Below w90.heap.size w90 w110 := hbS105.trans (hb111.mono hbS105.size)
      refine WL.nil (WH.ret hSW116 ?_)
      refine WH.one (i := 5) (by kernel_rfl) rfl ?_
      obtain ⟨u118, hu118, hF⟩ := bindE hF
      refine wl_appendn (e := ty_63) Try.underlying51 rfl rfl rfl hB113 (hS114.sel [2, 0, 1, 3, 4, 5] rfl) hu118 ?_
      intro v119 F120 w121 hk122 hB123 hS124
      have hSW125 := hSW116.wr' hk122.1 hk122.2.1 (fun _ _ h => List.mem_append_right _ h)
      have hbs126 : ∀ b, b < w90.heap.size → b ∈ F120 → b ∈ ([b39] ++ F31) := fun b hlt hb => (hk122.2.2 b hb).elim ((fun _ _ h => List.mem_append_right _ h) b hlt) (fun h => h.elim (fun h => absurd hlt (Nat.not_lt.2 (hn115 b h))) fun h => absurd hlt (Nat.not_lt.2 (Nat.le_trans hSW116.size h)))
      refine WL.nil (WH.ret hSW125 ?_)
      refine WH.takex (i := 6) rfl (by kernel_rfl) (by kernel_rfl) (by kernel_rfl) hP hSW125 ?_
      refine pr_field (o := 0) (off' := 0) ff_53_0 rfl rfl rfl ?_
      refine WH.one (i := 7) (by kernel_rfl) rfl ?_
      refine wl_store_blk (i := 1) (vs := [v119]) (cs' := [v119, v32, (.int .i64 u29.2.2.1), (.int .i64 u29.2.2.2)]) tf_51 rfl rfl (cells_one (hS124.own_ro (i := 0) rfl).one) rfl hB123 hS124 rfl rfl ⟨(hS124.own_ro (i := 0) rfl).one, trivial⟩ rfl ?_
      intro w127 hk130 hB128 hS129
      have hSW131 := hSW125.wr' hk130.1 hk130.2.1 (fun _ _ h => List.mem_append_left _ (h))
      have hbs132 : ∀ b, b < w90.heap.size → b ∈ [b39] → b ∈ ([b39] ++ F31) := fun b hlt hb => (hk130.2.2 b hb).elim ((fun _ _ h => List.mem_append_left _ (h)) b hlt) (fun h => absurd hlt (Nat.not_lt.2 (Nat.le_trans hSW125.size h)))
      refine WL.nil (WH.ret hSW131 ?_)
      refine WH.done (by kernel_rfl) ?_
      exact fun a ha => hJ56 (u118) (v119) (F120) _ hF hB128 (hS129.sel [3, 0, 2, 1] rfl) a (ha.sub ⟨rfl, rfl, rfl, trivial⟩)
    ·
      obtain ⟨u133, hu133, hF⟩ := bindE hF
      refine wl_call rfl Try.call171 (C_spec_chOwn w90 x1 v1_0 (h1_0.ro hB92) _ hu133) rfl ?_
      rintro _ w136 ⟨v134, F135, rfl, hb137, hM140⟩
      refine ⟨_, rfl, ?_⟩
      have hB138 := hB92.trans (hb137.mono hB92.size)
      have hn141 : ∀ b ∈ F135, w90.heap.size ≤ b := fun b hb => Nat.le_trans hSW94.size ((hM140.get (i := 0) rfl).2.1 b hb).1
      have hS139 := hS93.join hb137 hM140 hB92.size
      have hSW142 := hSW94.ext hb137
      have hbS143 : Below w90.heap.size w90 w136 := hb137
      refine WL.nil (WH.ret hSW142 ?_)
      refine WH.many (is := [1, 4]) (by kernel_rfl) rfl ?_
      refine List.forall_mem_cons.2 ⟨⟨_, rfl, ?_⟩, List.forall_mem_cons.2 ⟨⟨_, rfl, ?_⟩, fun _ h => by cases h⟩⟩
      ·
        refine wl_load_blk (i := 1) (vs := [v30]) (v := v30) tf_51 rfl rfl hS139 rfl rfl rfl ?_
        refine WL.nil (WH.ret hSW142 ?_)
        refine WH.one (i := 4) (by kernel_rfl) rfl ?_
        have hq144 := hS139.sel [0, 1, 2, 3, 4, 5] rfl
        have hq145 := hq144.head (r' := R.cel ty_63 F135 [v134] u133) (rfl) fun _ h0 => ⟨_, rfl, h0⟩
        refine wl_lit1 (e := ty_63) (vs := [v134]) Try.underlying51 rfl rfl (cells_one (hS139.own_ro (i := 0) rfl).one) rfl hB138 hq145 ?_
        intro v146 F147 w148 hb149 hf150 hB151 hS152
        have hn153 : ∀ b ∈ F147, w90.heap.size ≤ b := fun b hb => (hf150 b hb).elim (hn141 b) fun h => Nat.le_trans hSW142.size h
        have hSW154 := hSW142.ext hb149
        have hbS155 : Below w90.heap.size w90 w148 := hbS143.trans (hb149.mono hbS143.size)
        refine WL.nil (WH.ret hSW154 ?_)
        refine WH.one (i := 5) (by kernel_rfl) rfl ?_
        obtain ⟨u156, hu156, hF⟩ := bindE hF
        refine wl_appendn (e := ty_63) Try.underlying51 rfl rfl rfl hB151 (hS152.sel [2, 0, 1, 3, 4, 5] rfl) hu156 ?_
        intro v157 F158 w159 hk160 hB161 hS162
        have hSW163 := hSW154.wr' hk160.1 hk160.2.1 (fun _ _ h => List.mem_append_right _ h)
        have hbs164 : ∀ b, b < w90.heap.size → b ∈ F158 → b ∈ ([b39] ++ F31) := fun b hlt hb => (hk160.2.2 b hb).elim ((fun _ _ h => List.mem_append_right _ h) b hlt) (fun h => h.elim (fun h => absurd hlt (Nat.not_lt.2 (hn153 b h))) fun h => absurd hlt (Nat.not_lt.2 (Nat.le_trans hSW154.size h)))
        refine WL.nil (WH.ret hSW163 ?_)
        refine WH.takex (i := 6) rfl (by kernel_rfl) (by kernel_rfl) (by kernel_rfl) hP hSW163 ?_
        refine pr_field (o := 0) (off' := 0) ff_53_0 rfl rfl rfl ?_
        refine WH.one (i := 7) (by kernel_rfl) rfl ?_
        refine wl_store_blk (i := 1) (vs := [v157]) (cs' := [v157, v32, (.int .i64 u29.2.2.1), (.int .i64 u29.2.2.2)]) tf_51 rfl rfl (cells_one (hS162.own_ro (i := 0) rfl).one) rfl hB161 hS162 rfl rfl ⟨(hS162.own_ro (i := 0) rfl).one, trivial⟩ rfl ?_
        intro w165 hk168 hB166 hS167
        have hSW169 := hSW163.wr' hk168.1 hk168.2.1 (fun _ _ h => List.mem_append_left _ (h))
        have hbs170 : ∀ b, b < w90.heap.size → b ∈ [b39] → b ∈ ([b39] ++ F31) := fun b hlt hb => (hk168.2.2 b hb).elim ((fun _ _ h => List.mem_append_left _ (h)) b hlt) (fun h => absurd hlt (Nat.not_lt.2 (Nat.le_trans hSW163.size h)))
        refine WL.nil (WH.ret hSW169 ?_)
        refine WH.done (by kernel_rfl) ?_
        exact fun a ha => hJ56 (u156) (v157) (F158) _ hF hB166 (hS167.sel [3, 0, 2, 1] rfl) a (ha.sub ⟨rfl, rfl, rfl, trivial⟩)
      ·
        have hq171 := hS139.sel [0, 1, 2, 3, 4, 5] rfl
        have hq172 := hq171.head (r' := R.cel ty_63 F135 [v134] u133) (rfl) fun _ h0 => ⟨_, rfl, h0⟩
        refine wl_lit1 (e := ty_63) (vs := [v134]) Try.underlying51 rfl rfl (cells_one (hS139.own_ro (i := 0) rfl).one) rfl hB138 hq172 ?_
        intro v173 F174 w175 hb176 hf177 hB178 hS179
        have hn180 : ∀ b ∈ F174, w90.heap.size ≤ b := fun b hb => (hf177 b hb).elim (hn141 b) fun h => Nat.le_trans hSW142.size h
        have hSW181 := hSW142.ext hb176
        have hbS182 : Below w90.heap.size w90 w175 := hbS143.trans (hb176.mono hbS143.size)
        refine WL.nil (WH.ret hSW181 ?_)
        refine WH.one (i := 1) (by kernel_rfl) rfl ?_
        refine wl_load_blk (i := 1) (vs := [v30]) (v := v30) tf_51 rfl rfl hS179 rfl rfl rfl ?_
        refine WL.nil (WH.ret hSW181 ?_)
        refine WH.one (i := 5) (by kernel_rfl) rfl ?_
        obtain ⟨u183, hu183, hF⟩ := bindE hF
        refine wl_appendn (e := ty_63) Try.underlying51 rfl rfl rfl hB178 (hS179.sel [2, 0, 1, 3, 4, 5] rfl) hu183 ?_
        intro v184 F185 w186 hk187 hB188 hS189
        have hSW190 := hSW181.wr' hk187.1 hk187.2.1 (fun _ _ h => List.mem_append_right _ h)
        have hbs191 : ∀ b, b < w90.heap.size → b ∈ F185 → b ∈ ([b39] ++ F31) := fun b hlt hb => (hk187.2.2 b hb).elim ((fun _ _ h => List.mem_append_right _ h) b hlt) (fun h => h.elim (fun h => absurd hlt (Nat.not_lt.2 (hn180 b h))) fun h => absurd hlt (Nat.not_lt.2 (Nat.le_trans hSW181.size h)))
        refine WL.nil (WH.ret hSW190 ?_)
        refine WH.takex (i := 6) rfl (by kernel_rfl) (by kernel_rfl) (by kernel_rfl) hP hSW190 ?_
        refine pr_field (o := 0) (off' := 0) ff_53_0 rfl rfl rfl ?_
        refine WH.one (i := 7) (by kernel_rfl) rfl ?_
        refine wl_store_blk (i := 1) (vs := [v184]) (cs' := [v184, v32, (.int .i64 u29.2.2.1), (.int .i64 u29.2.2.2)]) tf_51 rfl rfl (cells_one (hS189.own_ro (i := 0) rfl).one) rfl hB188 hS189 rfl rfl ⟨(hS189.own_ro (i := 0) rfl).one, trivial⟩ rfl ?_
        intro w192 hk195 hB193 hS194
        have hSW196 := hSW190.wr' hk195.1 hk195.2.1 (fun _ _ h => List.mem_append_left _ (h))
        have hbs197 : ∀ b, b < w90.heap.size → b ∈ [b39] → b ∈ ([b39] ++ F31) := fun b hlt hb => (hk195.2.2 b hb).elim ((fun _ _ h => List.mem_append_left _ (h)) b hlt) (fun h => absurd hlt (Nat.not_lt.2 (Nat.le_trans hSW190.size h)))
        refine WL.nil (WH.ret hSW196 ?_)
        refine WH.done (by kernel_rfl) ?_
        exact fun a ha => hJ56 (u183) (v184) (F185) _ hF hB193 (hS194.sel [3, 0, 2, 1] rfl) a (ha.sub ⟨rfl, rfl, rfl, trivial⟩)
theorem C_laws_pSameSpots (w0 : World) (x0 : (List (Int × Int))) (v0_0 : Value) (h0_0 : rdS ty_68 (· < w0.heap.size) w0 v0_0 x0) (x1 : (List (Int × Int))) (v1_0 : Value) (h1_0 : rdS ty_68 (· < w0.heap.size) w0 v1_0 x1) (r : Bool) (hF : F_laws_pSameSpots x0 x1 = some r) :
    Calls Try.prog 99 [v0_0, v1_0].toArray w0 fun e w' => e = .returned (.bool r) ∧ Below w0.heap.size w0 w' := by
  refine calls_mk' Try.func99 rfl Try.ntmps99 rfl rfl fun Q hQ hP => ?_
  have hB : Below w0.heap.size w0 w0 := Below.refl _ _
  have hS : Sep w0.heap.size w0 [] := Sep.nil _ _
  unfold F_laws_pSameSpots at hF
  refine W.seq fun K1 hK1 => ?_
  refine W.region ?_
  refine wl_assign rfl rfl ?_
  refine WL.nil ?_
  refine fun a ha => hK1 _ _ ?_ a ha
  refine W.seq fun K2 hK2 => ?_
  refine W.seq fun K3 hK3 => ?_
  refine W.region ?_
  refine wl_move rfl rfl ?_
  refine wl_lenr (e := ty_68) (l := x0) Try.underlying63 rfl rfl h0_0 ?_
  refine wl_move rfl rfl ?_
  refine wl_lenr (e := ty_68) (l := x1) Try.underlying63 rfl rfl h1_0 ?_
  refine wl_neq rfl rfl rfl ?_
  refine WL.nil ?_
  refine fun a ha => hK3 _ _ ?_ a ha
  refine W.cond rfl (fun h4 => ?_) (fun h4 => ?_)
  · replace hF := ifP h4 hF
    refine W.seq fun K5 hK5 => ?_
    refine W.region ?_
    refine wl_assign rfl rfl ?_
    refine WL.nil ?_
    refine fun a ha => hK5 _ _ ?_ a ha
    refine W.ret ?_
    have hr := Option.some.inj hF
    subst hr
    exact rets (vs := [(.bool false)]) hQ rfl ⟨rv_tmp rfl, trivial⟩ ⟨rfl, hB⟩
  · replace hF := ifN h4 hF
    refine W.skip ?_
    refine fun a ha => hK2 _ _ ?_ a ha
    refine W.seq fun K6 hK6 => ?_
    refine W.seq fun K7 hK7 => ?_
    refine W.region ?_
    refine wl_move rfl rfl ?_
    refine wl_lenr (e := ty_68) (l := x0) Try.underlying63 rfl rfl h0_0 ?_
    refine wl_move rfl rfl ?_
    refine WL.nil ?_
    refine fun a ha => hK7 _ _ ?_ a ha
    refine W.block ?_
    refine W.loopk (fun m a w8 => ∃ (y11 : Int), St 26 [(0, v0_0), (1, v1_0), (12, (.int .i64 (List.length x0 : Int))), (13, (.int .i64 y11))] a ∧ Below w0.heap.size w0 w8 ∧ Sep w0.heap.size w8 [] ∧ F_laws_pSameSpots_L1 x0 x1 m y11 = some r) FU ?_ ?_
    ·
      exact fun a ha => ⟨0, ha.sub ⟨rfl, rfl, rfl, rfl, trivial⟩, hB, (hS.sel [] rfl), hF⟩
    ·
      rintro m14 a w8 ⟨y11, ha, hB9, hS10, hF⟩ KL13 hKL13
      refine W.at ?_ ha
      cases m14 with
      | zero => exact noneE hF
      | succ m14 =>
        obtain ⟨nx12, hnx12⟩ : ∃ k, k = F_laws_pSameSpots_L1 x0 x1 m14 := ⟨_, rfl⟩
        rw [F_laws_pSameSpots_L1, ← hnx12] at hF
        refine W.seq fun K15 hK15 => ?_
        refine W.region ?_
        refine wl_lss rfl rfl rfl ?_
        refine WL.nil ?_
        refine fun a ha => hK15 _ _ ?_ a ha
        refine W.seq fun K16 hK16 => ?_
        refine W.cond rfl (fun h17 => ?_) (fun h17 => ?_)
        · replace hF := ifP h17 hF
          refine W.skip ?_
          refine fun a ha => hK16 _ _ ?_ a ha
          refine W.seq fun K18 hK18 => ?_
          refine W.block ?_
          refine W.seq fun K19 hK19 => ?_
          refine W.region ?_
          refine wl_move rfl rfl ?_
          refine wl_assign rfl rfl ?_
          refine WL.nil ?_
          refine fun a ha => hK19 _ _ ?_ a ha
          refine W.seq fun K20 hK20 => ?_
          refine W.regionH mixed_ [] hB9 hS10 ?_
          intro w21 hb22 hB23 hS24
          have hSW25 := KeepX.refl w21 []
          refine WH.takex (i := 0) rfl (by kernel_rfl) (by kernel_rfl) (by kernel_rfl) hP hSW25 ?_
          refine pr_move rfl rfl ?_
          refine WH.takex (i := 1) rfl (by kernel_rfl) (by kernel_rfl) (by kernel_rfl) hP hSW25 ?_
          refine pr_move rfl rfl ?_
          obtain ⟨u26, hu26, hF⟩ := bindE hF
          refine WH.takex (i := 2) rfl (by kernel_rfl) (by kernel_rfl) (by kernel_rfl) hP hSW25 ?_
          refine pr_index (e := ty_68) Try.underlying63 rfl rfl rfl h0_0 hu26 ?_
          rintro p27 _ rfl hp28
          refine WH.takex (i := 3) rfl (by kernel_rfl) (by kernel_rfl) (by kernel_rfl) hP hSW25 ?_
          refine pr_load_p (vs := [(.int .i64 u26.1), (.int .i64 u26.2)]) (v := (.agg #[(.int .i64 u26.1), (.int .i64 u26.2)])) tf_68 rfl rfl (hp28.kx hB23 (by simp)) rfl rfl ?_
          refine WH.takex (i := 4) rfl (by kernel_rfl) (by kernel_rfl) (by kernel_rfl) hP hSW25 ?_
          refine pr_move rfl rfl ?_
          refine WH.takex (i := 5) rfl (by kernel_rfl) (by kernel_rfl) (by kernel_rfl) hP hSW25 ?_
          refine pr_move rfl rfl ?_
          obtain ⟨u29, hu29, hF⟩ := bindE hF
          refine WH.takex (i := 6) rfl (by kernel_rfl) (by kernel_rfl) (by kernel_rfl) hP hSW25 ?_
          refine pr_index (e := ty_68) Try.underlying63 rfl rfl rfl h1_0 hu29 ?_
          rintro p30 _ rfl hp31
          refine WH.takex (i := 7) rfl (by kernel_rfl) (by kernel_rfl) (by kernel_rfl) hP hSW25 ?_
          refine pr_load_p (vs := [(.int .i64 u29.1), (.int .i64 u29.2)]) (v := (.agg #[(.int .i64 u29.1), (.int .i64 u29.2)])) tf_68 rfl rfl (hp31.kx hB23 (by simp)) rfl rfl ?_
          refine WH.takex (i := 8) rfl (by kernel_rfl) (by kernel_rfl) (by kernel_rfl) hP hSW25 ?_
          refine pr_nes Try.eqGuardType68 (eq_68 u26 u29) rfl rfl rfl ?_
          refine WH.done (by kernel_rfl) ?_
          refine fun a ha => hK20 _ _ ?_ a ha
          refine W.cond rfl (fun h32 => ?_) (fun h32 => ?_)
          · replace hF := ifP h32 hF
            refine W.seq fun K33 hK33 => ?_
            refine W.region ?_
            refine wl_assign rfl rfl ?_
            refine WL.nil ?_
            refine fun a ha => hK33 _ _ ?_ a ha
            refine W.ret ?_
            have hr := Option.some.inj hF
            subst hr
            exact rets (vs := [(.bool false)]) hQ rfl ⟨rv_tmp rfl, trivial⟩ ⟨rfl, hB23⟩
          · replace hF := ifN h32 hF
            refine W.skip ?_
            refine fun a ha => hK18 _ _ ?_ a ha
            refine W.region ?_
            refine wl_add rfl rfl rfl ?_
            refine wl_move rfl rfl ?_
            refine WL.nil ?_
            rw [hnx12] at hF
            exact fun a ha => hKL13 a _ m14 (Nat.lt_succ_self m14) ⟨(w64 (y11 + 1)), ha.sub ⟨rfl, rfl, rfl, rfl, trivial⟩, hB23, (hS24.sel [] rfl), hF⟩
        · replace hF := ifN h17 hF
          refine W.exit ?_
          refine fun a ha => hK6 _ _ ?_ a ha
          refine W.seq fun K34 hK34 => ?_
          refine W.region ?_
          refine wl_assign rfl rfl ?_
          refine WL.nil ?_
          refine fun a ha => hK34 _ _ ?_ a ha
          refine W.ret ?_
          have hr := Option.some.inj hF
          subst hr
          exact rets (vs := [(.bool true)]) hQ rfl ⟨rv_tmp rfl, trivial⟩ ⟨rfl, hB9⟩
theorem C_laws_pSameCharts (w0 : World) (x0 : (List (List (Int × Int)))) (v0_0 : Value) (h0_0 : rdS ty_63 (· < w0.heap.size) w0 v0_0 x0) (x1 : (List (List (Int × Int)))) (v1_0 : Value) (h1_0 : rdS ty_63 (· < w0.heap.size) w0 v1_0 x1) (r : Bool) (hF : F_laws_pSameCharts x0 x1 = some r) :
    Calls Try.prog 85 [v0_0, v1_0].toArray w0 fun e w' => e = .returned (.bool r) ∧ Below w0.heap.size w0 w' := by
  refine calls_mk' Try.func85 rfl Try.ntmps85 rfl rfl fun Q hQ hP => ?_
  have hB : Below w0.heap.size w0 w0 := Below.refl _ _
  have hS : Sep w0.heap.size w0 [] := Sep.nil _ _
  unfold F_laws_pSameCharts at hF
  refine W.seq fun K1 hK1 => ?_
  refine W.region ?_
  refine wl_assign rfl rfl ?_
  refine WL.nil ?_
  refine fun a ha => hK1 _ _ ?_ a ha
  refine W.seq fun K2 hK2 => ?_
  refine W.seq fun K3 hK3 => ?_
  refine W.region ?_
  refine wl_move rfl rfl ?_
  refine wl_lenr (e := ty_63) (l := x0) Try.underlying51 rfl rfl h0_0 ?_
  refine wl_move rfl rfl ?_
  refine wl_lenr (e := ty_63) (l := x1) Try.underlying51 rfl rfl h1_0 ?_
  refine wl_neq rfl rfl rfl ?_
  refine WL.nil ?_
  refine fun a ha => hK3 _ _ ?_ a ha
  refine W.cond rfl (fun h4 => ?_) (fun h4 => ?_)
  · replace hF := ifP h4 hF
    refine W.seq fun K5 hK5 => ?_
    refine W.region ?_
    refine wl_assign rfl rfl ?_
    refine WL.nil ?_
    refine fun a ha => hK5 _ _ ?_ a ha
    refine W.ret ?_
    have hr := Option.some.inj hF
    subst hr
    exact rets (vs := [(.bool false)]) hQ rfl ⟨rv_tmp rfl, trivial⟩ ⟨rfl, hB⟩
  · replace hF := ifN h4 hF
    refine W.skip ?_
    refine fun a ha => hK2 _ _ ?_ a ha
    refine W.seq fun K6 hK6 => ?_
    refine W.seq fun K7 hK7 => ?_
    refine W.region ?_
    refine wl_move rfl rfl ?_
    refine wl_lenr (e := ty_63) (l := x0) Try.underlying51 rfl rfl h0_0 ?_
    refine wl_move rfl rfl ?_
    refine WL.nil ?_
    refine fun a ha => hK7 _ _ ?_ a ha
    refine W.block ?_
    refine W.loopk (fun m a w8 => ∃ (y11 : Int), St 27 [(0, v0_0), (1, v1_0), (12, (.int .i64 (List.length x0 : Int))), (13, (.int .i64 y11))] a ∧ Below w0.heap.size w0 w8 ∧ Sep w0.heap.size w8 [] ∧ F_laws_pSameCharts_L1 x0 x1 m y11 = some r) FU ?_ ?_
    ·
      exact fun a ha => ⟨0, ha.sub ⟨rfl, rfl, rfl, rfl, trivial⟩, hB, (hS.sel [] rfl), hF⟩
    ·
      rintro m14 a w8 ⟨y11, ha, hB9, hS10, hF⟩ KL13 hKL13
      refine W.at ?_ ha
      cases m14 with
      | zero => exact noneE hF
      | succ m14 =>
        obtain ⟨nx12, hnx12⟩ : ∃ k, k = F_laws_pSameCharts_L1 x0 x1 m14 := ⟨_, rfl⟩
        rw [F_laws_pSameCharts_L1, ← hnx12] at hF
        refine W.seq fun K15 hK15 => ?_
        refine W.region ?_
        refine wl_lss rfl rfl rfl ?_
        refine WL.nil ?_
        refine fun a ha => hK15 _ _ ?_ a ha
        refine W.seq fun K16 hK16 => ?_
        refine W.cond rfl (fun h17 => ?_) (fun h17 => ?_)
        · replace hF := ifP h17 hF
          refine W.skip ?_
          refine fun a ha => hK16 _ _ ?_ a ha
          refine W.seq fun K18 hK18 => ?_
          refine W.block ?_
          refine W.seq fun K19 hK19 => ?_
          refine W.region ?_
          refine wl_move rfl rfl ?_
          refine wl_assign rfl rfl ?_
          refine WL.nil ?_
          refine fun a ha => hK19 _ _ ?_ a ha
          refine W.seq fun K20 hK20 => ?_
          refine W.regionH mixed_ [] hB9 hS10 ?_
          intro w21 hb22 hB23 hS24
          have hSW25 := KeepX.refl w21 []
          refine WH.takex (i := 0) rfl (by kernel_rfl) (by kernel_rfl) (by kernel_rfl) hP hSW25 ?_
          refine pr_move rfl rfl ?_
          refine WH.takex (i := 1) rfl (by kernel_rfl) (by kernel_rfl) (by kernel_rfl) hP hSW25 ?_
          refine pr_move rfl rfl ?_
          obtain ⟨u26, hu26, hF⟩ := bindE hF
          refine WH.takex (i := 2) rfl (by kernel_rfl) (by kernel_rfl) (by kernel_rfl) hP hSW25 ?_
          refine pr_index (e := ty_63) Try.underlying51 rfl rfl rfl h0_0 hu26 ?_
          rintro p27 _ ⟨v29, rfl, hv30⟩ hp28
          refine WH.takex (i := 3) rfl (by kernel_rfl) (by kernel_rfl) (by kernel_rfl) hP hSW25 ?_
          refine pr_load_p (vs := [v29]) (v := v29) tf_63 rfl rfl (hp28.kx hB23 (by simp)) rfl rfl ?_
          refine WH.takex (i := 4) rfl (by kernel_rfl) (by kernel_rfl) (by kernel_rfl) hP hSW25 ?_
          refine pr_move rfl rfl ?_
          refine WH.takex (i := 5) rfl (by kernel_rfl) (by kernel_rfl) (by kernel_rfl) hP hSW25 ?_
          refine pr_move rfl rfl ?_
          obtain ⟨u31, hu31, hF⟩ := bindE hF
          refine WH.takex (i := 6) rfl (by kernel_rfl) (by kernel_rfl) (by kernel_rfl) hP hSW25 ?_
          refine pr_index (e := ty_63) Try.underlying51 rfl rfl rfl h1_0 hu31 ?_
          rintro p32 _ ⟨v34, rfl, hv35⟩ hp33
          refine WH.takex (i := 7) rfl (by kernel_rfl) (by kernel_rfl) (by kernel_rfl) hP hSW25 ?_
          refine pr_load_p (vs := [v34]) (v := v34) tf_63 rfl rfl (hp33.kx hB23 (by simp)) rfl rfl ?_
          refine WH.one (i := 8) (by kernel_rfl) rfl ?_
          obtain ⟨u36, hu36, hF⟩ := bindE hF
          refine wl_call rfl Try.call99 (C_laws_pSameSpots w21 u26 v29 (hv30.ro hB23) u31 v34 (hv35.ro hB23) _ hu36) rfl ?_
          rintro _ w37 ⟨rfl, hb38⟩
          refine ⟨_, rfl, ?_⟩
          have hB39 := hB23.trans (hb38.mono hB23.size)
          have hS40 := hS24.below hb38
          have hSW42 := hSW25.ext hb38
          refine WL.nil (WH.ret hSW42 ?_)
          refine WH.takex (i := 9) rfl (by kernel_rfl) (by kernel_rfl) (by kernel_rfl) hP hSW42 ?_
          refine pr_not rfl rfl ?_
          refine WH.done (by kernel_rfl) ?_
          refine fun a ha => hK20 _ _ ?_ a ha
          refine W.cond rfl (fun h43 => ?_) (fun h43 => ?_)
          · replace hF := ifP h43 hF
            refine W.seq fun K44 hK44 => ?_
            refine W.region ?_
            refine wl_assign rfl rfl ?_
            refine WL.nil ?_
            refine fun a ha => hK44 _ _ ?_ a ha
            refine W.ret ?_
            have hr := Option.some.inj hF
            subst hr
            exact rets (vs := [(.bool false)]) hQ rfl ⟨rv_tmp rfl, trivial⟩ ⟨rfl, hB39⟩
          · replace hF := ifN h43 hF
            refine W.skip ?_
            refine fun a ha => hK18 _ _ ?_ a ha
            refine W.region ?_
            refine wl_add rfl rfl rfl ?_
            refine wl_move rfl rfl ?_
            refine WL.nil ?_
            rw [hnx12] at hF
            exact fun a ha => hKL13 a _ m14 (Nat.lt_succ_self m14) ⟨(w64 (y11 + 1)), ha.sub ⟨rfl, rfl, rfl, rfl, trivial⟩, hB39, (hS40.sel [] rfl), hF⟩
        · replace hF := ifN h17 hF
          refine W.exit ?_
          refine fun a ha => hK6 _ _ ?_ a ha
          refine W.seq fun K45 hK45 => ?_
          refine W.region ?_
          refine wl_assign rfl rfl ?_
          refine WL.nil ?_
          refine fun a ha => hK45 _ _ ?_ a ha
          refine W.ret ?_
          have hr := Option.some.inj hF
          subst hr
          exact rets (vs := [(.bool true)]) hQ rfl ⟨rv_tmp rfl, trivial⟩ ⟨rfl, hB9⟩
theorem C_laws_sameInts (w0 : World) (x0 : (List Int)) (v0_0 : Value) (h0_0 : rdS ty_3 (· < w0.heap.size) w0 v0_0 x0) (x1 : (List Int)) (v1_0 : Value) (h1_0 : rdS ty_3 (· < w0.heap.size) w0 v1_0 x1) (r : Bool) (hF : F_laws_sameInts x0 x1 = some r) :
    Calls Try.prog 71 [v0_0, v1_0].toArray w0 fun e w' => e = .returned (.bool r) ∧ Below w0.heap.size w0 w' := by
  refine calls_mk' Try.func71 rfl Try.ntmps71 rfl rfl fun Q hQ hP => ?_
  have hB : Below w0.heap.size w0 w0 := Below.refl _ _
  have hS : Sep w0.heap.size w0 [] := Sep.nil _ _
  unfold F_laws_sameInts at hF
  refine W.seq fun K1 hK1 => ?_
  refine W.region ?_
  refine wl_assign rfl rfl ?_
  refine WL.nil ?_
  refine fun a ha => hK1 _ _ ?_ a ha
  refine W.seq fun K2 hK2 => ?_
  refine W.seq fun K3 hK3 => ?_
  refine W.region ?_
  refine wl_move rfl rfl ?_
  refine wl_lenr (e := ty_3) (l := x0) Try.underlying29 rfl rfl h0_0 ?_
  refine wl_move rfl rfl ?_
  refine wl_lenr (e := ty_3) (l := x1) Try.underlying29 rfl rfl h1_0 ?_
  refine wl_neq rfl rfl rfl ?_
  refine WL.nil ?_
  refine fun a ha => hK3 _ _ ?_ a ha
  refine W.cond rfl (fun h4 => ?_) (fun h4 => ?_)
  · replace hF := ifP h4 hF
    refine W.seq fun K5 hK5 => ?_
    refine W.region ?_
    refine wl_assign rfl rfl ?_
    refine WL.nil ?_
    refine fun a ha => hK5 _ _ ?_ a ha
    refine W.ret ?_
    have hr := Option.some.inj hF
    subst hr
    exact rets (vs := [(.bool false)]) hQ rfl ⟨rv_tmp rfl, trivial⟩ ⟨rfl, hB⟩
  · replace hF := ifN h4 hF
    refine W.skip ?_
    refine fun a ha => hK2 _ _ ?_ a ha
    refine W.seq fun K6 hK6 => ?_
    refine W.seq fun K7 hK7 => ?_
    refine W.region ?_
    refine wl_move rfl rfl ?_
    refine wl_lenr (e := ty_3) (l := x0) Try.underlying29 rfl rfl h0_0 ?_
    refine wl_move rfl rfl ?_
    refine WL.nil ?_
    refine fun a ha => hK7 _ _ ?_ a ha
    refine W.block ?_
    refine W.loopk (fun m a w8 => ∃ (y11 : Int), St 26 [(0, v0_0), (1, v1_0), (12, (.int .i64 (List.length x0 : Int))), (13, (.int .i64 y11))] a ∧ Below w0.heap.size w0 w8 ∧ Sep w0.heap.size w8 [] ∧ F_laws_sameInts_L1 x0 x1 m y11 = some r) FU ?_ ?_
    ·
      exact fun a ha => ⟨0, ha.sub ⟨rfl, rfl, rfl, rfl, trivial⟩, hB, (hS.sel [] rfl), hF⟩
    ·
      rintro m14 a w8 ⟨y11, ha, hB9, hS10, hF⟩ KL13 hKL13
      refine W.at ?_ ha
      cases m14 with
      | zero => exact noneE hF
      | succ m14 =>
        obtain ⟨nx12, hnx12⟩ : ∃ k, k = F_laws_sameInts_L1 x0 x1 m14 := ⟨_, rfl⟩
        rw [F_laws_sameInts_L1, ← hnx12] at hF
        refine W.seq fun K15 hK15 => ?_
        refine W.region ?_
        refine wl_lss rfl rfl rfl ?_
        refine WL.nil ?_
        refine fun a ha => hK15 _ _ ?_ a ha
        refine W.seq fun K16 hK16 => ?_
        refine W.cond rfl (fun h17 => ?_) (fun h17 => ?_)
        · replace hF := ifP h17 hF
          refine W.skip ?_
          refine fun a ha => hK16 _ _ ?_ a ha
          refine W.seq fun K18 hK18 => ?_
          refine W.block ?_
          refine W.seq fun K19 hK19 => ?_
          refine W.region ?_
          refine wl_move rfl rfl ?_
          refine wl_assign rfl rfl ?_
          refine WL.nil ?_
          refine fun a ha => hK19 _ _ ?_ a ha
          refine W.seq fun K20 hK20 => ?_
          refine W.regionH mixed_ [] hB9 hS10 ?_
          intro w21 hb22 hB23 hS24
          have hSW25 := KeepX.refl w21 []
          refine WH.takex (i := 0) rfl (by kernel_rfl) (by kernel_rfl) (by kernel_rfl) hP hSW25 ?_
          refine pr_move rfl rfl ?_
          refine WH.takex (i := 1) rfl (by kernel_rfl) (by kernel_rfl) (by kernel_rfl) hP hSW25 ?_
          refine pr_move rfl rfl ?_
          obtain ⟨u26, hu26, hF⟩ := bindE hF
          refine WH.takex (i := 2) rfl (by kernel_rfl) (by kernel_rfl) (by kernel_rfl) hP hSW25 ?_
          refine pr_index (e := ty_3) Try.underlying29 rfl rfl rfl h0_0 hu26 ?_
          rintro p27 _ rfl hp28
          refine WH.takex (i := 3) rfl (by kernel_rfl) (by kernel_rfl) (by kernel_rfl) hP hSW25 ?_
          refine pr_load_p (vs := [(.int .i64 u26)]) (v := (.int .i64 u26)) tf_3 rfl rfl (hp28.kx hB23 (by simp)) rfl rfl ?_
          refine WH.takex (i := 4) rfl (by kernel_rfl) (by kernel_rfl) (by kernel_rfl) hP hSW25 ?_
          refine pr_move rfl rfl ?_
          refine WH.takex (i := 5) rfl (by kernel_rfl) (by kernel_rfl) (by kernel_rfl) hP hSW25 ?_
          refine pr_move rfl rfl ?_
          obtain ⟨u29, hu29, hF⟩ := bindE hF
          refine WH.takex (i := 6) rfl (by kernel_rfl) (by kernel_rfl) (by kernel_rfl) hP hSW25 ?_
          refine pr_index (e := ty_3) Try.underlying29 rfl rfl rfl h1_0 hu29 ?_
          rintro p30 _ rfl hp31
          refine WH.takex (i := 7) rfl (by kernel_rfl) (by kernel_rfl) (by kernel_rfl) hP hSW25 ?_
          refine pr_load_p (vs := [(.int .i64 u29)]) (v := (.int .i64 u29)) tf_3 rfl rfl (hp31.kx hB23 (by simp)) rfl rfl ?_
          refine WH.takex (i := 8) rfl (by kernel_rfl) (by kernel_rfl) (by kernel_rfl) hP hSW25 ?_
          refine pr_neq rfl rfl rfl ?_
          refine WH.done (by kernel_rfl) ?_
          refine fun a ha => hK20 _ _ ?_ a ha
          refine W.cond rfl (fun h32 => ?_) (fun h32 => ?_)
          · replace hF := ifP h32 hF
            refine W.seq fun K33 hK33 => ?_
            refine W.region ?_
            refine wl_assign rfl rfl ?_
            refine WL.nil ?_
            refine fun a ha => hK33 _ _ ?_ a ha
            refine W.ret ?_
            have hr := Option.some.inj hF
            subst hr
            exact rets (vs := [(.bool false)]) hQ rfl ⟨rv_tmp rfl, trivial⟩ ⟨rfl, hB23⟩
          · replace hF := ifN h32 hF
            refine W.skip ?_
            refine fun a ha => hK18 _ _ ?_ a ha
            refine W.region ?_
            refine wl_add rfl rfl rfl ?_
            refine wl_move rfl rfl ?_
            refine WL.nil ?_
            rw [hnx12] at hF
            exact fun a ha => hKL13 a _ m14 (Nat.lt_succ_self m14) ⟨(w64 (y11 + 1)), ha.sub ⟨rfl, rfl, rfl, rfl, trivial⟩, hB23, (hS24.sel [] rfl), hF⟩
        · replace hF := ifN h17 hF
          refine W.exit ?_
          refine fun a ha => hK6 _ _ ?_ a ha
          refine W.seq fun K34 hK34 => ?_
          refine W.region ?_
          refine wl_assign rfl rfl ?_
          refine WL.nil ?_
          refine fun a ha => hK34 _ _ ?_ a ha
          refine W.ret ?_
          have hr := Option.some.inj hF
          subst hr
          exact rets (vs := [(.bool true)]) hQ rfl ⟨rv_tmp rfl, trivial⟩ ⟨rfl, hB9⟩
theorem C_laws_pSameShow (w0 : World) (x0 : ((List (List (Int × Int))) × (List Int) × Int × Int)) (v0_0 : Value) (h0_0 : rdS ty_63 (· < w0.heap.size) w0 v0_0 x0.1) (v0_1 : Value) (h0_1 : rdS ty_3 (· < w0.heap.size) w0 v0_1 x0.2.1) (x1 : ((List (List (Int × Int))) × (List Int) × Int × Int)) (v1_0 : Value) (h1_0 : rdS ty_63 (· < w0.heap.size) w0 v1_0 x1.1) (v1_1 : Value) (h1_1 : rdS ty_3 (· < w0.heap.size) w0 v1_1 x1.2.1) (r : Bool) (hF : F_laws_pSameShow x0 x1 = some r) :
    Calls Try.prog 58 [(.agg #[v0_0, v0_1, (.int .i64 x0.2.2.1), (.int .i64 x0.2.2.2)]), (.agg #[v1_0, v1_1, (.int .i64 x1.2.2.1), (.int .i64 x1.2.2.2)])].toArray w0 fun e w' => e = .returned (.bool r) ∧ Below w0.heap.size w0 w' := by
  refine calls_mk' Try.func58 rfl Try.ntmps58 rfl rfl fun Q hQ hP => ?_
  have hB : Below w0.heap.size w0 w0 := Below.refl _ _
  have hS : Sep w0.heap.size w0 [] := Sep.nil _ _
  unfold F_laws_pSameShow at hF
  refine W.seq fun K1 hK1 => ?_
  refine W.region ?_
  refine wl_box (cs := [v0_0, v0_1, (.int .i64 x0.2.2.1), (.int .i64 x0.2.2.2)]) rfl rfl rfl hB hS ?_
  intro b2 w3 hb4 hB5 hS6
  refine wl_box (cs := [v1_0, v1_1, (.int .i64 x1.2.2.1), (.int .i64 x1.2.2.2)]) rfl rfl rfl hB5 hS6 ?_
  intro b7 w8 hb9 hB10 hS11
  refine wl_assign rfl rfl ?_
  refine WL.nil ?_
  refine fun a ha => hK1 _ _ ?_ a ha
  refine W.seq fun K12 hK12 => ?_
  obtain ⟨k17, hk17, hF⟩ := jE1 hF
  have hJ18 : ∀ (y16 : Bool) (w13 : World) (_ : k17 y16 = some r) (_ : Below w0.heap.size w0 w13) (_ : Sep w0.heap.size w13 []), ∀ a, St 31 [(4, (.bool y16))] a → K12 a w13 := by
    intro y16 w13 hF hB14 hS15
    subst hk17
    refine fun a ha => hK12 _ _ ?_ a ha
    refine W.ret ?_
    have hr := Option.some.inj hF
    subst hr
    exact rets (vs := [(.bool y16)]) hQ rfl ⟨rv_tmp rfl, trivial⟩ ⟨rfl, hB14⟩
  refine W.region ?_
  refine wl_field (o := 0) (off' := 0) ff_53_0 rfl rfl rfl ?_
  refine wl_load_blk (i := 1) (vs := [v0_0]) (v := v0_0) tf_51 rfl rfl hS11 rfl rfl rfl ?_
  refine wl_field (o := 0) (off' := 0) ff_53_0 rfl rfl rfl ?_
  refine wl_load_blk (i := 0) (vs := [v1_0]) (v := v1_0) tf_51 rfl rfl hS11 rfl rfl rfl ?_
  obtain ⟨u19, hu19, hF⟩ := bindE hF
  refine wl_call rfl Try.call85 (C_laws_pSameCharts w8 x0.1 v0_0 (h0_0.ro hB10) x1.1 v1_0 (h1_0.ro hB10) _ hu19) rfl ?_
  rintro _ w20 ⟨rfl, hb21⟩
  refine ⟨_, rfl, ?_⟩
  have hB22 := hB10.trans (hb21.mono hB10.size)
  have hS23 := hS11.below hb21
  refine wl_move rfl rfl ?_
  rcases bE u19 with h25 | h25
  · replace hF := ifP h25 hF
    refine wl_on rfl rfl h25 ?_
    refine wl_field (o := 1) (off' := 1) ff_53_1 rfl rfl rfl ?_
    refine wl_on rfl rfl h25 ?_
    refine wl_load_blk (i := 1) (vs := [v0_1]) (v := v0_1) tf_29 rfl rfl hS23 rfl rfl rfl ?_
    refine wl_on rfl rfl h25 ?_
    refine wl_field (o := 1) (off' := 1) ff_53_1 rfl rfl rfl ?_
    refine wl_on rfl rfl h25 ?_
    refine wl_load_blk (i := 0) (vs := [v1_1]) (v := v1_1) tf_29 rfl rfl hS23 rfl rfl rfl ?_
    refine wl_on rfl rfl h25 ?_
    obtain ⟨u26, hu26, hF⟩ := bindE hF
    refine wl_call rfl Try.call71 (C_laws_sameInts w20 x0.2.1 v0_1 (h0_1.ro hB22) x1.2.1 v1_1 (h1_1.ro hB22) _ hu26) rfl ?_
    rintro _ w27 ⟨rfl, hb28⟩
    refine ⟨_, rfl, ?_⟩
    have hB29 := hB22.trans (hb28.mono hB22.size)
    have hS30 := hS23.below hb28
    refine wl_pick_t rfl rfl h25 rfl ?_
    refine wl_move rfl rfl ?_
    rcases bE u26 with h32 | h32
    · replace hF := ifP h32 hF
      refine wl_on rfl rfl h32 ?_
      refine wl_field (o := 2) (off' := 2) ff_53_2 rfl rfl rfl ?_
      refine wl_on rfl rfl h32 ?_
      refine wl_load_blk (i := 1) (vs := [(.int .i64 x0.2.2.1)]) (v := (.int .i64 x0.2.2.1)) tf_3 rfl rfl hS30 rfl rfl rfl ?_
      refine wl_on rfl rfl h32 ?_
      refine wl_field (o := 2) (off' := 2) ff_53_2 rfl rfl rfl ?_
      refine wl_on rfl rfl h32 ?_
      refine wl_load_blk (i := 0) (vs := [(.int .i64 x1.2.2.1)]) (v := (.int .i64 x1.2.2.1)) tf_3 rfl rfl hS30 rfl rfl rfl ?_
      refine wl_on rfl rfl h32 ?_
      refine wl_eql rfl rfl rfl ?_
      refine wl_pick_t rfl rfl h32 rfl ?_
      refine wl_move rfl rfl ?_
      rcases bE (x0.2.2.1 == x1.2.2.1) with h33 | h33
      · replace hF := ifP h33 hF
        refine wl_on rfl rfl h33 ?_
        refine wl_field (o := 3) (off' := 3) ff_53_3 rfl rfl rfl ?_
        refine wl_on rfl rfl h33 ?_
        refine wl_load_blk (i := 1) (vs := [(.int .i64 x0.2.2.2)]) (v := (.int .i64 x0.2.2.2)) tf_3 rfl rfl hS30 rfl rfl rfl ?_
        refine wl_on rfl rfl h33 ?_
        refine wl_field (o := 3) (off' := 3) ff_53_3 rfl rfl rfl ?_
        refine wl_on rfl rfl h33 ?_
        refine wl_load_blk (i := 0) (vs := [(.int .i64 x1.2.2.2)]) (v := (.int .i64 x1.2.2.2)) tf_3 rfl rfl hS30 rfl rfl rfl ?_
        refine wl_on rfl rfl h33 ?_
        refine wl_eql rfl rfl rfl ?_
        refine wl_pick_t rfl rfl h33 rfl ?_
        refine wl_assign rfl rfl ?_
        refine WL.nil ?_
        exact fun a ha => hJ18 ((x0.2.2.2 == x1.2.2.2)) _ hF hB29 (hS30.sel [] rfl) a (ha.sub ⟨rfl, trivial⟩)
      · replace hF := ifN h33 hF
        refine wl_off rfl rfl rfl h33 ?_
        refine wl_off rfl rfl rfl h33 ?_
        refine wl_off rfl rfl rfl h33 ?_
        refine wl_off rfl rfl rfl h33 ?_
        refine wl_off rfl rfl rfl h33 ?_
        refine wl_pick_f rfl rfl h33 rfl ?_
        refine wl_assign rfl rfl ?_
        refine WL.nil ?_
        exact fun a ha => hJ18 (false) _ hF hB29 (hS30.sel [] rfl) a (ha.sub ⟨rfl, trivial⟩)
    · replace hF := ifN h32 hF
      refine wl_off rfl rfl rfl h32 ?_
      refine wl_off rfl rfl rfl h32 ?_
      refine wl_off rfl rfl rfl h32 ?_
      refine wl_off rfl rfl rfl h32 ?_
      refine wl_off rfl rfl rfl h32 ?_
      refine wl_pick_f rfl rfl h32 rfl ?_
      refine wl_move rfl rfl ?_
      refine wl_off rfl rfl rfl rfl ?_
      refine wl_off rfl rfl rfl rfl ?_
      refine wl_off rfl rfl rfl rfl ?_
      refine wl_off rfl rfl rfl rfl ?_
      refine wl_off rfl rfl rfl rfl ?_
      refine wl_pick_f rfl rfl rfl rfl ?_
      refine wl_assign rfl rfl ?_
      refine WL.nil ?_
      exact fun a ha => hJ18 (false) _ hF hB29 (hS30.sel [] rfl) a (ha.sub ⟨rfl, trivial⟩)
  · replace hF := ifN h25 hF
    refine wl_off rfl rfl rfl h25 ?_
    refine wl_off rfl rfl rfl h25 ?_
    refine wl_off rfl rfl rfl h25 ?_
    refine wl_off rfl rfl rfl h25 ?_
    refine wl_off rfl rfl rfl h25 ?_
    refine wl_pick_f rfl rfl h25 rfl ?_
    refine wl_move rfl rfl ?_
    refine wl_off rfl rfl rfl rfl ?_
    refine wl_off rfl rfl rfl rfl ?_
    refine wl_off rfl rfl rfl rfl ?_
    refine wl_off rfl rfl rfl rfl ?_
    refine wl_off rfl rfl rfl rfl ?_
    refine wl_pick_f rfl rfl rfl rfl ?_
    refine wl_move rfl rfl ?_
    refine wl_off rfl rfl rfl rfl ?_
    refine wl_off rfl rfl rfl rfl ?_
    refine wl_off rfl rfl rfl rfl ?_
    refine wl_off rfl rfl rfl rfl ?_
    refine wl_off rfl rfl rfl rfl ?_
    refine wl_pick_f rfl rfl rfl rfl ?_
    refine wl_assign rfl rfl ?_
    refine WL.nil ?_
    exact fun a ha => hJ18 (false) _ hF hB22 (hS23.sel [] rfl) a (ha.sub ⟨rfl, trivial⟩)
theorem C_slices_Delete_impl_Spot_impl_Spot__take (w0 : World) (x0 : (List (List (Int × Int)))) (v0_0 : Value) (B0_0 : List Nat) (x1 : Int) (x2 : Int) (hS0 : Sep 0 w0 [R.own ty_63 B0_0 v0_0 x0]) (r : (List (List (Int × Int)))) (hF : F_slices_Delete_impl_Spot_impl_Spot__take x0 x1 x2 = some r) :
    Calls Try.prog 173 [v0_0, (.int .i64 x1), (.int .i64 x2)].toArray w0 fun e w' => ∃ (q0 : Value) (G0 : List Nat), e = .returned q0 ∧ Below 0 (wE w0) w' ∧ Sep 0 w' [R.rest w0 (fps [R.own ty_63 B0_0 v0_0 x0]), R.own ty_63 G0 q0 r] := by
  refine calls_mk' Try.func173 rfl Try.ntmps173 rfl rfl fun Q hQ hP => ?_
  have hB : Below (wE w0).heap.size (wE w0) w0 := wE_below w0
  have hS : Sep (wE w0).heap.size w0 [R.rest w0 (fps [R.own ty_63 B0_0 v0_0 x0]), R.own ty_63 B0_0 v0_0 x0] := hS0.rest
  unfold F_slices_Delete_impl_Spot_impl_Spot__take at hF
  refine W.seq fun K1 hK1 => ?_
  refine W.region ?_
  refine wl_assign rfl rfl ?_
  refine WL.nil ?_
  refine fun a ha => hK1 _ _ ?_ a ha
  refine W.seq fun K2 hK2 => ?_
  refine W.region ?_
  refine wl_move rfl rfl ?_
  refine wl_move rfl rfl ?_
  refine wl_move rfl rfl ?_
  refine wl_move rfl rfl ?_
  refine wl_lenr (e := ty_63) (l := x0) Try.underlying51 rfl rfl (hS.own_ro (i := 1) rfl) ?_
  obtain ⟨u3, hu3, hF⟩ := bindE hF
  refine wl_slice3 (e := ty_63) Try.underlying51 rfl rfl (hS.own_ro (i := 1) rfl) rfl rfl rfl hu3 ?_
  intro v4
  refine WL.nil ?_
  refine fun a ha => hK2 _ _ ?_ a ha
  refine W.seq fun K5 hK5 => ?_
  refine W.seq fun K6 hK6 => ?_
  refine W.region ?_
  refine wl_move rfl rfl ?_
  refine wl_move rfl rfl ?_
  refine wl_eql rfl rfl rfl ?_
  refine WL.nil ?_
  refine fun a ha => hK6 _ _ ?_ a ha
  refine W.cond rfl (fun h7 => ?_) (fun h7 => ?_)
  · replace hF := ifP h7 hF
    refine W.seq fun K8 hK8 => ?_
    refine W.region ?_
    refine wl_move rfl rfl ?_
    refine wl_assign rfl rfl ?_
    refine WL.nil ?_
    refine fun a ha => hK8 _ _ ?_ a ha
    refine W.ret ?_
    have hr := Option.some.inj hF
    subst hr
    exact rets (vs := [v0_0]) hQ rfl ⟨rv_tmp rfl, trivial⟩ ⟨v0_0, B0_0, rfl, hB, hS.sel [0, 1] rfl⟩
  · replace hF := ifN h7 hF
    refine W.skip ?_
    refine fun a ha => hK5 _ _ ?_ a ha
    refine W.seq fun K9 hK9 => ?_
    refine W.region ?_
    refine wl_move rfl rfl ?_
    refine wl_lenr (e := ty_63) (l := x0) Try.underlying51 rfl rfl (hS.own_ro (i := 1) rfl) ?_
    refine wl_assign rfl rfl ?_
    refine WL.nil ?_
    refine fun a ha => hK9 _ _ ?_ a ha
    refine W.seq fun K10 hK10 => ?_
    refine W.regionH mixed_ B0_0 hB hS ?_
    intro w11 hb12 hB13 hS14
    have hSW15 := KeepX.refl w11 B0_0
    refine WH.takex (i := 0) rfl (by kernel_rfl) (by kernel_rfl) (by kernel_rfl) hP hSW15 ?_
    refine pr_move rfl rfl ?_
    refine WH.takex (i := 1) rfl (by kernel_rfl) (by kernel_rfl) (by kernel_rfl) hP hSW15 ?_
    refine pr_move rfl rfl ?_
    obtain ⟨u16, hu16, hF⟩ := bindE hF
    refine WH.takex (i := 2) rfl (by kernel_rfl) (by kernel_rfl) (by kernel_rfl) hP hSW15 ?_
    refine pr_sliceof (e := ty_63) Try.underlying51 rfl rfl (hS14.ok (i := 1) rfl : ownS ty_63 _ _ _ _).rd hu16 (.inl ⟨rfl, rfl⟩) (.inr ⟨_, _, rfl, rfl⟩) ?_
    intro v17 hv20 hs19
    have hv18 := hv20.mono fun b hb => ((hS14.get (i := 1) rfl).2.1 b hb).2
    refine WH.takex (i := 3) rfl (by kernel_rfl) (by kernel_rfl) (by kernel_rfl) hP hSW15 ?_
    refine pr_move rfl rfl ?_
    refine WH.takex (i := 4) rfl (by kernel_rfl) (by kernel_rfl) (by kernel_rfl) hP hSW15 ?_
    refine pr_move rfl rfl ?_
    obtain ⟨u21, hu21, hF⟩ := bindE hF
    refine WH.takex (i := 5) rfl (by kernel_rfl) (by kernel_rfl) (by kernel_rfl) hP hSW15 ?_
    refine pr_sliceof (e := ty_63) Try.underlying51 rfl rfl (hS14.ok (i := 1) rfl : ownS ty_63 _ _ _ _).rd hu21 (.inr ⟨_, _, rfl, rfl⟩) (.inl ⟨rfl, rfl⟩) ?_
    intro v22 hv25 hs24
    have hv23 := hv25.mono fun b hb => ((hS14.get (i := 1) rfl).2.1 b hb).2
    refine WH.one (i := 6) (by kernel_rfl) rfl ?_
    obtain ⟨u26, hu26, hF⟩ := bindE hF
    obtain ⟨hc27, hc28, hc29, hc30⟩ := cutL_some hu26
    refine wl_appendcut (e := ty_63) Try.underlying51 rfl rfl rfl hB13 (hS14.sel [1, 0] rfl) hs19 hs24 hc28 hc29 ?_
    intro v31 F32 w33 hk34 hcap35 hB36 hS37
    have hS38 : Sep (wE w0).heap.size w33 [R.own ty_63 F32 v31 u26, R.rest w0 (fps [R.own ty_63 B0_0 v0_0 x0])] := by rw [hc27]; exact hS37
    have hSW39 := hSW15.wr' hk34.1 hk34.2.1 (fun _ _ h => h)
    have hbs40 : ∀ b, b < w11.heap.size → b ∈ F32 → b ∈ B0_0 := fun b hlt hb => (hk34.2.2 b hb).elim ((fun _ _ h => h) b hlt) (fun h => absurd hlt (Nat.not_lt.2 (Nat.le_trans hSW15.size h)))
    refine WL.nil (WH.ret hSW39 ?_)
    refine WH.takex (i := 7) rfl (by kernel_rfl) (by kernel_rfl) (by kernel_rfl) hP hSW39 ?_
    refine pr_assign rfl rfl ?_
    refine WH.done (by kernel_rfl) ?_
    refine fun a ha => hK10 _ _ ?_ a ha
    refine W.seq fun K41 hK41 => ?_
    refine W.region ?_
    refine wl_move rfl rfl ?_
    refine wl_move rfl rfl ?_
    refine wl_lenr (e := ty_63) (l := u26) Try.underlying51 rfl rfl (hS38.own_ro (i := 0) rfl) ?_
    refine wl_move rfl rfl ?_
    refine wl_slicetail (e := ty_63) Try.underlying51 rfl rfl (hS38.own_ro (i := 0) rfl) rfl rfl (Int.natCast_nonneg _) (Int.ofNat_le.2 hc30) hcap35 ?_
    intro v42 hs43
    refine wl_clear (e := ty_63) Try.underlying51 rfl hB36 (hS38.sel [0, 1] rfl) hs43 hc30 hcap35 ?_
    intro w44 hk45 hB46 hS47
    refine WL.nil ?_
    refine fun a ha => hK41 _ _ ?_ a ha
    refine W.seq fun K48 hK48 => ?_
    refine W.region ?_
    refine wl_move rfl rfl ?_
    refine wl_assign rfl rfl ?_
    refine WL.nil ?_
    refine fun a ha => hK48 _ _ ?_ a ha
    refine W.ret ?_
    have hr := Option.some.inj hF
    subst hr
    exact rets (vs := [v31]) hQ rfl ⟨rv_tmp rfl, trivial⟩ ⟨v31, F32, rfl, hB46, hS47.sel [1, 0] rfl⟩
theorem C_slices_Delete_int_int__take (w0 : World) (x0 : (List Int)) (v0_0 : Value) (B0_0 : List Nat) (x1 : Int) (x2 : Int) (hS0 : Sep 0 w0 [R.own ty_3 B0_0 v0_0 x0]) (r : (List Int)) (hF : F_slices_Delete_int_int__take x0 x1 x2 = some r) :
    Calls Try.prog 174 [v0_0, (.int .i64 x1), (.int .i64 x2)].toArray w0 fun e w' => ∃ (q0 : Value) (G0 : List Nat), e = .returned q0 ∧ Below 0 (wE w0) w' ∧ Sep 0 w' [R.rest w0 (fps [R.own ty_3 B0_0 v0_0 x0]), R.own ty_3 G0 q0 r] := by
  refine calls_mk' Try.func174 rfl Try.ntmps174 rfl rfl fun Q hQ hP => ?_
  have hB : Below (wE w0).heap.size (wE w0) w0 := wE_below w0
  have hS : Sep (wE w0).heap.size w0 [R.rest w0 (fps [R.own ty_3 B0_0 v0_0 x0]), R.own ty_3 B0_0 v0_0 x0] := hS0.rest
  unfold F_slices_Delete_int_int__take at hF
  refine W.seq fun K1 hK1 => ?_
  refine W.region ?_
  refine wl_assign rfl rfl ?_
  refine WL.nil ?_
  refine fun a ha => hK1 _ _ ?_ a ha
  refine W.seq fun K2 hK2 => ?_
  refine W.region ?_
  refine wl_move rfl rfl ?_
  refine wl_move rfl rfl ?_
  refine wl_move rfl rfl ?_
  refine wl_move rfl rfl ?_
  refine wl_lenr (e := ty_3) (l := x0) Try.underlying29 rfl rfl (hS.own_ro (i := 1) rfl) ?_
  obtain ⟨u3, hu3, hF⟩ := bindE hF
  refine wl_slice3 (e := ty_3) Try.underlying29 rfl rfl (hS.own_ro (i := 1) rfl) rfl rfl rfl hu3 ?_
  intro v4
  refine WL.nil ?_
  refine fun a ha => hK2 _ _ ?_ a ha
  refine W.seq fun K5 hK5 => ?_
  refine W.seq fun K6 hK6 => ?_
  refine W.region ?_
  refine wl_move rfl rfl ?_
  refine wl_move rfl rfl ?_
  refine wl_eql rfl rfl rfl ?_
  refine WL.nil ?_
  refine fun a ha => hK6 _ _ ?_ a ha
  refine W.cond rfl (fun h7 => ?_) (fun h7 => ?_)
  · replace hF := ifP h7 hF
    refine W.seq fun K8 hK8 => ?_
    refine W.region ?_
    refine wl_move rfl rfl ?_
    refine wl_assign rfl rfl ?_
    refine WL.nil ?_
    refine fun a ha => hK8 _ _ ?_ a ha
    refine W.ret ?_
    have hr := Option.some.inj hF
    subst hr
    exact rets (vs := [v0_0]) hQ rfl ⟨rv_tmp rfl, trivial⟩ ⟨v0_0, B0_0, rfl, hB, hS.sel [0, 1] rfl⟩
  · replace hF := ifN h7 hF
    refine W.skip ?_
    refine fun a ha => hK5 _ _ ?_ a ha
    refine W.seq fun K9 hK9 => ?_
    refine W.region ?_
    refine wl_move rfl rfl ?_
    refine wl_lenr (e := ty_3) (l := x0) Try.underlying29 rfl rfl (hS.own_ro (i := 1) rfl) ?_
    refine wl_assign rfl rfl ?_
    refine WL.nil ?_
    refine fun a ha => hK9 _ _ ?_ a ha
    refine W.seq fun K10 hK10 => ?_
    refine W.regionH mixed_ B0_0 hB hS ?_
    intro w11 hb12 hB13 hS14
    have hSW15 := KeepX.refl w11 B0_0
    refine WH.takex (i := 0) rfl (by kernel_rfl) (by kernel_rfl) (by kernel_rfl) hP hSW15 ?_
    refine pr_move rfl rfl ?_
    refine WH.takex (i := 1) rfl (by kernel_rfl) (by kernel_rfl) (by kernel_rfl) hP hSW15 ?_
    refine pr_move rfl rfl ?_
    obtain ⟨u16, hu16, hF⟩ := bindE hF
    refine WH.takex (i := 2) rfl (by kernel_rfl) (by kernel_rfl) (by kernel_rfl) hP hSW15 ?_
    refine pr_sliceof (e := ty_3) Try.underlying29 rfl rfl (hS14.ok (i := 1) rfl : ownS ty_3 _ _ _ _).rd hu16 (.inl ⟨rfl, rfl⟩) (.inr ⟨_, _, rfl, rfl⟩) ?_
    intro v17 hv20 hs19
    have hv18 := hv20.mono fun b hb => ((hS14.get (i := 1) rfl).2.1 b hb).2
    refine WH.takex (i := 3) rfl (by kernel_rfl) (by kernel_rfl) (by kernel_rfl) hP hSW15 ?_
    refine pr_move rfl rfl ?_
    refine WH.takex (i := 4) rfl (by kernel_rfl) (by kernel_rfl) (by kernel_rfl) hP hSW15 ?_
    refine pr_move rfl rfl ?_
    obtain ⟨u21, hu21, hF⟩ := bindE hF
    refine WH.takex (i := 5) rfl (by kernel_rfl) (by kernel_rfl) (by kernel_rfl) hP hSW15 ?_
    refine pr_sliceof (e := ty_3) Try.underlying29 rfl rfl (hS14.ok (i := 1) rfl : ownS ty_3 _ _ _ _).rd hu21 (.inr ⟨_, _, rfl, rfl⟩) (.inl ⟨rfl, rfl⟩) ?_
    intro v22 hv25 hs24
    have hv23 := hv25.mono fun b hb => ((hS14.get (i := 1) rfl).2.1 b hb).2
    refine WH.one (i := 6) (by kernel_rfl) rfl ?_
    obtain ⟨u26, hu26, hF⟩ := bindE hF
    obtain ⟨hc27, hc28, hc29, hc30⟩ := cutL_some hu26
    refine wl_appendcut (e := ty_3) Try.underlying29 rfl rfl rfl hB13 (hS14.sel [1, 0] rfl) hs19 hs24 hc28 hc29 ?_
    intro v31 F32 w33 hk34 hcap35 hB36 hS37
    have hS38 : Sep (wE w0).heap.size w33 [R.own ty_3 F32 v31 u26, R.rest w0 (fps [R.own ty_3 B0_0 v0_0 x0])] := by rw [hc27]; exact hS37
    have hSW39 := hSW15.wr' hk34.1 hk34.2.1 (fun _ _ h => h)
    have hbs40 : ∀ b, b < w11.heap.size → b ∈ F32 → b ∈ B0_0 := fun b hlt hb => (hk34.2.2 b hb).elim ((fun _ _ h => h) b hlt) (fun h => absurd hlt (Nat.not_lt.2 (Nat.le_trans hSW15.size h)))
    refine WL.nil (WH.ret hSW39 ?_)
    refine WH.takex (i := 7) rfl (by kernel_rfl) (by kernel_rfl) (by kernel_rfl) hP hSW39 ?_
    refine pr_assign rfl rfl ?_
    refine WH.done (by kernel_rfl) ?_
    refine fun a ha => hK10 _ _ ?_ a ha
    refine W.seq fun K41 hK41 => ?_
    refine W.region ?_
    refine wl_move rfl rfl ?_
    refine wl_move rfl rfl ?_
    refine wl_lenr (e := ty_3) (l := u26) Try.underlying29 rfl rfl (hS38.own_ro (i := 0) rfl) ?_
    refine wl_move rfl rfl ?_
    refine wl_slicetail (e := ty_3) Try.underlying29 rfl rfl (hS38.own_ro (i := 0) rfl) rfl rfl (Int.natCast_nonneg _) (Int.ofNat_le.2 hc30) hcap35 ?_
    intro v42 hs43
    refine wl_clear (e := ty_3) Try.underlying29 rfl hB36 (hS38.sel [0, 1] rfl) hs43 hc30 hcap35 ?_
    intro w44 hk45 hB46 hS47
    refine WL.nil ?_
    refine fun a ha => hK41 _ _ ?_ a ha
    refine W.seq fun K48 hK48 => ?_
    refine W.region ?_
    refine wl_move rfl rfl ?_
    refine wl_assign rfl rfl ?_
    refine WL.nil ?_
    refine fun a ha => hK48 _ _ ?_ a ha
    refine W.ret ?_
    have hr := Option.some.inj hF
    subst hr
    exact rets (vs := [v31]) hQ rfl ⟨rv_tmp rfl, trivial⟩ ⟨v31, F32, rfl, hB46, hS47.sel [1, 0] rfl⟩
theorem C_impl_DropShowChart (w0 : World) (x0 : ((List (List (Int × Int))) × (List Int) × Int × Int)) (v0_0 : Value) (h0_0 : rdS ty_63 (· < w0.heap.size) w0 v0_0 x0.1) (v0_1 : Value) (h0_1 : rdS ty_3 (· < w0.heap.size) w0 v0_1 x0.2.1) (x1 : Int) (r : (((List (List (Int × Int))) × (List Int) × Int × Int) × Bool)) (hF : F_impl_DropShowChart x0 x1 = some r) :
    Calls Try.prog 59 [(.agg #[v0_0, v0_1, (.int .i64 x0.2.2.1), (.int .i64 x0.2.2.2)]), (.int .i64 x1)].toArray w0 fun e w' => ∃ (q0 : Value) (G0 : List Nat) (q1 : Value) (G1 : List Nat), e = .returned (.tuple #[(.agg #[q0, q1, (.int .i64 r.1.2.2.1), (.int .i64 r.1.2.2.2)]), (.bool r.2)]) ∧ Below w0.heap.size w0 w' ∧ Sep w0.heap.size w' [R.own ty_63 G0 q0 r.1.1, R.own ty_3 G1 q1 r.1.2.1] := by
  refine calls_mk' Try.func59 rfl Try.ntmps59 rfl rfl fun Q hQ hP => ?_
  have hB : Below w0.heap.size w0 w0 := Below.refl _ _
  have hS : Sep w0.heap.size w0 [] := Sep.nil _ _
  unfold F_impl_DropShowChart at hF
  refine W.seq fun K1 hK1 => ?_
  refine W.region ?_
  refine wl_box (cs := [v0_0, v0_1, (.int .i64 x0.2.2.1), (.int .i64 x0.2.2.2)]) rfl rfl rfl hB hS ?_
  intro b2 w3 hb4 hB5 hS6
  refine wl_alloc (cs := [(.slice none 0 0), (.slice none 0 0), (.int .i64 0), (.int .i64 0)]) tf_53 rfl rfl hB5 hS6 ?_
  intro b7 w8 hb9 hB10 hS11
  refine wl_assign rfl rfl ?_
  refine WL.nil ?_
  refine fun a ha => hK1 _ _ ?_ a ha
  refine W.seq fun K12 hK12 => ?_
  refine W.seq fun K13 hK13 => ?_
  obtain ⟨k18, hk18, hF⟩ := jE1 hF
  have hJ19 : ∀ (y17 : Bool) (w14 : World) (_ : k18 y17 = some r) (_ : Below w0.heap.size w0 w14) (_ : Sep w0.heap.size w14 [R.blk b2 53 [v0_0, v0_1, (.int .i64 x0.2.2.1), (.int .i64 x0.2.2.2)], R.blk b7 53 [(.slice none 0 0), (.slice none 0 0), (.int .i64 0), (.int .i64 0)]]), ∀ a, St 76 [(1, (.int .i64 x1)), (2, (.pointer (some ⟨b2, 0, none⟩))), (4, (.pointer (some ⟨b7, 0, none⟩))), (19, (.bool y17))] a → K13 a w14 := by
    intro y17 w14 hF hB15 hS16
    subst hk18
    refine fun a ha => hK13 _ _ ?_ a ha
    refine W.cond rfl (fun h20 => ?_) (fun h20 => ?_)
    · replace hF := ifP h20 hF
      refine W.seq fun K21 hK21 => ?_
      refine W.region ?_
      refine wl_build (zs := [(.slice none 0 0), (.slice none 0 0), (.int .i64 0), (.int .i64 0)]) (out := [(.slice none 0 0), (.slice none 0 0), (.int .i64 0), (.int .i64 0)]) (vs := []) (css := []) tf_53 pl_53 rfl rfl rfl rfl rfl ?_
      refine wl_store_blk (i := 1) (vs := [(.slice none 0 0), (.slice none 0 0), (.int .i64 0), (.int .i64 0)]) (cs' := [(.slice none 0 0), (.slice none 0 0), (.int .i64 0), (.int .i64 0)]) tf_53 rfl rfl rfl rfl hB15 hS16 rfl rfl ⟨rfl, rfl, rfl, rfl, trivial⟩ rfl ?_
      intro w22 hk25 hB23 hS24
      refine wl_assign rfl rfl ?_
      refine WL.nil ?_
      refine fun a ha => hK21 _ _ ?_ a ha
      refine W.ret ?_
      have hS26 := hS24.push0 (r := R.own ty_63 [] (.slice none 0 0) []) rfl fun _ => .inl ⟨rfl, rfl, rfl⟩
      have hS27 := hS26.push0 (r := R.own ty_3 [] (.slice none 0 0) []) rfl fun _ => .inl ⟨rfl, rfl, rfl⟩
      have hr := Option.some.inj hF
      subst hr
      exact rets (vs := [(.agg #[(.slice none 0 0), (.slice none 0 0), (.int .i64 0), (.int .i64 0)]), (.bool false)]) hQ rfl ⟨rv_cell (i := 1) tf_53 rfl hS24 rfl rfl rfl, rv_tmp rfl, trivial⟩ ⟨(.slice none 0 0), [], (.slice none 0 0), [], rfl, hB23, hS27.sel [1, 0] rfl⟩
    · replace hF := ifN h20 hF
      refine W.skip ?_
      refine fun a ha => hK12 _ _ ?_ a ha
      refine W.seq fun K28 hK28 => ?_
      refine W.region ?_
      refine wl_load_blk (i := 0) (vs := [v0_0, v0_1, (.int .i64 x0.2.2.1), (.int .i64 x0.2.2.2)]) (v := (.agg #[v0_0, v0_1, (.int .i64 x0.2.2.1), (.int .i64 x0.2.2.2)])) tf_53 rfl rfl hS16 rfl rfl rfl ?_
      obtain ⟨u29, hu29, hF⟩ := bindE hF
      refine wl_call rfl Try.call168 (C_impl_copyShow w14 x0 v0_0 (h0_0.ro hB15) v0_1 (h0_1.ro hB15) _ hu29) rfl ?_
      rintro _ w34 ⟨v30, F31, v32, F33, rfl, hb35, hM38⟩
      refine ⟨_, rfl, ?_⟩
      have hB36 := hB15.trans (hb35.mono hB15.size)
      have hS37 := hS16.join hb35 hM38 hB15.size
      refine wl_alloc (cs := [(.slice none 0 0), (.slice none 0 0), (.int .i64 0), (.int .i64 0)]) tf_53 rfl rfl hB36 hS37 ?_
      intro b39 w40 hb41 hB42 hS43
      refine wl_store_blk (i := 0) (vs := [v30, v32, (.int .i64 u29.2.2.1), (.int .i64 u29.2.2.2)]) (cs' := [v30, v32, (.int .i64 u29.2.2.1), (.int .i64 u29.2.2.2)]) tf_53 rfl rfl rfl rfl hB42 hS43 rfl rfl ⟨(hS43.own_ro (i := 1) rfl).one, (hS43.own_ro (i := 2) rfl).one, rfl, rfl, trivial⟩ rfl ?_
      intro w44 hk47 hB45 hS46
      refine WL.nil ?_
      refine fun a ha => hK28 _ _ ?_ a ha
      refine W.seq fun K48 hK48 => ?_
      refine W.region ?_
      refine wl_field (o := 1) (off' := 1) ff_53_1 rfl rfl rfl ?_
      refine wl_load_blk (i := 0) (vs := [v32]) (v := v32) tf_29 rfl rfl hS46 rfl rfl rfl ?_
      refine wl_lenr (e := ty_3) (l := u29.2.1) Try.underlying29 rfl rfl (hS46.own_ro (i := 2) rfl) ?_
      refine wl_sub rfl rfl rfl ?_
      refine wl_assign rfl rfl ?_
      refine WL.nil ?_
      refine fun a ha => hK48 _ _ ?_ a ha
      refine W.seq fun K49 hK49 => ?_
      refine W.region ?_
      refine wl_field (o := 0) (off' := 0) ff_53_0 rfl rfl rfl ?_
      refine wl_load_blk (i := 0) (vs := [v30]) (v := v30) tf_51 rfl rfl hS46 rfl rfl rfl ?_
      refine wl_move rfl rfl ?_
      refine wl_move rfl rfl ?_
      refine wl_add rfl rfl rfl ?_
      obtain ⟨u50, hu50, hF⟩ := bindE hF
      refine wl_call rfl Try.call173 (C_slices_Delete_impl_Spot_impl_Spot__take w44 u29.1 v30 F31 x1 (w64 (x1 + 1)) (hS46.sel [1] rfl).base0 _ hu50) rfl ?_
      rintro _ w51 ⟨v56, F57, rfl, hE52, hM53⟩
      refine ⟨_, rfl, ?_⟩
      have hB54 := hS46.takeB [1] rfl (M := [R.own ty_63 F31 v30 u29.1]) rfl hB45 hE52 hM53
      have hS55 : Sep w0.heap.size w51 [R.own ty_63 F57 v56 u50, R.blk b39 53 [v30, v32, (.int .i64 u29.2.2.1), (.int .i64 u29.2.2.2)], R.own ty_3 F33 v32 u29.2.1, R.blk b2 53 [v0_0, v0_1, (.int .i64 x0.2.2.1), (.int .i64 x0.2.2.2)], R.blk b7 53 [(.slice none 0 0), (.slice none 0 0), (.int .i64 0), (.int .i64 0)]] := hS46.take [1] [0, 2, 3, 4] rfl (M := [R.own ty_63 F31 v30 u29.1]) rfl hM53 hB45.size
      refine wl_field (o := 0) (off' := 0) ff_53_0 rfl rfl rfl ?_
      refine wl_store_blk (i := 1) (vs := [v56]) (cs' := [v56, v32, (.int .i64 u29.2.2.1), (.int .i64 u29.2.2.2)]) tf_51 rfl rfl (cells_one (hS55.own_ro (i := 0) rfl).one) rfl hB54 hS55 rfl rfl ⟨(hS55.own_ro (i := 0) rfl).one, trivial⟩ rfl ?_
      intro w58 hk61 hB59 hS60
      refine WL.nil ?_
      refine fun a ha => hK49 _ _ ?_ a ha
      refine W.seq fun K62 hK62 => ?_
      obtain ⟨k69, hk69, hF⟩ := jE1 hF
      have hJ70 : ∀ (l66 : (List Int)) (v67 : Value) (F68 : List Nat) (w63 : World) (_ : k69 l66 = some r) (_ : Below w0.heap.size w0 w63) (_ : Sep w0.heap.size w63 [R.blk b7 53 [(.slice none 0 0), (.slice none 0 0), (.int .i64 0), (.int .i64 0)], R.own ty_63 F57 v56 u50, R.own ty_3 F68 v67 l66, R.blk b39 53 [v56, v67, (.int .i64 u29.2.2.1), (.int .i64 u29.2.2.2)]]), ∀ a, St 76 [(4, (.pointer (some ⟨b7, 0, none⟩))), (6, (.pointer (some ⟨b39, 0, none⟩)))] a → K62 a w63 := by
        intro l66 v67 F68 w63 hF hB64 hS65
        subst hk69
        refine fun a ha => hK62 _ _ ?_ a ha
        refine W.seq fun K71 hK71 => ?_
        refine W.region ?_
        refine wl_load_blk (i := 3) (vs := [v56, v67, (.int .i64 u29.2.2.1), (.int .i64 u29.2.2.2)]) (v := (.agg #[v56, v67, (.int .i64 u29.2.2.1), (.int .i64 u29.2.2.2)])) tf_53 rfl rfl hS65 rfl rfl rfl ?_
        obtain ⟨u72, hu72, hF⟩ := bindE hF
        refine wl_call rfl Try.call169 (C_impl_asShow__take w63 (u50, l66, u29.2.2.1, u29.2.2.2) v56 F57 v67 F68 (hS65.sel [1, 2] rfl).base0 _ hu72) rfl ?_
        rintro _ w73 ⟨v78, F79, v80, F81, rfl, hE74, hM75⟩
        refine ⟨_, rfl, ?_⟩
        have hB76 := hS65.takeB [1, 2] rfl (M := [R.own ty_63 F57 v56 u50, R.own ty_3 F68 v67 l66]) rfl hB64 hE74 hM75
        have hS77 : Sep w0.heap.size w73 [R.own ty_63 F79 v78 u72.1.1, R.own ty_3 F81 v80 u72.1.2.1, R.blk b7 53 [(.slice none 0 0), (.slice none 0 0), (.int .i64 0), (.int .i64 0)], R.blk b39 53 [v56, v67, (.int .i64 u29.2.2.1), (.int .i64 u29.2.2.2)]] := hS65.take [1, 2] [0, 3] rfl (M := [R.own ty_63 F57 v56 u50, R.own ty_3 F68 v67 l66]) rfl hM75 hB64.size
        refine wl_extract rfl rfl rfl ?_
        refine wl_extract rfl rfl rfl ?_
        refine wl_store_blk (i := 2) (vs := [v78, v80, (.int .i64 u72.1.2.2.1), (.int .i64 u72.1.2.2.2)]) (cs' := [v78, v80, (.int .i64 u72.1.2.2.1), (.int .i64 u72.1.2.2.2)]) tf_53 rfl rfl rfl rfl hB76 hS77 rfl rfl ⟨(hS77.own_ro (i := 0) rfl).one, (hS77.own_ro (i := 1) rfl).one, rfl, rfl, trivial⟩ rfl ?_
        intro w82 hk85 hB83 hS84
        refine wl_assign rfl rfl ?_
        refine WL.nil ?_
        refine fun a ha => hK71 _ _ ?_ a ha
        refine W.ret ?_
        have hr := Option.some.inj hF
        subst hr
        exact rets (vs := [(.agg #[v78, v80, (.int .i64 u72.1.2.2.1), (.int .i64 u72.1.2.2.2)]), (.bool u72.2)]) hQ rfl ⟨rv_cell (i := 2) tf_53 rfl hS84 rfl rfl rfl, rv_tmp rfl, trivial⟩ ⟨v78, F79, v80, F81, rfl, hB83, hS84.sel [0, 1] rfl⟩
      refine W.block ?_
      refine W.seq fun K86 hK86 => ?_
      refine W.region ?_
      refine wl_move rfl rfl ?_
      refine wl_eql rfl rfl rfl ?_
      refine wl_assign rfl rfl ?_
      refine WL.nil ?_
      refine fun a ha => hK86 _ _ ?_ a ha
      refine W.cond rfl (fun h87 => ?_) (fun h87 => ?_)
      · replace hF := ifP h87 hF
        refine W.region ?_
        refine wl_field (o := 1) (off' := 1) ff_53_1 rfl rfl rfl ?_
        refine wl_load_blk (i := 1) (vs := [v32]) (v := v32) tf_29 rfl rfl hS60 rfl rfl rfl ?_
        obtain ⟨u88, hu88, hF⟩ := bindE hF
        refine wl_call rfl Try.call174 (C_slices_Delete_int_int__take w58 u29.2.1 v32 F33 0 1 (hS60.sel [2] rfl).base0 _ hu88) rfl ?_
        rintro _ w89 ⟨v94, F95, rfl, hE90, hM91⟩
        refine ⟨_, rfl, ?_⟩
        have hB92 := hS60.takeB [2] rfl (M := [R.own ty_3 F33 v32 u29.2.1]) rfl hB59 hE90 hM91
        have hS93 : Sep w0.heap.size w89 [R.own ty_3 F95 v94 u88, R.own ty_63 F57 v56 u50, R.blk b39 53 [v56, v32, (.int .i64 u29.2.2.1), (.int .i64 u29.2.2.2)], R.blk b2 53 [v0_0, v0_1, (.int .i64 x0.2.2.1), (.int .i64 x0.2.2.2)], R.blk b7 53 [(.slice none 0 0), (.slice none 0 0), (.int .i64 0), (.int .i64 0)]] := hS60.take [2] [0, 1, 3, 4] rfl (M := [R.own ty_3 F33 v32 u29.2.1]) rfl hM91 hB59.size
        refine wl_field (o := 1) (off' := 1) ff_53_1 rfl rfl rfl ?_
        refine wl_store_blk (i := 2) (vs := [v94]) (cs' := [v56, v94, (.int .i64 u29.2.2.1), (.int .i64 u29.2.2.2)]) tf_29 rfl rfl (cells_one (hS93.own_ro (i := 0) rfl).one) rfl hB92 hS93 rfl rfl ⟨(hS93.own_ro (i := 0) rfl).one, trivial⟩ rfl ?_
        intro w96 hk99 hB97 hS98
        refine WL.nil ?_
        exact fun a ha => hJ70 (u88) (v94) (F95) _ hF hB97 (hS98.sel [4, 1, 0, 2] rfl) a (ha.sub ⟨rfl, rfl, trivial⟩)
      · replace hF := ifN h87 hF
        refine W.seq fun K100 hK100 => ?_
        refine W.region ?_
        refine wl_move rfl rfl ?_
        refine wl_move rfl rfl ?_
        refine wl_gtr rfl rfl rfl ?_
        refine wl_assign rfl rfl ?_
        refine WL.nil ?_
        refine fun a ha => hK100 _ _ ?_ a ha
        refine W.cond rfl (fun h101 => ?_) (fun h101 => ?_)
        · replace hF := ifP h101 hF
          refine W.region ?_
          refine wl_field (o := 1) (off' := 1) ff_53_1 rfl rfl rfl ?_
          refine wl_load_blk (i := 1) (vs := [v32]) (v := v32) tf_29 rfl rfl hS60 rfl rfl rfl ?_
          refine wl_move rfl rfl ?_
          refine wl_move rfl rfl ?_
          refine wl_add rfl rfl rfl ?_
          obtain ⟨u102, hu102, hF⟩ := bindE hF
          refine wl_call rfl Try.call174 (C_slices_Delete_int_int__take w58 u29.2.1 v32 F33 (w64 ((List.length u29.2.1 : Int) - 1)) (w64 ((w64 ((List.length u29.2.1 : Int) - 1)) + 1)) (hS60.sel [2] rfl).base0 _ hu102) rfl ?_
          rintro _ w103 ⟨v108, F109, rfl, hE104, hM105⟩
          refine ⟨_, rfl, ?_⟩
          have hB106 := hS60.takeB [2] rfl (M := [R.own ty_3 F33 v32 u29.2.1]) rfl hB59 hE104 hM105
          have hS107 : Sep w0.heap.size w103 [R.own ty_3 F109 v108 u102, R.own ty_63 F57 v56 u50, R.blk b39 53 [v56, v32, (.int .i64 u29.2.2.1), (.int .i64 u29.2.2.2)], R.blk b2 53 [v0_0, v0_1, (.int .i64 x0.2.2.1), (.int .i64 x0.2.2.2)], R.blk b7 53 [(.slice none 0 0), (.slice none 0 0), (.int .i64 0), (.int .i64 0)]] := hS60.take [2] [0, 1, 3, 4] rfl (M := [R.own ty_3 F33 v32 u29.2.1]) rfl hM105 hB59.size
          refine wl_field (o := 1) (off' := 1) ff_53_1 rfl rfl rfl ?_
          refine wl_store_blk (i := 2) (vs := [v108]) (cs' := [v56, v108, (.int .i64 u29.2.2.1), (.int .i64 u29.2.2.2)]) tf_29 rfl rfl (cells_one (hS107.own_ro (i := 0) rfl).one) rfl hB106 hS107 rfl rfl ⟨(hS107.own_ro (i := 0) rfl).one, trivial⟩ rfl ?_
          intro w110 hk113 hB111 hS112
          refine WL.nil ?_
          exact fun a ha => hJ70 (u102) (v108) (F109) _ hF hB111 (hS112.sel [4, 1, 0, 2] rfl) a (ha.sub ⟨rfl, rfl, trivial⟩)
        · replace hF := ifN h101 hF
          refine W.seq fun K114 hK114 => ?_
          obtain ⟨k121, hk121, hF⟩ := jE1 hF
          have hJ122 : ∀ (l118 : (List Int)) (v119 : Value) (F120 : List Nat) (w115 : World) (_ : k121 l118 = some r) (_ : Below w0.heap.size w0 w115) (_ : Sep w0.heap.size w115 [R.blk b7 53 [(.slice none 0 0), (.slice none 0 0), (.int .i64 0), (.int .i64 0)], R.own ty_63 F57 v56 u50, R.own ty_3 F120 v119 l118, R.blk b39 53 [v56, v119, (.int .i64 u29.2.2.1), (.int .i64 u29.2.2.2)]]), ∀ a, St 76 [(1, (.int .i64 x1)), (4, (.pointer (some ⟨b7, 0, none⟩))), (6, (.pointer (some ⟨b39, 0, none⟩)))] a → K114 a w115 := by
            intro l118 v119 F120 w115 hF hB116 hS117
            subst hk121
            refine fun a ha => hK114 _ _ ?_ a ha
            refine W.region ?_
            refine wl_field (o := 1) (off' := 1) ff_53_1 rfl rfl rfl ?_
            refine wl_load_blk (i := 3) (vs := [v119]) (v := v119) tf_29 rfl rfl hS117 rfl rfl rfl ?_
            refine wl_move rfl rfl ?_
            refine wl_move rfl rfl ?_
            refine wl_add rfl rfl rfl ?_
            obtain ⟨u123, hu123, hF⟩ := bindE hF
            refine wl_call rfl Try.call174 (C_slices_Delete_int_int__take w115 l118 v119 F120 x1 (w64 (x1 + 1)) (hS117.sel [2] rfl).base0 _ hu123) rfl ?_
            rintro _ w124 ⟨v129, F130, rfl, hE125, hM126⟩
            refine ⟨_, rfl, ?_⟩
            have hB127 := hS117.takeB [2] rfl (M := [R.own ty_3 F120 v119 l118]) rfl hB116 hE125 hM126
            have hS128 : Sep w0.heap.size w124 [R.own ty_3 F130 v129 u123, R.blk b7 53 [(.slice none 0 0), (.slice none 0 0), (.int .i64 0), (.int .i64 0)], R.own ty_63 F57 v56 u50, R.blk b39 53 [v56, v119, (.int .i64 u29.2.2.1), (.int .i64 u29.2.2.2)]] := hS117.take [2] [0, 1, 3] rfl (M := [R.own ty_3 F120 v119 l118]) rfl hM126 hB116.size
            refine wl_field (o := 1) (off' := 1) ff_53_1 rfl rfl rfl ?_
            refine wl_store_blk (i := 3) (vs := [v129]) (cs' := [v56, v129, (.int .i64 u29.2.2.1), (.int .i64 u29.2.2.2)]) tf_29 rfl rfl (cells_one (hS128.own_ro (i := 0) rfl).one) rfl hB127 hS128 rfl rfl ⟨(hS128.own_ro (i := 0) rfl).one, trivial⟩ rfl ?_
            intro w131 hk134 hB132 hS133
            refine WL.nil ?_
            exact fun a ha => hJ70 (u123) (v129) (F130) _ hF hB132 (hS133.sel [1, 2, 0, 3] rfl) a (ha.sub ⟨rfl, rfl, trivial⟩)
          refine W.regionH mixed_ ([b39] ++ F33) hB59 hS60 ?_
          intro w135 hb136 hB137 hS138
          have hSW139 := KeepX.refl w135 ([b39] ++ F33)
          refine WH.takex (i := 0) rfl (by kernel_rfl) (by kernel_rfl) (by kernel_rfl) hP hSW139 ?_
          refine pr_field (o := 1) (off' := 1) ff_53_1 rfl rfl rfl ?_
          refine WH.takex (i := 2) rfl (by kernel_rfl) (by kernel_rfl) (by kernel_rfl) hP hSW139 ?_
          refine pr_move rfl rfl ?_
          refine WH.takex (i := 3) rfl (by kernel_rfl) (by kernel_rfl) (by kernel_rfl) hP hSW139 ?_
          refine pr_sub rfl rfl rfl ?_
          refine WH.takex (i := 6) rfl (by kernel_rfl) (by kernel_rfl) (by kernel_rfl) hP hSW139 ?_
          refine pr_field (o := 1) (off' := 1) ff_53_1 rfl rfl rfl ?_
          refine WH.takex (i := 8) rfl (by kernel_rfl) (by kernel_rfl) (by kernel_rfl) hP hSW139 ?_
          refine pr_move rfl rfl ?_
          refine WH.many (is := [1, 7]) (by kernel_rfl) rfl ?_
          refine List.forall_mem_cons.2 ⟨⟨_, rfl, ?_⟩, List.forall_mem_cons.2 ⟨⟨_, rfl, ?_⟩, fun _ h => by cases h⟩⟩
          ·
            refine wl_load_blk (i := 1) (vs := [v32]) (v := v32) tf_29 rfl rfl hS138 rfl rfl rfl ?_
            refine WL.nil (WH.ret hSW139 ?_)
            obtain ⟨u140, hu140, hF⟩ := bindE hF
            refine WH.takex (i := 4) rfl (by kernel_rfl) (by kernel_rfl) (by kernel_rfl) hP hSW139 ?_
            refine pr_indexo (e := ty_3) (i := 2) Try.underlying29 rfl rfl rfl hS138 rfl hu140 ?_
            rintro p141 _ rfl hp142 ho143
            refine WH.many (is := [5, 7]) (by kernel_rfl) rfl ?_
            refine List.forall_mem_cons.2 ⟨⟨_, rfl, ?_⟩, List.forall_mem_cons.2 ⟨⟨_, rfl, ?_⟩, fun _ h => by cases h⟩⟩
            ·
              refine wl_load_p (vs := [(.int .i64 u140)]) (v := (.int .i64 u140)) tf_3 rfl rfl hp142 rfl rfl ?_
              refine WL.nil (WH.ret hSW139 ?_)
              refine WH.one (i := 7) (by kernel_rfl) rfl ?_
              refine wl_load_blk (i := 1) (vs := [v32]) (v := v32) tf_29 rfl rfl hS138 rfl rfl rfl ?_
              refine WL.nil (WH.ret hSW139 ?_)
              obtain ⟨u144, hu144, hF⟩ := bindE hF
              refine WH.takex (i := 9) rfl (by kernel_rfl) (by kernel_rfl) (by kernel_rfl) hP hSW139 ?_
              refine pr_indexo (e := ty_3) (i := 2) Try.underlying29 rfl rfl rfl hS138 rfl hu144 ?_
              rintro p145 _ rfl hp146 ho147
              refine WH.one (i := 10) (by kernel_rfl) rfl ?_
              refine wl_load_p (vs := [(.int .i64 u144)]) (v := (.int .i64 u144)) tf_3 rfl rfl hp146 rfl rfl ?_
              refine WL.nil (WH.ret hSW139 ?_)
              refine WH.takex (i := 11) rfl (by kernel_rfl) (by kernel_rfl) (by kernel_rfl) hP hSW139 ?_
              refine pr_add rfl rfl rfl ?_
              obtain ⟨u148, hu148, hF⟩ := bindE hF
              refine WH.takex (i := 12) rfl (by kernel_rfl) (by kernel_rfl) (by kernel_rfl) hP hSW139 ?_
              refine pr_indexo (e := ty_3) (i := 2) Try.underlying29 rfl rfl rfl hS138 rfl hu148 ?_
              rintro p149 _ rfl hp150 ho151
              refine WH.one (i := 13) (by kernel_rfl) rfl ?_
              refine wl_storeo (i := 2) (o := 0) (vs := [(.int .i64 (w64 (u140 + u144)))]) (u' := (w64 (u140 + u144))) fl_3 tf_3 rfl rfl rfl rfl ho151 hu148 hB137 hS138 rfl rfl ⟨rfl, trivial⟩ rfl ?_
              intro w152 hk155 hB153 hS154
              have hSW156 := hSW139.wr' hk155.1 hk155.2.1 (fun _ _ h => List.mem_append_right _ h)
              have hbs157 : ∀ b, b < w135.heap.size → b ∈ F33 → b ∈ ([b39] ++ F33) := fun b hlt hb => (hk155.2.2 b hb).elim ((fun _ _ h => List.mem_append_right _ h) b hlt) (fun h => absurd hlt (Nat.not_lt.2 (Nat.le_trans hSW139.size h)))
              refine WL.nil (WH.ret hSW156 ?_)
              refine WH.done (by kernel_rfl) ?_
              exact fun a ha => hJ122 ((seti u29.2.1 (w64 (x1 - 1)) (w64 (u140 + u144)))) (v32) (F33) _ hF hB153 (hS154.sel [4, 0, 2, 1] rfl) a (ha.sub ⟨rfl, rfl, rfl, trivial⟩)
            ·
              refine wl_load_blk (i := 1) (vs := [v32]) (v := v32) tf_29 rfl rfl hS138 rfl rfl rfl ?_
              refine WL.nil (WH.ret hSW139 ?_)
              obtain ⟨u158, hu158, hF⟩ := bindE hF
              refine WH.takex (i := 9) rfl (by kernel_rfl) (by kernel_rfl) (by kernel_rfl) hP hSW139 ?_
              refine pr_indexo (e := ty_3) (i := 2) Try.underlying29 rfl rfl rfl hS138 rfl hu158 ?_
              rintro p159 _ rfl hp160 ho161
              refine WH.many (is := [5, 10]) (by kernel_rfl) rfl ?_
              refine List.forall_mem_cons.2 ⟨⟨_, rfl, ?_⟩, List.forall_mem_cons.2 ⟨⟨_, rfl, ?_⟩, fun _ h => by cases h⟩⟩
              ·
                refine wl_load_p (vs := [(.int .i64 u140)]) (v := (.int .i64 u140)) tf_3 rfl rfl hp142 rfl rfl ?_
                refine WL.nil (WH.ret hSW139 ?_)
                refine WH.one (i := 10) (by kernel_rfl) rfl ?_
                refine wl_load_p (vs := [(.int .i64 u158)]) (v := (.int .i64 u158)) tf_3 rfl rfl hp160 rfl rfl ?_
                refine WL.nil (WH.ret hSW139 ?_)
                refine WH.takex (i := 11) rfl (by kernel_rfl) (by kernel_rfl) (by kernel_rfl) hP hSW139 ?_
                refine pr_add rfl rfl rfl ?_
                obtain ⟨u162, hu162, hF⟩ := bindE hF
                refine WH.takex (i := 12) rfl (by kernel_rfl) (by kernel_rfl) (by kernel_rfl) hP hSW139 ?_
                refine pr_indexo (e := ty_3) (i := 2) Try.underlying29 rfl rfl rfl hS138 rfl hu162 ?_
                rintro p163 _ rfl hp164 ho165
                refine WH.one (i := 13) (by kernel_rfl) rfl ?_
                refine wl_storeo (i := 2) (o := 0) (vs := [(.int .i64 (w64 (u140 + u158)))]) (u' := (w64 (u140 + u158))) fl_3 tf_3 rfl rfl rfl rfl ho165 hu162 hB137 hS138 rfl rfl ⟨rfl, trivial⟩ rfl ?_
                intro w166 hk169 hB167 hS168
                have hSW170 := hSW139.wr' hk169.1 hk169.2.1 (fun _ _ h => List.mem_append_right _ h)
                have hbs171 : ∀ b, b < w135.heap.size → b ∈ F33 → b ∈ ([b39] ++ F33) := fun b hlt hb => (hk169.2.2 b hb).elim ((fun _ _ h => List.mem_append_right _ h) b hlt) (fun h => absurd hlt (Nat.not_lt.2 (Nat.le_trans hSW139.size h)))
                refine WL.nil (WH.ret hSW170 ?_)
                refine WH.done (by kernel_rfl) ?_
                exact fun a ha => hJ122 ((seti u29.2.1 (w64 (x1 - 1)) (w64 (u140 + u158)))) (v32) (F33) _ hF hB167 (hS168.sel [4, 0, 2, 1] rfl) a (ha.sub ⟨rfl, rfl, rfl, trivial⟩)
              ·
                refine wl_load_p (vs := [(.int .i64 u158)]) (v := (.int .i64 u158)) tf_3 rfl rfl hp160 rfl rfl ?_
                refine WL.nil (WH.ret hSW139 ?_)
                refine WH.one (i := 5) (by kernel_rfl) rfl ?_
                refine wl_load_p (vs := [(.int .i64 u140)]) (v := (.int .i64 u140)) tf_3 rfl rfl hp142 rfl rfl ?_
                refine WL.nil (WH.ret hSW139 ?_)
                refine WH.takex (i := 11) rfl (by kernel_rfl) (by kernel_rfl) (by kernel_rfl) hP hSW139 ?_
                refine pr_add rfl rfl rfl ?_
                obtain ⟨u172, hu172, hF⟩ := bindE hF
                refine WH.takex (i := 12) rfl (by kernel_rfl) (by kernel_rfl) (by kernel_rfl) hP hSW139 ?_
                refine pr_indexo (e := ty_3) (i := 2) Try.underlying29 rfl rfl rfl hS138 rfl hu172 ?_
                rintro p173 _ rfl hp174 ho175
                refine WH.one (i := 13) (by kernel_rfl) rfl ?_
                refine wl_storeo (i := 2) (o := 0) (vs := [(.int .i64 (w64 (u140 + u158)))]) (u' := (w64 (u140 + u158))) fl_3 tf_3 rfl rfl rfl rfl ho175 hu172 hB137 hS138 rfl rfl ⟨rfl, trivial⟩ rfl ?_
                intro w176 hk179 hB177 hS178
                have hSW180 := hSW139.wr' hk179.1 hk179.2.1 (fun _ _ h => List.mem_append_right _ h)
                have hbs181 : ∀ b, b < w135.heap.size → b ∈ F33 → b ∈ ([b39] ++ F33) := fun b hlt hb => (hk179.2.2 b hb).elim ((fun _ _ h => List.mem_append_right _ h) b hlt) (fun h => absurd hlt (Nat.not_lt.2 (Nat.le_trans hSW139.size h)))
                refine WL.nil (WH.ret hSW180 ?_)
                refine WH.done (by kernel_rfl) ?_
                exact fun a ha => hJ122 ((seti u29.2.1 (w64 (x1 - 1)) (w64 (u140 + u158)))) (v32) (F33) _ hF hB177 (hS178.sel [4, 0, 2, 1] rfl) a (ha.sub ⟨rfl, rfl, rfl, trivial⟩)
          ·
            refine wl_load_blk (i := 1) (vs := [v32]) (v := v32) tf_29 rfl rfl hS138 rfl rfl rfl ?_
            refine WL.nil (WH.ret hSW139 ?_)
            obtain ⟨u182, hu182, hF⟩ := bindE hF
            obtain ⟨u183, hu183, hF⟩ := bindE hF
            refine WH.takex (i := 9) rfl (by kernel_rfl) (by kernel_rfl) (by kernel_rfl) hP hSW139 ?_
            refine pr_indexo (e := ty_3) (i := 2) Try.underlying29 rfl rfl rfl hS138 rfl hu183 ?_
            rintro p184 _ rfl hp185 ho186
            refine WH.many (is := [1, 10]) (by kernel_rfl) rfl ?_
            refine List.forall_mem_cons.2 ⟨⟨_, rfl, ?_⟩, List.forall_mem_cons.2 ⟨⟨_, rfl, ?_⟩, fun _ h => by cases h⟩⟩
            ·
              refine wl_load_blk (i := 1) (vs := [v32]) (v := v32) tf_29 rfl rfl hS138 rfl rfl rfl ?_
              refine WL.nil (WH.ret hSW139 ?_)
              refine WH.takex (i := 4) rfl (by kernel_rfl) (by kernel_rfl) (by kernel_rfl) hP hSW139 ?_
              refine pr_indexo (e := ty_3) (i := 2) Try.underlying29 rfl rfl rfl hS138 rfl hu182 ?_
              rintro p187 _ rfl hp188 ho189
              refine WH.many (is := [5, 10]) (by kernel_rfl) rfl ?_
              refine List.forall_mem_cons.2 ⟨⟨_, rfl, ?_⟩, List.forall_mem_cons.2 ⟨⟨_, rfl, ?_⟩, fun _ h => by cases h⟩⟩
              ·
                refine wl_load_p (vs := [(.int .i64 u182)]) (v := (.int .i64 u182)) tf_3 rfl rfl hp188 rfl rfl ?_
                refine WL.nil (WH.ret hSW139 ?_)
                refine WH.one (i := 10) (by kernel_rfl) rfl ?_
                refine wl_load_p (vs := [(.int .i64 u183)]) (v := (.int .i64 u183)) tf_3 rfl rfl hp185 rfl rfl ?_
                refine WL.nil (WH.ret hSW139 ?_)
                refine WH.takex (i := 11) rfl (by kernel_rfl) (by kernel_rfl) (by kernel_rfl) hP hSW139 ?_
                refine pr_add rfl rfl rfl ?_
                refine WH.takex (i := 12) rfl (by kernel_rfl) (by kernel_rfl) (by kernel_rfl) hP hSW139 ?_
                refine pr_indexo (e := ty_3) (i := 2) Try.underlying29 rfl rfl rfl hS138 rfl hu182 ?_
                rintro p190 _ rfl hp191 ho192
                refine WH.one (i := 13) (by kernel_rfl) rfl ?_
                refine wl_storeo (i := 2) (o := 0) (vs := [(.int .i64 (w64 (u182 + u183)))]) (u' := (w64 (u182 + u183))) fl_3 tf_3 rfl rfl rfl rfl ho192 hu182 hB137 hS138 rfl rfl ⟨rfl, trivial⟩ rfl ?_
                intro w193 hk196 hB194 hS195
                have hSW197 := hSW139.wr' hk196.1 hk196.2.1 (fun _ _ h => List.mem_append_right _ h)
                have hbs198 : ∀ b, b < w135.heap.size → b ∈ F33 → b ∈ ([b39] ++ F33) := fun b hlt hb => (hk196.2.2 b hb).elim ((fun _ _ h => List.mem_append_right _ h) b hlt) (fun h => absurd hlt (Nat.not_lt.2 (Nat.le_trans hSW139.size h)))
                refine WL.nil (WH.ret hSW197 ?_)
                obtain ⟨u199, hu199, hF⟩ := bindE hF
                refine WH.done (by kernel_rfl) ?_
                exact fun a ha => hJ122 ((seti u29.2.1 (w64 (x1 - 1)) (w64 (u182 + u183)))) (v32) (F33) _ hF hB194 (hS195.sel [4, 0, 2, 1] rfl) a (ha.sub ⟨rfl, rfl, rfl, trivial⟩)
              ·
                refine wl_load_p (vs := [(.int .i64 u183)]) (v := (.int .i64 u183)) tf_3 rfl rfl hp185 rfl rfl ?_
                refine WL.nil (WH.ret hSW139 ?_)
                refine WH.one (i := 5) (by kernel_rfl) rfl ?_
                refine wl_load_p (vs := [(.int .i64 u182)]) (v := (.int .i64 u182)) tf_3 rfl rfl hp188 rfl rfl ?_
                refine WL.nil (WH.ret hSW139 ?_)
                refine WH.takex (i := 11) rfl (by kernel_rfl) (by kernel_rfl) (by kernel_rfl) hP hSW139 ?_
                refine pr_add rfl rfl rfl ?_
                refine WH.takex (i := 12) rfl (by kernel_rfl) (by kernel_rfl) (by kernel_rfl) hP hSW139 ?_
                refine pr_indexo (e := ty_3) (i := 2) Try.underlying29 rfl rfl rfl hS138 rfl hu182 ?_
                rintro p200 _ rfl hp201 ho202
                refine WH.one (i := 13) (by kernel_rfl) rfl ?_
                refine wl_storeo (i := 2) (o := 0) (vs := [(.int .i64 (w64 (u182 + u183)))]) (u' := (w64 (u182 + u183))) fl_3 tf_3 rfl rfl rfl rfl ho202 hu182 hB137 hS138 rfl rfl ⟨rfl, trivial⟩ rfl ?_
                intro w203 hk206 hB204 hS205
                have hSW207 := hSW139.wr' hk206.1 hk206.2.1 (fun _ _ h => List.mem_append_right _ h)
                have hbs208 : ∀ b, b < w135.heap.size → b ∈ F33 → b ∈ ([b39] ++ F33) := fun b hlt hb => (hk206.2.2 b hb).elim ((fun _ _ h => List.mem_append_right _ h) b hlt) (fun h => absurd hlt (Nat.not_lt.2 (Nat.le_trans hSW139.size h)))
                refine WL.nil (WH.ret hSW207 ?_)
                obtain ⟨u209, hu209, hF⟩ := bindE hF
                refine WH.done (by kernel_rfl) ?_
                exact fun a ha => hJ122 ((seti u29.2.1 (w64 (x1 - 1)) (w64 (u182 + u183)))) (v32) (F33) _ hF hB204 (hS205.sel [4, 0, 2, 1] rfl) a (ha.sub ⟨rfl, rfl, rfl, trivial⟩)
            ·
              refine wl_load_p (vs := [(.int .i64 u183)]) (v := (.int .i64 u183)) tf_3 rfl rfl hp185 rfl rfl ?_
              refine WL.nil (WH.ret hSW139 ?_)
              refine WH.one (i := 1) (by kernel_rfl) rfl ?_
              refine wl_load_blk (i := 1) (vs := [v32]) (v := v32) tf_29 rfl rfl hS138 rfl rfl rfl ?_
              refine WL.nil (WH.ret hSW139 ?_)
              refine WH.takex (i := 4) rfl (by kernel_rfl) (by kernel_rfl) (by kernel_rfl) hP hSW139 ?_
              refine pr_indexo (e := ty_3) (i := 2) Try.underlying29 rfl rfl rfl hS138 rfl hu182 ?_
              rintro p210 _ rfl hp211 ho212
              refine WH.one (i := 5) (by kernel_rfl) rfl ?_
              refine wl_load_p (vs := [(.int .i64 u182)]) (v := (.int .i64 u182)) tf_3 rfl rfl hp211 rfl rfl ?_
              refine WL.nil (WH.ret hSW139 ?_)
              refine WH.takex (i := 11) rfl (by kernel_rfl) (by kernel_rfl) (by kernel_rfl) hP hSW139 ?_
              refine pr_add rfl rfl rfl ?_
              refine WH.takex (i := 12) rfl (by kernel_rfl) (by kernel_rfl) (by kernel_rfl) hP hSW139 ?_
              refine pr_indexo (e := ty_3) (i := 2) Try.underlying29 rfl rfl rfl hS138 rfl hu182 ?_
              rintro p213 _ rfl hp214 ho215
              refine WH.one (i := 13) (by kernel_rfl) rfl ?_
              refine wl_storeo (i := 2) (o := 0) (vs := [(.int .i64 (w64 (u182 + u183)))]) (u' := (w64 (u182 + u183))) fl_3 tf_3 rfl rfl rfl rfl ho215 hu182 hB137 hS138 rfl rfl ⟨rfl, trivial⟩ rfl ?_
              intro w216 hk219 hB217 hS218
              have hSW220 := hSW139.wr' hk219.1 hk219.2.1 (fun _ _ h => List.mem_append_right _ h)
              have hbs221 : ∀ b, b < w135.heap.size → b ∈ F33 → b ∈ ([b39] ++ F33) := fun b hlt hb => (hk219.2.2 b hb).elim ((fun _ _ h => List.mem_append_right _ h) b hlt) (fun h => absurd hlt (Nat.not_lt.2 (Nat.le_trans hSW139.size h)))
              refine WL.nil (WH.ret hSW220 ?_)
              obtain ⟨u222, hu222, hF⟩ := bindE hF
              refine WH.done (by kernel_rfl) ?_
              exact fun a ha => hJ122 ((seti u29.2.1 (w64 (x1 - 1)) (w64 (u182 + u183)))) (v32) (F33) _ hF hB217 (hS218.sel [4, 0, 2, 1] rfl) a (ha.sub ⟨rfl, rfl, rfl, trivial⟩)
  refine W.region ?_
  refine wl_load_blk (i := 1) (vs := [v0_0, v0_1, (.int .i64 x0.2.2.1), (.int .i64 x0.2.2.2)]) (v := (.agg #[v0_0, v0_1, (.int .i64 x0.2.2.1), (.int .i64 x0.2.2.2)])) tf_53 rfl rfl hS11 rfl rfl rfl ?_
  obtain ⟨u223, hu223, hF⟩ := bindE hF
  refine wl_call rfl Try.call60 (C_impl_IsShow w8 x0 v0_0 (h0_0.ro hB10) v0_1 (h0_1.ro hB10) _ hu223) rfl ?_
  rintro _ w224 ⟨rfl, hb225⟩
  refine ⟨_, rfl, ?_⟩
  have hB226 := hB10.trans (hb225.mono hB10.size)
  have hS227 := hS11.below hb225
  refine wl_not rfl rfl ?_
  refine wl_move rfl rfl ?_
  rcases bE (!u223) with h229 | h229
  · replace hF := ifP h229 hF
    refine wl_off rfl rfl rfl h229 ?_
    refine wl_off rfl rfl rfl h229 ?_
    refine wl_off rfl rfl rfl h229 ?_
    refine wl_off rfl rfl rfl h229 ?_
    refine wl_off rfl rfl rfl h229 ?_
    refine wl_off rfl rfl rfl h229 ?_
    refine wl_off rfl rfl rfl h229 ?_
    refine wl_pick_t rfl rfl h229 rfl ?_
    refine WL.nil ?_
    exact fun a ha => hJ19 (true) _ hF hB226 (hS227.sel [1, 0] rfl) a (ha.sub ⟨rfl, rfl, rfl, rfl, trivial⟩)
  · replace hF := ifN h229 hF
    refine wl_on rfl rfl h229 ?_
    refine wl_move rfl rfl ?_
    refine wl_on rfl rfl h229 ?_
    refine wl_field (o := 0) (off' := 0) ff_53_0 rfl rfl rfl ?_
    refine wl_on rfl rfl h229 ?_
    refine wl_load_blk (i := 1) (vs := [v0_0]) (v := v0_0) tf_51 rfl rfl hS227 rfl rfl rfl ?_
    refine wl_on rfl rfl h229 ?_
    refine wl_lenr (e := ty_63) (l := x0.1) Try.underlying51 rfl rfl h0_0 ?_
    refine wl_on rfl rfl h229 ?_
    refine wl_sub rfl rfl rfl ?_
    refine wl_on rfl rfl h229 ?_
    obtain ⟨u230, hu230, hF⟩ := bindE hF
    refine wl_call rfl Try.call128 (C_impl_within w224 x1 0 (w64 ((List.length x0.1 : Int) - 1)) _ hu230) rfl ?_
    rintro _ w231 ⟨rfl, hb232⟩
    refine ⟨_, rfl, ?_⟩
    have hB233 := hB226.trans (hb232.mono hB226.size)
    have hS234 := hS227.below hb232
    refine wl_on rfl rfl h229 ?_
    refine wl_not rfl rfl ?_
    refine wl_pick_f rfl rfl h229 rfl ?_
    refine WL.nil ?_
    exact fun a ha => hJ19 ((!u230)) _ hF hB233 (hS234.sel [1, 0] rfl) a (ha.sub ⟨rfl, rfl, rfl, rfl, trivial⟩)
theorem C_spec_DrawDropShowChart (w0 : World) (x0 : (List Int)) (v0_0 : Value) (h0_0 : rdS ty_5 (· < w0.heap.size) w0 v0_0 x0) (r : (((List (List (Int × Int))) × (List Int) × Int × Int) × Int)) (hF : F_spec_DrawDropShowChart x0 = some r) :
    Calls Try.prog 61 [v0_0].toArray w0 fun e w' => ∃ (q0 : Value) (G0 : List Nat) (q1 : Value) (G1 : List Nat), e = .returned (.tuple #[(.agg #[q0, q1, (.int .i64 r.1.2.2.1), (.int .i64 r.1.2.2.2)]), (.int .i64 r.2)]) ∧ Below w0.heap.size w0 w' ∧ Sep w0.heap.size w' [R.own ty_63 G0 q0 r.1.1, R.own ty_3 G1 q1 r.1.2.1] := by
  refine calls_mk' Try.func61 rfl Try.ntmps61 rfl rfl fun Q hQ hP => ?_
  have hB : Below w0.heap.size w0 w0 := Below.refl _ _
  have hS : Sep w0.heap.size w0 [] := Sep.nil _ _
  unfold F_spec_DrawDropShowChart at hF
  refine W.seq fun K1 hK1 => ?_
  refine W.region ?_
  refine wl_alloc (cs := [(.slice none 0 0), (.slice none 0 0), (.int .i64 0), (.int .i64 0)]) tf_53 rfl rfl hB hS ?_
  intro b2 w3 hb4 hB5 hS6
  refine wl_assign rfl rfl ?_
  refine WL.nil ?_
  refine fun a ha => hK1 _ _ ?_ a ha
  refine W.seq fun K7 hK7 => ?_
  refine W.region ?_
  refine wl_move rfl rfl ?_
  refine wl_build (zs := [(.slice none 0 0), (.int .i64 0), (.int .u64 0)]) (out := [v0_0, (.int .i64 0), (.int .u64 0)]) (vs := [v0_0]) (css := [[v0_0]]) tf_131 pl_131 rfl rfl (by simp only [List.map_cons, List.map_nil, cells_one ((h0_0.ro hB5).one)] <;> rfl) rfl rfl ?_
  refine wl_box (cs := [v0_0, (.int .i64 0), (.int .u64 0)]) rfl rfl rfl hB5 hS6 ?_
  intro b8 w9 hb10 hB11 hS12
  refine wl_assign rfl rfl ?_
  refine WL.nil ?_
  refine fun a ha => hK7 _ _ ?_ a ha
  refine W.seq fun K13 hK13 => ?_
  refine W.region ?_
  refine wl_move rfl rfl ?_
  obtain ⟨u14, hu14, hF⟩ := bindE hF
  refine wl_call rfl Try.call149 (C_spec_l1Cur__show__mut__box w9 (x0, 0, 0) b8 v0_0 (h0_0.oldo hB11 (hS12.sel [0] rfl)) (hS12.sel [0] rfl).base0 _ hu14) rfl ?_
  rintro _ w15 ⟨v20, F21, v22, F23, rfl, hE16, hM17⟩
  refine ⟨_, rfl, ?_⟩
  have hB18 := hS12.takeB [0] rfl (M := [R.blk b8 131 [v0_0, (.int .i64 0), (.int .u64 0)]]) rfl hB11 hE16 hM17
  have hS19 : Sep w0.heap.size w15 [R.blk b8 131 [v0_0, (.int .i64 u14.2.2.1), (.int .u64 u14.2.2.2)], R.own ty_63 F21 v20 u14.1.1, R.own ty_3 F23 v22 u14.1.2.1, R.blk b2 53 [(.slice none 0 0), (.slice none 0 0), (.int .i64 0), (.int .i64 0)]] := hS12.take [0] [1] rfl (M := [R.blk b8 131 [v0_0, (.int .i64 0), (.int .u64 0)]]) rfl hM17 hB11.size
  refine wl_alloc (cs := [(.slice none 0 0), (.slice none 0 0), (.int .i64 0), (.int .i64 0)]) tf_53 rfl rfl hB18 hS19 ?_
  intro b24 w25 hb26 hB27 hS28
  refine wl_store_blk (i := 0) (vs := [v20, v22, (.int .i64 u14.1.2.2.1), (.int .i64 u14.1.2.2.2)]) (cs' := [v20, v22, (.int .i64 u14.1.2.2.1), (.int .i64 u14.1.2.2.2)]) tf_53 rfl rfl rfl rfl hB27 hS28 rfl rfl ⟨(hS28.own_ro (i := 2) rfl).one, (hS28.own_ro (i := 3) rfl).one, rfl, rfl, trivial⟩ rfl ?_
  intro w29 hk32 hB30 hS31
  refine WL.nil ?_
  refine fun a ha => hK13 _ _ ?_ a ha
  refine W.seq fun K33 hK33 => ?_
  refine W.regionH mixed_ ([b8] ++ [b2]) hB30 hS31 ?_
  intro w34 hb35 hB36 hS37
  have hSW38 := KeepX.refl w34 ([b8] ++ [b2])
  refine WH.takex (i := 0) rfl (by kernel_rfl) (by kernel_rfl) (by kernel_rfl) hP hSW38 ?_
  refine pr_load_blk (i := 0) (vs := [v20, v22, (.int .i64 u14.1.2.2.1), (.int .i64 u14.1.2.2.2)]) (v := (.agg #[v20, v22, (.int .i64 u14.1.2.2.1), (.int .i64 u14.1.2.2.2)])) tf_53 rfl rfl hS37 rfl rfl rfl (fun hb => (List.mem_append.1 hb).elim (hS37.disj (i := 0) (j := 1) rfl rfl rfl b24 (by simp [R.blk])) (hS37.disj (i := 0) (j := 4) rfl rfl rfl b24 (by simp [R.blk]))) ?_
  refine WH.takex (i := 1) rfl (by kernel_rfl) (by kernel_rfl) (by kernel_rfl) hP hSW38 ?_
  refine pr_move rfl rfl ?_
  refine WH.takex (i := 2) rfl (by kernel_rfl) (by kernel_rfl) (by kernel_rfl) hP hSW38 ?_
  refine pr_field (o := 0) (off' := 0) ff_53_0 rfl rfl rfl ?_
  refine WH.takex (i := 3) rfl (by kernel_rfl) (by kernel_rfl) (by kernel_rfl) hP hSW38 ?_
  refine pr_load_blk (i := 0) (vs := [v20]) (v := v20) tf_51 rfl rfl hS37 rfl rfl rfl (fun hb => (List.mem_append.1 hb).elim (hS37.disj (i := 0) (j := 1) rfl rfl rfl b24 (by simp [R.blk])) (hS37.disj (i := 0) (j := 4) rfl rfl rfl b24 (by simp [R.blk]))) ?_
  refine WH.takex (i := 4) rfl (by kernel_rfl) (by kernel_rfl) (by kernel_rfl) hP hSW38 ?_
  refine pr_lenr (e := ty_63) (l := u14.1.1) Try.underlying51 rfl rfl (hS37.own_ro (i := 2) rfl) ?_
  refine WH.takex (i := 5) rfl (by kernel_rfl) (by kernel_rfl) (by kernel_rfl) hP hSW38 ?_
  refine pr_move rfl rfl ?_
  refine WH.takex (i := 10) rfl (by kernel_rfl) (by kernel_rfl) (by kernel_rfl) hP hSW38 ?_
  refine pr_move rfl rfl ?_
  refine WH.one (i := 6) (by kernel_rfl) rfl ?_
  obtain ⟨u39, hu39, hF⟩ := bindE hF
  refine wl_call rfl Try.call132 (C_spec_l1Cur__pick__mut__box w34 (x0, u14.2.2.1, u14.2.2.2) b8 v0_0 (h0_0.oldo hB36 (hS37.sel [1] rfl)) 16 (hS37.sel [1] rfl).base0 _ hu39) rfl ?_
  rintro _ w40 ⟨rfl, hE41, hM42⟩
  refine ⟨_, rfl, ?_⟩
  have hB43 := hS37.takeB [1] rfl (M := [R.blk b8 131 [v0_0, (.int .i64 u14.2.2.1), (.int .u64 u14.2.2.2)]]) rfl hB36 hE41 hM42
  have hS44 : Sep w0.heap.size w40 [R.blk b8 131 [v0_0, (.int .i64 u39.2.2.1), (.int .u64 u39.2.2.2)], R.blk b24 53 [v20, v22, (.int .i64 u14.1.2.2.1), (.int .i64 u14.1.2.2.2)], R.own ty_63 F21 v20 u14.1.1, R.own ty_3 F23 v22 u14.1.2.1, R.blk b2 53 [(.slice none 0 0), (.slice none 0 0), (.int .i64 0), (.int .i64 0)]] := hS37.take [1] [0, 2, 3, 4] rfl (M := [R.blk b8 131 [v0_0, (.int .i64 u14.2.2.1), (.int .u64 u14.2.2.2)]]) rfl hM42 hB36.size
  have hk45 := box_kept hM42
  have hSW46 := hSW38.wr' hk45.1 hk45.2.1 (fun _ _ h => List.mem_append_left _ (h))
  have hbs47 : ∀ b, b < w34.heap.size → b ∈ [b8] → b ∈ ([b8] ++ [b2]) := fun b hlt hb => (hk45.2.2 b hb).elim ((fun _ _ h => List.mem_append_left _ (h)) b hlt) (fun h => absurd hlt (Nat.not_lt.2 (Nat.le_trans hSW38.size h)))
  refine WL.nil (WH.ret hSW46 ?_)
  refine WH.takex (i := 7) rfl (by kernel_rfl) (by kernel_rfl) (by kernel_rfl) hP hSW46 ?_
  refine pr_quo rfl rfl rfl (by decide) ?_
  refine WH.takex (i := 8) rfl (by kernel_rfl) (by kernel_rfl) (by kernel_rfl) hP hSW46 ?_
  refine pr_add rfl rfl rfl ?_
  refine WH.one (i := 9) (by kernel_rfl) rfl ?_
  obtain ⟨u48, hu48, hF⟩ := bindE hF
  refine wl_call rfl Try.call132 (C_spec_l1Cur__pick__mut__box w40 (x0, u39.2.2.1, u39.2.2.2) b8 v0_0 (h0_0.oldo hB43 (hS44.sel [0] rfl)) (w64 ((List.length u14.1.1 : Int) + (w64 (Int.tdiv u39.1 15)))) (hS44.sel [0] rfl).base0 _ hu48) rfl ?_
  rintro _ w49 ⟨rfl, hE50, hM51⟩
  refine ⟨_, rfl, ?_⟩
  have hB52 := hS44.takeB [0] rfl (M := [R.blk b8 131 [v0_0, (.int .i64 u39.2.2.1), (.int .u64 u39.2.2.2)]]) rfl hB43 hE50 hM51
  have hS53 : Sep w0.heap.size w49 [R.blk b8 131 [v0_0, (.int .i64 u48.2.2.1), (.int .u64 u48.2.2.2)], R.blk b24 53 [v20, v22, (.int .i64 u14.1.2.2.1), (.int .i64 u14.1.2.2.2)], R.own ty_63 F21 v20 u14.1.1, R.own ty_3 F23 v22 u14.1.2.1, R.blk b2 53 [(.slice none 0 0), (.slice none 0 0), (.int .i64 0), (.int .i64 0)]] := hS44.take [0] [1, 2, 3, 4] rfl (M := [R.blk b8 131 [v0_0, (.int .i64 u39.2.2.1), (.int .u64 u39.2.2.2)]]) rfl hM51 hB43.size
  have hk54 := box_kept hM51
  have hSW55 := hSW46.wr' hk54.1 hk54.2.1 (hbs47)
  have hbs56 : ∀ b, b < w34.heap.size → b ∈ [b8] → b ∈ ([b8] ++ [b2]) := fun b hlt hb => (hk54.2.2 b hb).elim ((hbs47) b hlt) (fun h => absurd hlt (Nat.not_lt.2 (Nat.le_trans hSW46.size h)))
  refine WL.nil (WH.ret hSW55 ?_)
  refine WH.one (i := 11) (by kernel_rfl) rfl ?_
  obtain ⟨u57, hu57, hF⟩ := bindE hF
  refine wl_call rfl Try.call132 (C_spec_l1Cur__pick__mut__box w49 (x0, u48.2.2.1, u48.2.2.2) b8 v0_0 (h0_0.oldo hB52 (hS53.sel [0] rfl)) 24 (hS53.sel [0] rfl).base0 _ hu57) rfl ?_
  rintro _ w58 ⟨rfl, hE59, hM60⟩
  refine ⟨_, rfl, ?_⟩
  have hB61 := hS53.takeB [0] rfl (M := [R.blk b8 131 [v0_0, (.int .i64 u48.2.2.1), (.int .u64 u48.2.2.2)]]) rfl hB52 hE59 hM60
  have hS62 : Sep w0.heap.size w58 [R.blk b8 131 [v0_0, (.int .i64 u57.2.2.1), (.int .u64 u57.2.2.2)], R.blk b24 53 [v20, v22, (.int .i64 u14.1.2.2.1), (.int .i64 u14.1.2.2.2)], R.own ty_63 F21 v20 u14.1.1, R.own ty_3 F23 v22 u14.1.2.1, R.blk b2 53 [(.slice none 0 0), (.slice none 0 0), (.int .i64 0), (.int .i64 0)]] := hS53.take [0] [1, 2, 3, 4] rfl (M := [R.blk b8 131 [v0_0, (.int .i64 u48.2.2.1), (.int .u64 u48.2.2.2)]]) rfl hM60 hB52.size
  have hk63 := box_kept hM60
  have hSW64 := hSW55.wr' hk63.1 hk63.2.1 (hbs56)
  have hbs65 : ∀ b, b < w34.heap.size → b ∈ [b8] → b ∈ ([b8] ++ [b2]) := fun b hlt hb => (hk63.2.2 b hb).elim ((hbs56) b hlt) (fun h => absurd hlt (Nat.not_lt.2 (Nat.le_trans hSW55.size h)))
  refine WL.nil (WH.ret hSW64 ?_)
  refine WH.takex (i := 12) rfl (by kernel_rfl) (by kernel_rfl) (by kernel_rfl) hP hSW64 ?_
  refine pr_quo rfl rfl rfl (by decide) ?_
  refine WH.takex (i := 13) rfl (by kernel_rfl) (by kernel_rfl) (by kernel_rfl) hP hSW64 ?_
  refine pr_sub rfl rfl rfl ?_
  refine WH.one (i := 14) (by kernel_rfl) rfl ?_
  refine wl_store_blk (i := 4) (vs := [v20, v22, (.int .i64 u14.1.2.2.1), (.int .i64 u14.1.2.2.2)]) (cs' := [v20, v22, (.int .i64 u14.1.2.2.1), (.int .i64 u14.1.2.2.2)]) tf_53 rfl rfl rfl rfl hB61 hS62 rfl rfl ⟨(hS62.own_ro (i := 2) rfl).one, (hS62.own_ro (i := 3) rfl).one, rfl, rfl, trivial⟩ rfl ?_
  intro w66 hk69 hB67 hS68
  have hSW70 := hSW64.wr' hk69.1 hk69.2.1 (fun _ _ h => List.mem_append_right _ h)
  have hbs71 : ∀ b, b < w34.heap.size → b ∈ [b2] → b ∈ ([b8] ++ [b2]) := fun b hlt hb => (hk69.2.2 b hb).elim ((fun _ _ h => List.mem_append_right _ h) b hlt) (fun h => absurd hlt (Nat.not_lt.2 (Nat.le_trans hSW64.size h)))
  refine WL.nil (WH.ret hSW70 ?_)
  refine WH.takex (i := 15) rfl (by kernel_rfl) (by kernel_rfl) (by kernel_rfl) hP hSW70 ?_
  refine pr_assign rfl rfl ?_
  refine WH.done (by kernel_rfl) ?_
  refine fun a ha => hK33 _ _ ?_ a ha
  refine W.ret ?_
  have hr := Option.some.inj hF
  subst hr
  exact rets (vs := [(.agg #[v20, v22, (.int .i64 u14.1.2.2.1), (.int .i64 u14.1.2.2.2)]), (.int .i64 (w64 (u48.1 - (w64 (Int.tdiv u57.1 23)))))]) hQ rfl ⟨rv_cell (i := 4) tf_53 rfl hS68 rfl rfl rfl, rv_tmp rfl, trivial⟩ ⟨v20, F21, v22, F23, rfl, hB67, hS68.sel [2, 3] rfl⟩
theorem C_spec_swIf__take__fr1 (w0 : World) (x0 : ((List (List (Int × Int))) × (List Int) × Int × Int)) (v0_0 : Value) (B0_0 : List Nat) (v0_1 : Value) (B0_1 : List Nat) (hS0 : Sep 0 w0 [R.own ty_63 B0_0 v0_0 x0.1, R.fr ty_3 B0_1 v0_1 x0.2.1]) (r : (((List (List (Int × Int))) × (List Int) × Int × Int) × Bool)) (hF : F_spec_swIf__take__fr1 x0 = some r) :
    Calls Try.prog 172 [(.agg #[v0_0, v0_1, (.int .i64 x0.2.2.1), (.int .i64 x0.2.2.2)])].toArray w0 fun e w' => ∃ (q0 : Value) (G0 : List Nat) (q1 : Value) (G1 : List Nat), e = .returned (.tuple #[(.agg #[q0, q1, (.int .i64 r.1.2.2.1), (.int .i64 r.1.2.2.2)]), (.bool r.2)]) ∧ Below 0 (wE w0) w' ∧ Sep 0 w' [R.rest w0 (fps [R.own ty_63 B0_0 v0_0 x0.1, R.fr ty_3 B0_1 v0_1 x0.2.1]), R.own ty_63 G0 q0 r.1.1, R.fr ty_3 G1 q1 r.1.2.1] := by
  refine calls_mk' Try.func172 rfl Try.ntmps172 rfl rfl fun Q hQ hP => ?_
  have hB : Below (wE w0).heap.size (wE w0) w0 := wE_below w0
  have hS : Sep (wE w0).heap.size w0 [R.rest w0 (fps [R.own ty_63 B0_0 v0_0 x0.1, R.fr ty_3 B0_1 v0_1 x0.2.1]), R.own ty_63 B0_0 v0_0 x0.1, R.fr ty_3 B0_1 v0_1 x0.2.1] := hS0.rest
  unfold F_spec_swIf__take__fr1 at hF
  refine W.seq fun K1 hK1 => ?_
  refine W.region ?_
  refine wl_box (cs := [v0_0, v0_1, (.int .i64 x0.2.2.1), (.int .i64 x0.2.2.2)]) rfl rfl rfl hB hS ?_
  intro b2 w3 hb4 hB5 hS6
  refine wl_alloc (cs := [(.slice none 0 0), (.slice none 0 0), (.int .i64 0), (.int .i64 0)]) tf_53 rfl rfl hB5 hS6 ?_
  intro b7 w8 hb9 hB10 hS11
  refine wl_assign rfl rfl ?_
  refine WL.nil ?_
  refine fun a ha => hK1 _ _ ?_ a ha
  refine W.seq fun K12 hK12 => ?_
  refine W.seq fun K13 hK13 => ?_
  refine W.region ?_
  refine wl_load_blk (i := 1) (vs := [v0_0, v0_1, (.int .i64 x0.2.2.1), (.int .i64 x0.2.2.2)]) (v := (.agg #[v0_0, v0_1, (.int .i64 x0.2.2.1), (.int .i64 x0.2.2.2)])) tf_53 rfl rfl hS11 rfl rfl rfl ?_
  obtain ⟨u14, hu14, hF⟩ := bindE hF
  refine wl_call rfl Try.call145 (C_spec_swGood w8 x0 v0_0 (hS11.own_ro (i := 3) rfl) v0_1 (hS11.fr_ro (i := 4) rfl) _ hu14) rfl ?_
  rintro _ w15 ⟨rfl, hb16⟩
  refine ⟨_, rfl, ?_⟩
  have hB17 := hB10.trans (hb16.mono hB10.size)
  have hS18 := hS11.below hb16
  refine wl_not rfl rfl ?_
  refine WL.nil ?_
  refine fun a ha => hK13 _ _ ?_ a ha
  refine W.cond rfl (fun h20 => ?_) (fun h20 => ?_)
  · replace hF := ifP h20 hF
    refine W.seq fun K21 hK21 => ?_
    refine W.region ?_
    refine wl_build (zs := [(.slice none 0 0), (.slice none 0 0), (.int .i64 0), (.int .i64 0)]) (out := [(.slice none 0 0), (.slice none 0 0), (.int .i64 0), (.int .i64 0)]) (vs := []) (css := []) tf_53 pl_53 rfl rfl rfl rfl rfl ?_
    refine wl_store_blk (i := 0) (vs := [(.slice none 0 0), (.slice none 0 0), (.int .i64 0), (.int .i64 0)]) (cs' := [(.slice none 0 0), (.slice none 0 0), (.int .i64 0), (.int .i64 0)]) tf_53 rfl rfl rfl rfl hB17 hS18 rfl rfl ⟨rfl, rfl, rfl, rfl, trivial⟩ rfl ?_
    intro w22 hk25 hB23 hS24
    refine wl_assign rfl rfl ?_
    refine WL.nil ?_
    refine fun a ha => hK21 _ _ ?_ a ha
    refine W.ret ?_
    have hS26 := hS24.push0 (r := R.own ty_63 [] (.slice none 0 0) []) rfl fun _ => .inl ⟨rfl, rfl, rfl⟩
    have hS27 := hS26.push0 (r := R.fr ty_3 [] (.slice none 0 0) []) rfl fun _ => rdS_nil
    have hr := Option.some.inj hF
    subst hr
    exact rets (vs := [(.agg #[(.slice none 0 0), (.slice none 0 0), (.int .i64 0), (.int .i64 0)]), (.bool false)]) hQ rfl ⟨rv_cell (i := 0) tf_53 rfl hS24 rfl rfl rfl, rv_tmp rfl, trivial⟩ ⟨(.slice none 0 0), [], (.slice none 0 0), [], rfl, hB23, hS27.sel [4, 1, 0] rfl⟩
  · replace hF := ifN h20 hF
    refine W.skip ?_
    refine fun a ha => hK12 _ _ ?_ a ha
    refine W.seq fun K28 hK28 => ?_
    refine W.region ?_
    refine wl_load_blk (i := 1) (vs := [v0_0, v0_1, (.int .i64 x0.2.2.1), (.int .i64 x0.2.2.2)]) (v := (.agg #[v0_0, v0_1, (.int .i64 x0.2.2.1), (.int .i64 x0.2.2.2)])) tf_53 rfl rfl hS18 rfl rfl rfl ?_
    refine wl_store_blk (i := 0) (vs := [v0_0, v0_1, (.int .i64 x0.2.2.1), (.int .i64 x0.2.2.2)]) (cs' := [v0_0, v0_1, (.int .i64 x0.2.2.1), (.int .i64 x0.2.2.2)]) tf_53 rfl rfl rfl rfl hB17 hS18 rfl rfl ⟨(hS18.own_ro (i := 3) rfl).one, (hS18.fr_ro (i := 4) rfl).one, rfl, rfl, trivial⟩ rfl ?_
    intro w29 hk32 hB30 hS31
    refine wl_assign rfl rfl ?_
    refine WL.nil ?_
    refine fun a ha => hK28 _ _ ?_ a ha
    refine W.ret ?_
    have hr := Option.some.inj hF
    subst hr
    exact rets (vs := [(.agg #[v0_0, v0_1, (.int .i64 x0.2.2.1), (.int .i64 x0.2.2.2)]), (.bool true)]) hQ rfl ⟨rv_cell (i := 0) tf_53 rfl hS31 rfl rfl rfl, rv_tmp rfl, trivial⟩ ⟨v0_0, B0_0, v0_1, B0_1, rfl, hB30, hS31.sel [2, 3, 4] rfl⟩
theorem C_spec_DropShowChart (w0 : World) (x0 : ((List (List (Int × Int))) × (List Int) × Int × Int)) (v0_0 : Value) (h0_0 : rdS ty_63 (· < w0.heap.size) w0 v0_0 x0.1) (v0_1 : Value) (h0_1 : rdS ty_3 (· < w0.heap.size) w0 v0_1 x0.2.1) (x1 : Int) (r : (((List (List (Int × Int))) × (List Int) × Int × Int) × Bool)) (hF : F_spec_DropShowChart x0 x1 = some r) :
    Calls Try.prog 62 [(.agg #[v0_0, v0_1, (.int .i64 x0.2.2.1), (.int .i64 x0.2.2.2)]), (.int .i64 x1)].toArray w0 fun e w' => ∃ (q0 : Value) (G0 : List Nat) (q1 : Value) (G1 : List Nat), e = .returned (.tuple #[(.agg #[q0, q1, (.int .i64 r.1.2.2.1), (.int .i64 r.1.2.2.2)]), (.bool r.2)]) ∧ Below w0.heap.size w0 w' ∧ Sep w0.heap.size w' [R.own ty_63 G0 q0 r.1.1, R.fr ty_3 G1 q1 r.1.2.1] := by
  refine calls_mk' Try.func62 rfl Try.ntmps62 rfl rfl fun Q hQ hP => ?_
  have hB : Below w0.heap.size w0 w0 := Below.refl _ _
  have hS : Sep w0.heap.size w0 [] := Sep.nil _ _
  unfold F_spec_DropShowChart at hF
  refine W.seq fun K1 hK1 => ?_
  refine W.region ?_
  refine wl_box (cs := [v0_0, v0_1, (.int .i64 x0.2.2.1), (.int .i64 x0.2.2.2)]) rfl rfl rfl hB hS ?_
  intro b2 w3 hb4 hB5 hS6
  refine wl_alloc (cs := [(.slice none 0 0), (.slice none 0 0), (.int .i64 0), (.int .i64 0)]) tf_53 rfl rfl hB5 hS6 ?_
  intro b7 w8 hb9 hB10 hS11
  refine wl_assign rfl rfl ?_
  refine WL.nil ?_
  refine fun a ha => hK1 _ _ ?_ a ha
  refine W.seq fun K12 hK12 => ?_
  refine W.seq fun K13 hK13 => ?_
  obtain ⟨k18, hk18, hF⟩ := jE1 hF
  have hJ19 : ∀ (y17 : Bool) (w14 : World) (_ : k18 y17 = some r) (_ : Below w0.heap.size w0 w14) (_ : Sep w0.heap.size w14 [R.blk b2 53 [v0_0, v0_1, (.int .i64 x0.2.2.1), (.int .i64 x0.2.2.2)], R.blk b7 53 [(.slice none 0 0), (.slice none 0 0), (.int .i64 0), (.int .i64 0)]]), ∀ a, St 85 [(1, (.int .i64 x1)), (2, (.pointer (some ⟨b2, 0, none⟩))), (4, (.pointer (some ⟨b7, 0, none⟩))), (18, (.bool y17))] a → K13 a w14 := by
    intro y17 w14 hF hB15 hS16
    subst hk18
    refine fun a ha => hK13 _ _ ?_ a ha
    refine W.cond rfl (fun h20 => ?_) (fun h20 => ?_)
    · replace hF := ifP h20 hF
      refine W.seq fun K21 hK21 => ?_
      refine W.region ?_
      refine wl_build (zs := [(.slice none 0 0), (.slice none 0 0), (.int .i64 0), (.int .i64 0)]) (out := [(.slice none 0 0), (.slice none 0 0), (.int .i64 0), (.int .i64 0)]) (vs := []) (css := []) tf_53 pl_53 rfl rfl rfl rfl rfl ?_
      refine wl_store_blk (i := 1) (vs := [(.slice none 0 0), (.slice none 0 0), (.int .i64 0), (.int .i64 0)]) (cs' := [(.slice none 0 0), (.slice none 0 0), (.int .i64 0), (.int .i64 0)]) tf_53 rfl rfl rfl rfl hB15 hS16 rfl rfl ⟨rfl, rfl, rfl, rfl, trivial⟩ rfl ?_
      intro w22 hk25 hB23 hS24
      refine wl_assign rfl rfl ?_
      refine WL.nil ?_
      refine fun a ha => hK21 _ _ ?_ a ha
      refine W.ret ?_
      have hS26 := hS24.push0 (r := R.own ty_63 [] (.slice none 0 0) []) rfl fun _ => .inl ⟨rfl, rfl, rfl⟩
      have hS27 := hS26.push0 (r := R.fr ty_3 [] (.slice none 0 0) []) rfl fun _ => rdS_nil
      have hr := Option.some.inj hF
      subst hr
      exact rets (vs := [(.agg #[(.slice none 0 0), (.slice none 0 0), (.int .i64 0), (.int .i64 0)]), (.bool false)]) hQ rfl ⟨rv_cell (i := 1) tf_53 rfl hS24 rfl rfl rfl, rv_tmp rfl, trivial⟩ ⟨(.slice none 0 0), [], (.slice none 0 0), [], rfl, hB23, hS27.sel [1, 0] rfl⟩
    · replace hF := ifN h20 hF
      refine W.skip ?_
      refine fun a ha => hK12 _ _ ?_ a ha
      refine W.seq fun K28 hK28 => ?_
      refine W.region ?_
      refine wl_load_blk (i := 0) (vs := [v0_0, v0_1, (.int .i64 x0.2.2.1), (.int .i64 x0.2.2.2)]) (v := (.agg #[v0_0, v0_1, (.int .i64 x0.2.2.1), (.int .i64 x0.2.2.2)])) tf_53 rfl rfl hS16 rfl rfl rfl ?_
      obtain ⟨u29, hu29, hF⟩ := bindE hF
      refine wl_call rfl Try.call170 (C_spec_swOwn w14 x0 v0_0 (h0_0.ro hB15) v0_1 (h0_1.ro hB15) _ hu29) rfl ?_
      rintro _ w34 ⟨v30, F31, v32, F33, rfl, hb35, hM38⟩
      refine ⟨_, rfl, ?_⟩
      have hB36 := hB15.trans (hb35.mono hB15.size)
      have hS37 := hS16.join hb35 hM38 hB15.size
      refine wl_alloc (cs := [(.slice none 0 0), (.slice none 0 0), (.int .i64 0), (.int .i64 0)]) tf_53 rfl rfl hB36 hS37 ?_
      intro b39 w40 hb41 hB42 hS43
      refine wl_store_blk (i := 0) (vs := [v30, v32, (.int .i64 u29.2.2.1), (.int .i64 u29.2.2.2)]) (cs' := [v30, v32, (.int .i64 u29.2.2.1), (.int .i64 u29.2.2.2)]) tf_53 rfl rfl rfl rfl hB42 hS43 rfl rfl ⟨(hS43.own_ro (i := 1) rfl).one, (hS43.own_ro (i := 2) rfl).one, rfl, rfl, trivial⟩ rfl ?_
      intro w44 hk47 hB45 hS46
      refine WL.nil ?_
      refine fun a ha => hK28 _ _ ?_ a ha
      refine W.seq fun K48 hK48 => ?_
      obtain ⟨k55, hk55, hF⟩ := jE1 hF
      have hJ56 : ∀ (l52 : (List (List (Int × Int)))) (v53 : Value) (F54 : List Nat) (w49 : World) (_ : k55 l52 = some r) (_ : Below w0.heap.size w0 w49) (_ : Sep w0.heap.size w49 [R.blk b2 53 [v0_0, v0_1, (.int .i64 x0.2.2.1), (.int .i64 x0.2.2.2)], R.blk b7 53 [(.slice none 0 0), (.slice none 0 0), (.int .i64 0), (.int .i64 0)], R.own ty_63 F54 v53 l52, R.own ty_3 F33 v32 u29.2.1, R.blk b39 53 [v53, v32, (.int .i64 u29.2.2.1), (.int .i64 u29.2.2.2)]]), ∀ a, St 85 [(1, (.int .i64 x1)), (2, (.pointer (some ⟨b2, 0, none⟩))), (4, (.pointer (some ⟨b7, 0, none⟩))), (6, (.pointer (some ⟨b39, 0, none⟩)))] a → K48 a w49 := by
        intro l52 v53 F54 w49 hF hB50 hS51
        subst hk55
        refine fun a ha => hK48 _ _ ?_ a ha
        refine W.seq fun K57 hK57 => ?_
        obtain ⟨k64, hk64, hF⟩ := jE1 hF
        have hJ65 : ∀ (l61 : (List Int)) (v62 : Value) (F63 : List Nat) (w58 : World) (_ : k64 l61 = some r) (_ : Below w0.heap.size w0 w58) (_ : Sep w0.heap.size w58 [R.blk b7 53 [(.slice none 0 0), (.slice none 0 0), (.int .i64 0), (.int .i64 0)], R.own ty_63 F54 v53 l52, R.fr ty_3 F63 v62 l61, R.blk b39 53 [v53, v62, (.int .i64 u29.2.2.1), (.int .i64 u29.2.2.2)]]), ∀ a, St 85 [(4, (.pointer (some ⟨b7, 0, none⟩))), (6, (.pointer (some ⟨b39, 0, none⟩)))] a → K57 a w58 := by
          intro l61 v62 F63 w58 hF hB59 hS60
          subst hk64
          refine fun a ha => hK57 _ _ ?_ a ha
          refine W.seq fun K66 hK66 => ?_
          refine W.region ?_
          refine wl_load_blk (i := 3) (vs := [v53, v62, (.int .i64 u29.2.2.1), (.int .i64 u29.2.2.2)]) (v := (.agg #[v53, v62, (.int .i64 u29.2.2.1), (.int .i64 u29.2.2.2)])) tf_53 rfl rfl hS60 rfl rfl rfl ?_
          obtain ⟨u67, hu67, hF⟩ := bindE hF
          refine wl_call rfl Try.call172 (C_spec_swIf__take__fr1 w58 (l52, l61, u29.2.2.1, u29.2.2.2) v53 F54 v62 F63 (hS60.sel [1, 2] rfl).base0 _ hu67) rfl ?_
          rintro _ w68 ⟨v73, F74, v75, F76, rfl, hE69, hM70⟩
          refine ⟨_, rfl, ?_⟩
          have hB71 := hS60.takeB [1, 2] rfl (M := [R.own ty_63 F54 v53 l52, R.fr ty_3 F63 v62 l61]) rfl hB59 hE69 hM70
          have hS72 : Sep w0.heap.size w68 [R.own ty_63 F74 v73 u67.1.1, R.fr ty_3 F76 v75 u67.1.2.1, R.blk b7 53 [(.slice none 0 0), (.slice none 0 0), (.int .i64 0), (.int .i64 0)], R.blk b39 53 [v53, v62, (.int .i64 u29.2.2.1), (.int .i64 u29.2.2.2)]] := hS60.take [1, 2] [0, 3] rfl (M := [R.own ty_63 F54 v53 l52, R.fr ty_3 F63 v62 l61]) rfl hM70 hB59.size
          refine wl_extract rfl rfl rfl ?_
          refine wl_extract rfl rfl rfl ?_
          refine wl_store_blk (i := 2) (vs := [v73, v75, (.int .i64 u67.1.2.2.1), (.int .i64 u67.1.2.2.2)]) (cs' := [v73, v75, (.int .i64 u67.1.2.2.1), (.int .i64 u67.1.2.2.2)]) tf_53 rfl rfl rfl rfl hB71 hS72 rfl rfl ⟨(hS72.own_ro (i := 0) rfl).one, (hS72.fr_ro (i := 1) rfl).one, rfl, rfl, trivial⟩ rfl ?_
          intro w77 hk80 hB78 hS79
          refine wl_assign rfl rfl ?_
          refine WL.nil ?_
          refine fun a ha => hK66 _ _ ?_ a ha
          refine W.ret ?_
          have hr := Option.some.inj hF
          subst hr
          exact rets (vs := [(.agg #[v73, v75, (.int .i64 u67.1.2.2.1), (.int .i64 u67.1.2.2.2)]), (.bool u67.2)]) hQ rfl ⟨rv_cell (i := 2) tf_53 rfl hS79 rfl rfl rfl, rv_tmp rfl, trivial⟩ ⟨v73, F74, v75, F76, rfl, hB78, hS79.sel [0, 1] rfl⟩
        refine W.block ?_
        refine W.seq fun K81 hK81 => ?_
        refine W.region ?_
        refine wl_move rfl rfl ?_
        refine wl_eql rfl rfl rfl ?_
        refine wl_assign rfl rfl ?_
        refine WL.nil ?_
        refine fun a ha => hK81 _ _ ?_ a ha
        refine W.cond rfl (fun h82 => ?_) (fun h82 => ?_)
        · replace hF := ifP h82 hF
          refine W.region ?_
          refine wl_field (o := 1) (off' := 1) ff_53_1 rfl rfl rfl ?_
          refine wl_load_blk (i := 4) (vs := [v32]) (v := v32) tf_29 rfl rfl hS51 rfl rfl rfl ?_
          obtain ⟨u83, hu83, hF⟩ := bindE hF
          refine wl_sliceof (e := ty_3) Try.underlying29 rfl rfl (hS51.ok (i := 3) rfl : ownS ty_3 _ _ _ _).rd hu83 (.inr ⟨_, _, rfl, rfl⟩) (.inl ⟨rfl, rfl⟩) ?_
          intro v84 hv87 hs86
          have hv85 := hv87.mono fun b hb => ((hS51.get (i := 3) rfl).2.1 b hb).2
          refine wl_field (o := 1) (off' := 1) ff_53_1 rfl rfl rfl ?_
          have hS91 := (hS51.sel [3, 0, 1, 2, 4] rfl).shrink (r' := R.fr ty_3 F33 v84 u83) (hS51.get (i := 3) rfl).1 (fun _ h => h) fun _ hk => hv87.keep hk
          refine wl_store_blk (i := 4) (vs := [v84]) (cs' := [v53, v84, (.int .i64 u29.2.2.1), (.int .i64 u29.2.2.2)]) tf_29 rfl rfl (cells_one (hS91.fr_ro (i := 0) rfl).one) rfl hB50 hS91 rfl rfl ⟨(hS91.fr_ro (i := 0) rfl).one, trivial⟩ rfl ?_
          intro w88 hk92 hB89 hS90
          refine WL.nil ?_
          exact fun a ha => hJ65 (u83) (v84) (F33) _ hF hB89 (hS90.sel [2, 3, 0, 4] rfl) a (ha.sub ⟨rfl, rfl, trivial⟩)
        · replace hF := ifN h82 hF
          refine W.seq fun K93 hK93 => ?_
          refine W.region ?_
          refine wl_move rfl rfl ?_
          refine wl_field (o := 0) (off' := 0) ff_53_0 rfl rfl rfl ?_
          refine wl_load_blk (i := 0) (vs := [v0_0]) (v := v0_0) tf_51 rfl rfl hS51 rfl rfl rfl ?_
          refine wl_lenr (e := ty_63) (l := x0.1) Try.underlying51 rfl rfl h0_0 ?_
          refine wl_sub rfl rfl rfl ?_
          refine wl_eql rfl rfl rfl ?_
          refine wl_assign rfl rfl ?_
          refine WL.nil ?_
          refine fun a ha => hK93 _ _ ?_ a ha
          refine W.cond rfl (fun h94 => ?_) (fun h94 => ?_)
          · replace hF := ifP h94 hF
            refine W.region ?_
            refine wl_field (o := 1) (off' := 1) ff_53_1 rfl rfl rfl ?_
            refine wl_load_blk (i := 4) (vs := [v32]) (v := v32) tf_29 rfl rfl hS51 rfl rfl rfl ?_
            refine wl_move rfl rfl ?_
            refine wl_sub rfl rfl rfl ?_
            obtain ⟨u95, hu95, hF⟩ := bindE hF
            refine wl_sliceof (e := ty_3) Try.underlying29 rfl rfl (hS51.ok (i := 3) rfl : ownS ty_3 _ _ _ _).rd hu95 (.inl ⟨rfl, rfl⟩) (.inr ⟨_, _, rfl, rfl⟩) ?_
            intro v96 hv99 hs98
            have hv97 := hv99.mono fun b hb => ((hS51.get (i := 3) rfl).2.1 b hb).2
            refine wl_field (o := 1) (off' := 1) ff_53_1 rfl rfl rfl ?_
            obtain ⟨F104, hq105, hq106, hq107⟩ := own_pre (hS51.ok (i := 3) rfl : ownS ty_3 _ _ _ _) (hS51.get (i := 3) rfl).1 hs98 (sl_le hu95).1
            rw [show List.take ((w64 (x1 - 1)) : Int).toNat u29.2.1 = u95 from (sl_le hu95).2.symm] at hq105
            have hS103 := (hS51.sel [3, 0, 1, 2, 4] rfl).shrink (r' := R.own ty_3 F104 v96 u95) hq106 hq107 fun _ hk => hq105.keep hk
            refine wl_store_blk (i := 4) (vs := [v96]) (cs' := [v53, v96, (.int .i64 u29.2.2.1), (.int .i64 u29.2.2.2)]) tf_29 rfl rfl (cells_one (hS103.own_ro (i := 0) rfl).one) rfl hB50 hS103 rfl rfl ⟨(hS103.own_ro (i := 0) rfl).one, trivial⟩ rfl ?_
            intro w100 hk109 hB101 hS102
            refine WL.nil ?_
            have hS110 := (hS102.sel [0, 1, 2, 3, 4] rfl).head (r' := R.fr ty_3 F104 v96 u95) rfl fun _ h => ownS.rd h
            exact fun a ha => hJ65 (u95) (v96) (F104) _ hF hB101 (hS110.sel [2, 3, 0, 4] rfl) a (ha.sub ⟨rfl, rfl, trivial⟩)
          · replace hF := ifN h94 hF
            refine W.seq fun K111 hK111 => ?_
            obtain ⟨k118, hk118, hF⟩ := jE1 hF
            have hJ119 : ∀ (l115 : (List Int)) (v116 : Value) (F117 : List Nat) (w112 : World) (_ : k118 l115 = some r) (_ : Below w0.heap.size w0 w112) (_ : Sep w0.heap.size w112 [R.blk b2 53 [v0_0, v0_1, (.int .i64 x0.2.2.1), (.int .i64 x0.2.2.2)], R.blk b7 53 [(.slice none 0 0), (.slice none 0 0), (.int .i64 0), (.int .i64 0)], R.own ty_63 F54 v53 l52, R.own ty_3 F117 v116 l115, R.blk b39 53 [v53, v116, (.int .i64 u29.2.2.1), (.int .i64 u29.2.2.2)]]), ∀ a, St 85 [(1, (.int .i64 x1)), (2, (.pointer (some ⟨b2, 0, none⟩))), (4, (.pointer (some ⟨b7, 0, none⟩))), (6, (.pointer (some ⟨b39, 0, none⟩)))] a → K111 a w112 := by
              intro l115 v116 F117 w112 hF hB113 hS114
              subst hk118
              refine fun a ha => hK111 _ _ ?_ a ha
              refine W.regionH mixed_ (F117 ++ [b39]) hB113 hS114 ?_
              intro w120 hb121 hB122 hS123
              have hSW124 := KeepX.refl w120 (F117 ++ [b39])
              refine WH.takex (i := 0) rfl (by kernel_rfl) (by kernel_rfl) (by kernel_rfl) hP hSW124 ?_
              refine pr_field (o := 1) (off' := 1) ff_53_1 rfl rfl rfl ?_
              refine WH.takex (i := 2) rfl (by kernel_rfl) (by kernel_rfl) (by kernel_rfl) hP hSW124 ?_
              refine pr_move rfl rfl ?_
              refine WH.takex (i := 3) rfl (by kernel_rfl) (by kernel_rfl) (by kernel_rfl) hP hSW124 ?_
              refine pr_sub rfl rfl rfl ?_
              refine WH.takex (i := 4) rfl (by kernel_rfl) (by kernel_rfl) (by kernel_rfl) hP hSW124 ?_
              refine pr_field (o := 1) (off' := 1) ff_53_1 rfl rfl rfl ?_
              refine WH.takex (i := 5) rfl (by kernel_rfl) (by kernel_rfl) (by kernel_rfl) hP hSW124 ?_
              refine pr_load_blk (i := 0) (vs := [v0_1]) (v := v0_1) tf_29 rfl rfl hS123 rfl rfl rfl (fun hb => (List.mem_append.1 hb).elim (hS123.disj (i := 0) (j := 3) rfl rfl rfl b2 (by simp [R.blk])) (hS123.disj (i := 0) (j := 4) rfl rfl rfl b2 (by simp [R.blk]))) ?_
              refine WH.takex (i := 6) rfl (by kernel_rfl) (by kernel_rfl) (by kernel_rfl) hP hSW124 ?_
              refine pr_move rfl rfl ?_
              refine WH.takex (i := 7) rfl (by kernel_rfl) (by kernel_rfl) (by kernel_rfl) hP hSW124 ?_
              refine pr_sub rfl rfl rfl ?_
              obtain ⟨u125, hu125, hF⟩ := bindE hF
              refine WH.takex (i := 8) rfl (by kernel_rfl) (by kernel_rfl) (by kernel_rfl) hP hSW124 ?_
              refine pr_index (e := ty_3) Try.underlying29 rfl rfl rfl h0_1 hu125 ?_
              rintro p126 _ rfl hp127
              refine WH.takex (i := 9) rfl (by kernel_rfl) (by kernel_rfl) (by kernel_rfl) hP hSW124 ?_
              refine pr_load_p (vs := [(.int .i64 u125)]) (v := (.int .i64 u125)) tf_3 rfl rfl (hp127.kx hB122 (fun b hb => ((List.mem_append.1 hb).elim (fun hb => (((hS123.get (i := 3) rfl).2.1 b hb).1)) (fun hb => (((hS123.get (i := 4) rfl).2.1 b hb).1))))) rfl rfl ?_
              refine WH.takex (i := 10) rfl (by kernel_rfl) (by kernel_rfl) (by kernel_rfl) hP hSW124 ?_
              refine pr_field (o := 1) (off' := 1) ff_53_1 rfl rfl rfl ?_
              refine WH.takex (i := 11) rfl (by kernel_rfl) (by kernel_rfl) (by kernel_rfl) hP hSW124 ?_
              refine pr_load_blk (i := 0) (vs := [v0_1]) (v := v0_1) tf_29 rfl rfl hS123 rfl rfl rfl (fun hb => (List.mem_append.1 hb).elim (hS123.disj (i := 0) (j := 3) rfl rfl rfl b2 (by simp [R.blk])) (hS123.disj (i := 0) (j := 4) rfl rfl rfl b2 (by simp [R.blk]))) ?_
              refine WH.takex (i := 12) rfl (by kernel_rfl) (by kernel_rfl) (by kernel_rfl) hP hSW124 ?_
              refine pr_move rfl rfl ?_
              obtain ⟨u128, hu128, hF⟩ := bindE hF
              refine WH.takex (i := 13) rfl (by kernel_rfl) (by kernel_rfl) (by kernel_rfl) hP hSW124 ?_
              refine pr_index (e := ty_3) Try.underlying29 rfl rfl rfl h0_1 hu128 ?_
              rintro p129 _ rfl hp130
              refine WH.takex (i := 14) rfl (by kernel_rfl) (by kernel_rfl) (by kernel_rfl) hP hSW124 ?_
              refine pr_load_p (vs := [(.int .i64 u128)]) (v := (.int .i64 u128)) tf_3 rfl rfl (hp130.kx hB122 (fun b hb => ((List.mem_append.1 hb).elim (fun hb => (((hS123.get (i := 3) rfl).2.1 b hb).1)) (fun hb => (((hS123.get (i := 4) rfl).2.1 b hb).1))))) rfl rfl ?_
              refine WH.takex (i := 15) rfl (by kernel_rfl) (by kernel_rfl) (by kernel_rfl) hP hSW124 ?_
              refine pr_add rfl rfl rfl ?_
              refine WH.one (i := 1) (by kernel_rfl) rfl ?_
              refine wl_load_blk (i := 4) (vs := [v116]) (v := v116) tf_29 rfl rfl hS123 rfl rfl rfl ?_
              refine WL.nil (WH.ret hSW124 ?_)
              obtain ⟨u131, hu131, hF⟩ := bindE hF
              refine WH.takex (i := 16) rfl (by kernel_rfl) (by kernel_rfl) (by kernel_rfl) hP hSW124 ?_
              refine pr_indexo (e := ty_3) (i := 3) Try.underlying29 rfl rfl rfl hS123 rfl hu131 ?_
              rintro p132 _ rfl hp133 ho134
              refine WH.one (i := 17) (by kernel_rfl) rfl ?_
              refine wl_storeo (i := 3) (o := 0) (vs := [(.int .i64 (w64 (u125 + u128)))]) (u' := (w64 (u125 + u128))) fl_3 tf_3 rfl rfl rfl rfl ho134 hu131 hB122 hS123 rfl rfl ⟨rfl, trivial⟩ rfl ?_
              intro w135 hk138 hB136 hS137
              have hSW139 := hSW124.wr' hk138.1 hk138.2.1 (fun _ _ h => List.mem_append_left _ (h))
              have hbs140 : ∀ b, b < w120.heap.size → b ∈ F117 → b ∈ (F117 ++ [b39]) := fun b hlt hb => (hk138.2.2 b hb).elim ((fun _ _ h => List.mem_append_left _ (h)) b hlt) (fun h => absurd hlt (Nat.not_lt.2 (Nat.le_trans hSW124.size h)))
              refine WL.nil (WH.ret hSW139 ?_)
              refine WH.done (by kernel_rfl) ?_
              have hS141 := (hS137.sel [3, 0, 1, 2, 4] rfl).head (r' := R.fr ty_3 F117 v116 (seti l115 (w64 (x1 - 1)) (w64 (u125 + u128)))) rfl fun _ h => ownS.rd h
              exact fun a ha => hJ65 ((seti l115 (w64 (x1 - 1)) (w64 (u125 + u128)))) (v116) (F117) _ hF hB136 (hS141.sel [2, 3, 0, 4] rfl) a (ha.sub ⟨rfl, rfl, trivial⟩)
            refine W.regionH mixed_ (F33 ++ [b39]) hB50 hS51 ?_
            intro w142 hb143 hB144 hS145
            have hSW146 := KeepX.refl w142 (F33 ++ [b39])
            refine WH.takex (i := 0) rfl (by kernel_rfl) (by kernel_rfl) (by kernel_rfl) hP hSW146 ?_
            refine pr_field (o := 1) (off' := 1) ff_53_1 rfl rfl rfl ?_
            refine WH.takex (i := 2) rfl (by kernel_rfl) (by kernel_rfl) (by kernel_rfl) hP hSW146 ?_
            refine pr_move rfl rfl ?_
            refine WH.takex (i := 4) rfl (by kernel_rfl) (by kernel_rfl) (by kernel_rfl) hP hSW146 ?_
            refine pr_field (o := 1) (off' := 1) ff_53_1 rfl rfl rfl ?_
            refine WH.takex (i := 6) rfl (by kernel_rfl) (by kernel_rfl) (by kernel_rfl) hP hSW146 ?_
            refine pr_move rfl rfl ?_
            refine WH.takex (i := 7) rfl (by kernel_rfl) (by kernel_rfl) (by kernel_rfl) hP hSW146 ?_
            refine pr_add rfl rfl rfl ?_
            refine WH.many (is := [1, 5]) (by kernel_rfl) rfl ?_
            refine List.forall_mem_cons.2 ⟨⟨_, rfl, ?_⟩, List.forall_mem_cons.2 ⟨⟨_, rfl, ?_⟩, fun _ h => by cases h⟩⟩
            ·
              refine wl_load_blk (i := 4) (vs := [v32]) (v := v32) tf_29 rfl rfl hS145 rfl rfl rfl ?_
              refine WL.nil (WH.ret hSW146 ?_)
              obtain ⟨u147, hu147, hF⟩ := bindE hF
              refine WH.takex (i := 3) rfl (by kernel_rfl) (by kernel_rfl) (by kernel_rfl) hP hSW146 ?_
              refine pr_sliceof (e := ty_3) Try.underlying29 rfl rfl (hS145.ok (i := 3) rfl : ownS ty_3 _ _ _ _).rd hu147 (.inl ⟨rfl, rfl⟩) (.inr ⟨_, _, rfl, rfl⟩) ?_
              intro v148 hv151 hs150
              have hv149 := hv151.mono fun b hb => ((hS145.get (i := 3) rfl).2.1 b hb).2
              refine WH.one (i := 5) (by kernel_rfl) rfl ?_
              refine wl_load_blk (i := 4) (vs := [v32]) (v := v32) tf_29 rfl rfl hS145 rfl rfl rfl ?_
              refine WL.nil (WH.ret hSW146 ?_)
              obtain ⟨u152, hu152, hF⟩ := bindE hF
              refine WH.takex (i := 8) rfl (by kernel_rfl) (by kernel_rfl) (by kernel_rfl) hP hSW146 ?_
              refine pr_sliceof (e := ty_3) Try.underlying29 rfl rfl (hS145.ok (i := 3) rfl : ownS ty_3 _ _ _ _).rd hu152 (.inr ⟨_, _, rfl, rfl⟩) (.inl ⟨rfl, rfl⟩) ?_
              intro v153 hv156 hs155
              have hv154 := hv156.mono fun b hb => ((hS145.get (i := 3) rfl).2.1 b hb).2
              refine WH.one (i := 9) (by kernel_rfl) rfl ?_
              obtain ⟨u157, hu157, hF⟩ := bindE hF
              obtain ⟨hc158, hc159, hc160, hc161⟩ := cutL_some hu157
              refine wl_appendcut (e := ty_3) Try.underlying29 rfl rfl rfl hB144 (hS145.sel [3, 0, 1, 2, 4] rfl) hs150 hs155 hc159 hc160 ?_
              intro v162 F163 w164 hk165 hcap166 hB167 hS168
              have hS169 : Sep w0.heap.size w164 [R.own ty_3 F163 v162 u157, R.blk b2 53 [v0_0, v0_1, (.int .i64 x0.2.2.1), (.int .i64 x0.2.2.2)], R.blk b7 53 [(.slice none 0 0), (.slice none 0 0), (.int .i64 0), (.int .i64 0)], R.own ty_63 F54 v53 l52, R.blk b39 53 [v53, v32, (.int .i64 u29.2.2.1), (.int .i64 u29.2.2.2)]] := by rw [hc158]; exact hS168
              have hSW170 := hSW146.wr' hk165.1 hk165.2.1 (fun _ _ h => List.mem_append_left _ (h))
              have hbs171 : ∀ b, b < w142.heap.size → b ∈ F163 → b ∈ (F33 ++ [b39]) := fun b hlt hb => (hk165.2.2 b hb).elim ((fun _ _ h => List.mem_append_left _ (h)) b hlt) (fun h => absurd hlt (Nat.not_lt.2 (Nat.le_trans hSW146.size h)))
              refine WL.nil (WH.ret hSW170 ?_)
              refine WH.takex (i := 10) rfl (by kernel_rfl) (by kernel_rfl) (by kernel_rfl) hP hSW170 ?_
              refine pr_field (o := 1) (off' := 1) ff_53_1 rfl rfl rfl ?_
              refine WH.one (i := 11) (by kernel_rfl) rfl ?_
              refine wl_store_blk (i := 4) (vs := [v162]) (cs' := [v53, v162, (.int .i64 u29.2.2.1), (.int .i64 u29.2.2.2)]) tf_29 rfl rfl (cells_one (hS169.own_ro (i := 0) rfl).one) rfl hB167 hS169 rfl rfl ⟨(hS169.own_ro (i := 0) rfl).one, trivial⟩ rfl ?_
              intro w172 hk175 hB173 hS174
              have hSW176 := hSW170.wr' hk175.1 hk175.2.1 (fun _ _ h => List.mem_append_right _ h)
              have hbs177 : ∀ b, b < w142.heap.size → b ∈ [b39] → b ∈ (F33 ++ [b39]) := fun b hlt hb => (hk175.2.2 b hb).elim ((fun _ _ h => List.mem_append_right _ h) b hlt) (fun h => absurd hlt (Nat.not_lt.2 (Nat.le_trans hSW170.size h)))
              refine WL.nil (WH.ret hSW176 ?_)
              refine WH.done (by kernel_rfl) ?_
              exact fun a ha => hJ119 (u157) (v162) (F163) _ hF hB173 (hS174.sel [1, 2, 3, 0, 4] rfl) a (ha.sub ⟨rfl, rfl, rfl, rfl, trivial⟩)
            ·
              refine wl_load_blk (i := 4) (vs := [v32]) (v := v32) tf_29 rfl rfl hS145 rfl rfl rfl ?_
              refine WL.nil (WH.ret hSW146 ?_)
              obtain ⟨u178, hu178, hF⟩ := bindE hF
              obtain ⟨u179, hu179, hF⟩ := bindE hF
              refine WH.takex (i := 8) rfl (by kernel_rfl) (by kernel_rfl) (by kernel_rfl) hP hSW146 ?_
              refine pr_sliceof (e := ty_3) Try.underlying29 rfl rfl (hS145.ok (i := 3) rfl : ownS ty_3 _ _ _ _).rd hu179 (.inr ⟨_, _, rfl, rfl⟩) (.inl ⟨rfl, rfl⟩) ?_
              intro v180 hv183 hs182
              have hv181 := hv183.mono fun b hb => ((hS145.get (i := 3) rfl).2.1 b hb).2
              refine WH.one (i := 1) (by kernel_rfl) rfl ?_
              refine wl_load_blk (i := 4) (vs := [v32]) (v := v32) tf_29 rfl rfl hS145 rfl rfl rfl ?_
              refine WL.nil (WH.ret hSW146 ?_)
              refine WH.takex (i := 3) rfl (by kernel_rfl) (by kernel_rfl) (by kernel_rfl) hP hSW146 ?_
              refine pr_sliceof (e := ty_3) Try.underlying29 rfl rfl (hS145.ok (i := 3) rfl : ownS ty_3 _ _ _ _).rd hu178 (.inl ⟨rfl, rfl⟩) (.inr ⟨_, _, rfl, rfl⟩) ?_
              intro v184 hv187 hs186
              have hv185 := hv187.mono fun b hb => ((hS145.get (i := 3) rfl).2.1 b hb).2
              refine WH.one (i := 9) (by kernel_rfl) rfl ?_
              obtain ⟨u188, hu188, hF⟩ := bindE hF
              obtain ⟨hc189, hc190, hc191, hc192⟩ := cutL_some hu188
              refine wl_appendcut (e := ty_3) Try.underlying29 rfl rfl rfl hB144 (hS145.sel [3, 0, 1, 2, 4] rfl) hs186 hs182 hc190 hc191 ?_
              intro v193 F194 w195 hk196 hcap197 hB198 hS199
              have hS200 : Sep w0.heap.size w195 [R.own ty_3 F194 v193 u188, R.blk b2 53 [v0_0, v0_1, (.int .i64 x0.2.2.1), (.int .i64 x0.2.2.2)], R.blk b7 53 [(.slice none 0 0), (.slice none 0 0), (.int .i64 0), (.int .i64 0)], R.own ty_63 F54 v53 l52, R.blk b39 53 [v53, v32, (.int .i64 u29.2.2.1), (.int .i64 u29.2.2.2)]] := by rw [hc189]; exact hS199
              have hSW201 := hSW146.wr' hk196.1 hk196.2.1 (fun _ _ h => List.mem_append_left _ (h))
              have hbs202 : ∀ b, b < w142.heap.size → b ∈ F194 → b ∈ (F33 ++ [b39]) := fun b hlt hb => (hk196.2.2 b hb).elim ((fun _ _ h => List.mem_append_left _ (h)) b hlt) (fun h => absurd hlt (Nat.not_lt.2 (Nat.le_trans hSW146.size h)))
              refine WL.nil (WH.ret hSW201 ?_)
              refine WH.takex (i := 10) rfl (by kernel_rfl) (by kernel_rfl) (by kernel_rfl) hP hSW201 ?_
              refine pr_field (o := 1) (off' := 1) ff_53_1 rfl rfl rfl ?_
              refine WH.one (i := 11) (by kernel_rfl) rfl ?_
              refine wl_store_blk (i := 4) (vs := [v193]) (cs' := [v53, v193, (.int .i64 u29.2.2.1), (.int .i64 u29.2.2.2)]) tf_29 rfl rfl (cells_one (hS200.own_ro (i := 0) rfl).one) rfl hB198 hS200 rfl rfl ⟨(hS200.own_ro (i := 0) rfl).one, trivial⟩ rfl ?_
              intro w203 hk206 hB204 hS205
              have hSW207 := hSW201.wr' hk206.1 hk206.2.1 (fun _ _ h => List.mem_append_right _ h)
              have hbs208 : ∀ b, b < w142.heap.size → b ∈ [b39] → b ∈ (F33 ++ [b39]) := fun b hlt hb => (hk206.2.2 b hb).elim ((fun _ _ h => List.mem_append_right _ h) b hlt) (fun h => absurd hlt (Nat.not_lt.2 (Nat.le_trans hSW201.size h)))
              refine WL.nil (WH.ret hSW207 ?_)
              refine WH.done (by kernel_rfl) ?_
              exact fun a ha => hJ119 (u188) (v193) (F194) _ hF hB204 (hS205.sel [1, 2, 3, 0, 4] rfl) a (ha.sub ⟨rfl, rfl, rfl, rfl, trivial⟩)
      refine W.regionH mixed_ ([b39] ++ F31) hB45 hS46 ?_
      intro w209 hb210 hB211 hS212
      have hSW213 := KeepX.refl w209 ([b39] ++ F31)
      refine WH.takex (i := 0) rfl (by kernel_rfl) (by kernel_rfl) (by kernel_rfl) hP hSW213 ?_
      refine pr_field (o := 0) (off' := 0) ff_53_0 rfl rfl rfl ?_
      refine WH.takex (i := 2) rfl (by kernel_rfl) (by kernel_rfl) (by kernel_rfl) hP hSW213 ?_
      refine pr_move rfl rfl ?_
      refine WH.takex (i := 4) rfl (by kernel_rfl) (by kernel_rfl) (by kernel_rfl) hP hSW213 ?_
      refine pr_field (o := 0) (off' := 0) ff_53_0 rfl rfl rfl ?_
      refine WH.takex (i := 6) rfl (by kernel_rfl) (by kernel_rfl) (by kernel_rfl) hP hSW213 ?_
      refine pr_move rfl rfl ?_
      refine WH.takex (i := 7) rfl (by kernel_rfl) (by kernel_rfl) (by kernel_rfl) hP hSW213 ?_
      refine pr_add rfl rfl rfl ?_
      refine WH.many (is := [1, 5]) (by kernel_rfl) rfl ?_
      refine List.forall_mem_cons.2 ⟨⟨_, rfl, ?_⟩, List.forall_mem_cons.2 ⟨⟨_, rfl, ?_⟩, fun _ h => by cases h⟩⟩
      ·
        refine wl_load_blk (i := 0) (vs := [v30]) (v := v30) tf_51 rfl rfl hS212 rfl rfl rfl ?_
        refine WL.nil (WH.ret hSW213 ?_)
        obtain ⟨u214, hu214, hF⟩ := bindE hF
        refine WH.takex (i := 3) rfl (by kernel_rfl) (by kernel_rfl) (by kernel_rfl) hP hSW213 ?_
        refine pr_sliceof (e := ty_63) Try.underlying51 rfl rfl (hS212.ok (i := 1) rfl : ownS ty_63 _ _ _ _).rd hu214 (.inl ⟨rfl, rfl⟩) (.inr ⟨_, _, rfl, rfl⟩) ?_
        intro v215 hv218 hs217
        have hv216 := hv218.mono fun b hb => ((hS212.get (i := 1) rfl).2.1 b hb).2
        refine WH.one (i := 5) (by kernel_rfl) rfl ?_
        refine wl_load_blk (i := 0) (vs := [v30]) (v := v30) tf_51 rfl rfl hS212 rfl rfl rfl ?_
        refine WL.nil (WH.ret hSW213 ?_)
        obtain ⟨u219, hu219, hF⟩ := bindE hF
        refine WH.takex (i := 8) rfl (by kernel_rfl) (by kernel_rfl) (by kernel_rfl) hP hSW213 ?_
        refine pr_sliceof (e := ty_63) Try.underlying51 rfl rfl (hS212.ok (i := 1) rfl : ownS ty_63 _ _ _ _).rd hu219 (.inr ⟨_, _, rfl, rfl⟩) (.inl ⟨rfl, rfl⟩) ?_
        intro v220 hv223 hs222
        have hv221 := hv223.mono fun b hb => ((hS212.get (i := 1) rfl).2.1 b hb).2
        refine WH.one (i := 9) (by kernel_rfl) rfl ?_
        obtain ⟨u224, hu224, hF⟩ := bindE hF
        obtain ⟨hc225, hc226, hc227, hc228⟩ := cutL_some hu224
        refine wl_appendcut (e := ty_63) Try.underlying51 rfl rfl rfl hB211 (hS212.sel [1, 0, 2, 3, 4] rfl) hs217 hs222 hc226 hc227 ?_
        intro v229 F230 w231 hk232 hcap233 hB234 hS235
        have hS236 : Sep w0.heap.size w231 [R.own ty_63 F230 v229 u224, R.blk b39 53 [v30, v32, (.int .i64 u29.2.2.1), (.int .i64 u29.2.2.2)], R.own ty_3 F33 v32 u29.2.1, R.blk b2 53 [v0_0, v0_1, (.int .i64 x0.2.2.1), (.int .i64 x0.2.2.2)], R.blk b7 53 [(.slice none 0 0), (.slice none 0 0), (.int .i64 0), (.int .i64 0)]] := by rw [hc225]; exact hS235
        have hSW237 := hSW213.wr' hk232.1 hk232.2.1 (fun _ _ h => List.mem_append_right _ h)
        have hbs238 : ∀ b, b < w209.heap.size → b ∈ F230 → b ∈ ([b39] ++ F31) := fun b hlt hb => (hk232.2.2 b hb).elim ((fun _ _ h => List.mem_append_right _ h) b hlt) (fun h => absurd hlt (Nat.not_lt.2 (Nat.le_trans hSW213.size h)))
        refine WL.nil (WH.ret hSW237 ?_)
        refine WH.takex (i := 10) rfl (by kernel_rfl) (by kernel_rfl) (by kernel_rfl) hP hSW237 ?_
        refine pr_field (o := 0) (off' := 0) ff_53_0 rfl rfl rfl ?_
        refine WH.one (i := 11) (by kernel_rfl) rfl ?_
        refine wl_store_blk (i := 1) (vs := [v229]) (cs' := [v229, v32, (.int .i64 u29.2.2.1), (.int .i64 u29.2.2.2)]) tf_51 rfl rfl (cells_one (hS236.own_ro (i := 0) rfl).one) rfl hB234 hS236 rfl rfl ⟨(hS236.own_ro (i := 0) rfl).one, trivial⟩ rfl ?_
        intro w239 hk242 hB240 hS241
        have hSW243 := hSW237.wr' hk242.1 hk242.2.1 (fun _ _ h => List.mem_append_left _ (h))
        have hbs244 : ∀ b, b < w209.heap.size → b ∈ [b39] → b ∈ ([b39] ++ F31) := fun b hlt hb => (hk242.2.2 b hb).elim ((fun _ _ h => List.mem_append_left _ (h)) b hlt) (fun h => absurd hlt (Nat.not_lt.2 (Nat.le_trans hSW237.size h)))
        refine WL.nil (WH.ret hSW243 ?_)
        refine WH.done (by kernel_rfl) ?_
        exact fun a ha => hJ56 (u224) (v229) (F230) _ hF hB240 (hS241.sel [3, 4, 0, 2, 1] rfl) a (ha.sub ⟨rfl, rfl, rfl, rfl, trivial⟩)
      ·
        refine wl_load_blk (i := 0) (vs := [v30]) (v := v30) tf_51 rfl rfl hS212 rfl rfl rfl ?_
        refine WL.nil (WH.ret hSW213 ?_)
        obtain ⟨u245, hu245, hF⟩ := bindE hF
        obtain ⟨u246, hu246, hF⟩ := bindE hF
        refine WH.takex (i := 8) rfl (by kernel_rfl) (by kernel_rfl) (by kernel_rfl) hP hSW213 ?_
        refine pr_sliceof (e := ty_63) Try.underlying51 rfl rfl (hS212.ok (i := 1) rfl : ownS ty_63 _ _ _ _).rd hu246 (.inr ⟨_, _, rfl, rfl⟩) (.inl ⟨rfl, rfl⟩) ?_
        intro v247 hv250 hs249
        have hv248 := hv250.mono fun b hb => ((hS212.get (i := 1) rfl).2.1 b hb).2
        refine WH.one (i := 1) (by kernel_rfl) rfl ?_
        refine wl_load_blk (i := 0) (vs := [v30]) (v := v30) tf_51 rfl rfl hS212 rfl rfl rfl ?_
        refine WL.nil (WH.ret hSW213 ?_)
        refine WH.takex (i := 3) rfl (by kernel_rfl) (by kernel_rfl) (by kernel_rfl) hP hSW213 ?_
        refine pr_sliceof (e := ty_63) Try.underlying51 rfl rfl (hS212.ok (i := 1) rfl : ownS ty_63 _ _ _ _).rd hu245 (.inl ⟨rfl, rfl⟩) (.inr ⟨_, _, rfl, rfl⟩) ?_
        intro v251 hv254 hs253
        have hv252 := hv254.mono fun b hb => ((hS212.get (i := 1) rfl).2.1 b hb).2
        refine WH.one (i := 9) (by kernel_rfl) rfl ?_
        obtain ⟨u255, hu255, hF⟩ := bindE hF
        obtain ⟨hc256, hc257, hc258, hc259⟩ := cutL_some hu255
        refine wl_appendcut (e := ty_63) Try.underlying51 rfl rfl rfl hB211 (hS212.sel [1, 0, 2, 3, 4] rfl) hs253 hs249 hc257 hc258 ?_
        intro v260 F261 w262 hk263 hcap264 hB265 hS266
        have hS267 : Sep w0.heap.size w262 [R.own ty_63 F261 v260 u255, R.blk b39 53 [v30, v32, (.int .i64 u29.2.2.1), (.int .i64 u29.2.2.2)], R.own ty_3 F33 v32 u29.2.1, R.blk b2 53 [v0_0, v0_1, (.int .i64 x0.2.2.1), (.int .i64 x0.2.2.2)], R.blk b7 53 [(.slice none 0 0), (.slice none 0 0), (.int .i64 0), (.int .i64 0)]] := by rw [hc256]; exact hS266
        have hSW268 := hSW213.wr' hk263.1 hk263.2.1 (fun _ _ h => List.mem_append_right _ h)
        have hbs269 : ∀ b, b < w209.heap.size → b ∈ F261 → b ∈ ([b39] ++ F31) := fun b hlt hb => (hk263.2.2 b hb).elim ((fun _ _ h => List.mem_append_right _ h) b hlt) (fun h => absurd hlt (Nat.not_lt.2 (Nat.le_trans hSW213.size h)))
        refine WL.nil (WH.ret hSW268 ?_)
        refine WH.takex (i := 10) rfl (by kernel_rfl) (by kernel_rfl) (by kernel_rfl) hP hSW268 ?_
        refine pr_field (o := 0) (off' := 0) ff_53_0 rfl rfl rfl ?_
        refine WH.one (i := 11) (by kernel_rfl) rfl ?_
        refine wl_store_blk (i := 1) (vs := [v260]) (cs' := [v260, v32, (.int .i64 u29.2.2.1), (.int .i64 u29.2.2.2)]) tf_51 rfl rfl (cells_one (hS267.own_ro (i := 0) rfl).one) rfl hB265 hS267 rfl rfl ⟨(hS267.own_ro (i := 0) rfl).one, trivial⟩ rfl ?_
        intro w270 hk273 hB271 hS272
        have hSW274 := hSW268.wr' hk273.1 hk273.2.1 (fun _ _ h => List.mem_append_left _ (h))
        have hbs275 : ∀ b, b < w209.heap.size → b ∈ [b39] → b ∈ ([b39] ++ F31) := fun b hlt hb => (hk273.2.2 b hb).elim ((fun _ _ h => List.mem_append_left _ (h)) b hlt) (fun h => absurd hlt (Nat.not_lt.2 (Nat.le_trans hSW268.size h)))
        refine WL.nil (WH.ret hSW274 ?_)
        refine WH.done (by kernel_rfl) ?_
        exact fun a ha => hJ56 (u255) (v260) (F261) _ hF hB271 (hS272.sel [3, 4, 0, 2, 1] rfl) a (ha.sub ⟨rfl, rfl, rfl, rfl, trivial⟩)
  refine W.region ?_
  refine wl_load_blk (i := 1) (vs := [v0_0, v0_1, (.int .i64 x0.2.2.1), (.int .i64 x0.2.2.2)]) (v := (.agg #[v0_0, v0_1, (.int .i64 x0.2.2.1), (.int .i64 x0.2.2.2)])) tf_53 rfl rfl hS11 rfl rfl rfl ?_
  obtain ⟨u276, hu276, hF⟩ := bindE hF
  refine wl_call rfl Try.call145 (C_spec_swGood w8 x0 v0_0 (h0_0.ro hB10) v0_1 (h0_1.ro hB10) _ hu276) rfl ?_
  rintro _ w277 ⟨rfl, hb278⟩
  refine ⟨_, rfl, ?_⟩
  have hB279 := hB10.trans (hb278.mono hB10.size)
  have hS280 := hS11.below hb278
  refine wl_not rfl rfl ?_
  refine wl_move rfl rfl ?_
  rcases bE (!u276) with h282 | h282
  · replace hF := ifP h282 hF
    refine wl_off rfl rfl rfl h282 ?_
    refine wl_off rfl rfl rfl h282 ?_
    refine wl_off rfl rfl rfl h282 ?_
    refine wl_off rfl rfl rfl h282 ?_
    refine wl_off rfl rfl rfl h282 ?_
    refine wl_off rfl rfl rfl h282 ?_
    refine wl_off rfl rfl rfl h282 ?_
    refine wl_pick_t rfl rfl h282 rfl ?_
    refine WL.nil ?_
    exact fun a ha => hJ19 (true) _ hF hB279 (hS280.sel [1, 0] rfl) a (ha.sub ⟨rfl, rfl, rfl, rfl, trivial⟩)
  · replace hF := ifN h282 hF
    refine wl_on rfl rfl h282 ?_
    refine wl_move rfl rfl ?_
    refine wl_on rfl rfl h282 ?_
    refine wl_field (o := 0) (off' := 0) ff_53_0 rfl rfl rfl ?_
    refine wl_on rfl rfl h282 ?_
    refine wl_load_blk (i := 1) (vs := [v0_0]) (v := v0_0) tf_51 rfl rfl hS280 rfl rfl rfl ?_
    refine wl_on rfl rfl h282 ?_
    refine wl_lenr (e := ty_63) (l := x0.1) Try.underlying51 rfl rfl h0_0 ?_
    refine wl_on rfl rfl h282 ?_
    refine wl_sub rfl rfl rfl ?_
    refine wl_on rfl rfl h282 ?_
    obtain ⟨u283, hu283, hF⟩ := bindE hF
    refine wl_call rfl Try.call138 (C_spec_l1In w277 x1 0 (w64 ((List.length x0.1 : Int) - 1)) _ hu283) rfl ?_
    rintro _ w284 ⟨rfl, hb285⟩
    refine ⟨_, rfl, ?_⟩
    have hB286 := hB279.trans (hb285.mono hB279.size)
    have hS287 := hS280.below hb285
    refine wl_on rfl rfl h282 ?_
    refine wl_not rfl rfl ?_
    refine wl_pick_f rfl rfl h282 rfl ?_
    refine WL.nil ?_
    exact fun a ha => hJ19 ((!u283)) _ hF hB286 (hS287.sel [1, 0] rfl) a (ha.sub ⟨rfl, rfl, rfl, rfl, trivial⟩)
theorem C_impl_totalCounts (w0 : World) (x0 : ((List (List (Int × Int))) × (List Int) × Int × Int)) (v0_0 : Value) (h0_0 : rdS ty_63 (· < w0.heap.size) w0 v0_0 x0.1) (v0_1 : Value) (h0_1 : rdS ty_3 (· < w0.heap.size) w0 v0_1 x0.2.1) (r : Int) (hF : F_impl_totalCounts x0 = some r) :
    Calls Try.prog 177 [(.agg #[v0_0, v0_1, (.int .i64 x0.2.2.1), (.int .i64 x0.2.2.2)])].toArray w0 fun e w' => e = .returned (.int .i64 r) ∧ Below w0.heap.size w0 w' := by
  refine calls_mk' Try.func177 rfl Try.ntmps177 rfl rfl fun Q hQ hP => ?_
  have hB : Below w0.heap.size w0 w0 := Below.refl _ _
  have hS : Sep w0.heap.size w0 [] := Sep.nil _ _
  unfold F_impl_totalCounts at hF
  refine W.seq fun K1 hK1 => ?_
  refine W.region ?_
  refine wl_box (cs := [v0_0, v0_1, (.int .i64 x0.2.2.1), (.int .i64 x0.2.2.2)]) rfl rfl rfl hB hS ?_
  intro b2 w3 hb4 hB5 hS6
  refine wl_assign rfl rfl ?_
  refine WL.nil ?_
  refine fun a ha => hK1 _ _ ?_ a ha
  refine W.seq fun K7 hK7 => ?_
  refine W.region ?_
  refine wl_assign rfl rfl ?_
  refine WL.nil ?_
  refine fun a ha => hK7 _ _ ?_ a ha
  refine W.seq fun K8 hK8 => ?_
  refine W.seq fun K9 hK9 => ?_
  refine W.region ?_
  refine wl_field (o := 1) (off' := 1) ff_53_1 rfl rfl rfl ?_
  refine wl_load_blk (i := 0) (vs := [v0_1]) (v := v0_1) tf_29 rfl rfl hS6 rfl rfl rfl ?_
  refine wl_lenr (e := ty_3) (l := x0.2.1) Try.underlying29 rfl rfl h0_1 ?_
  refine wl_move rfl rfl ?_
  refine WL.nil ?_
  refine fun a ha => hK9 _ _ ?_ a ha
  refine W.block ?_
  refine W.loopk (fun m a w10 => ∃ (y13 : Int) (y14 : Int), St 18 [(3, (.int .i64 y13)), (7, v0_1), (8, (.int .i64 (List.length x0.2.1 : Int))), (9, (.int .i64 y14))] a ∧ Below w0.heap.size w0 w10 ∧ Sep w0.heap.size w10 [] ∧ F_impl_totalCounts_L1 x0 m y13 y14 = some r) FU ?_ ?_
  ·
    exact fun a ha => ⟨0, 0, ha.sub ⟨rfl, rfl, rfl, rfl, trivial⟩, hB5, (hS6.sel [] rfl), hF⟩
  ·
    rintro m17 a w10 ⟨y13, y14, ha, hB11, hS12, hF⟩ KL16 hKL16
    refine W.at ?_ ha
    cases m17 with
    | zero => exact noneE hF
    | succ m17 =>
      obtain ⟨nx15, hnx15⟩ : ∃ k, k = F_impl_totalCounts_L1 x0 m17 := ⟨_, rfl⟩
      rw [F_impl_totalCounts_L1, ← hnx15] at hF
      refine W.seq fun K18 hK18 => ?_
      refine W.region ?_
      refine wl_lss rfl rfl rfl ?_
      refine WL.nil ?_
      refine fun a ha => hK18 _ _ ?_ a ha
      refine W.seq fun K19 hK19 => ?_
      refine W.cond rfl (fun h20 => ?_) (fun h20 => ?_)
      · replace hF := ifP h20 hF
        refine W.skip ?_
        refine fun a ha => hK19 _ _ ?_ a ha
        refine W.seq fun K21 hK21 => ?_
        refine W.block ?_
        refine W.seq fun K22 hK22 => ?_
        refine W.region ?_
        obtain ⟨u23, hu23, hF⟩ := bindE hF
        refine wl_index (e := ty_3) Try.underlying29 rfl rfl rfl h0_1 hu23 ?_
        rintro p24 _ rfl hp25
        refine wl_load_p (vs := [(.int .i64 u23)]) (v := (.int .i64 u23)) tf_3 rfl rfl (hp25.ro hB11) rfl rfl ?_
        refine wl_assign rfl rfl ?_
        refine WL.nil ?_
        refine fun a ha => hK22 _ _ ?_ a ha
        refine W.region ?_
        refine wl_move rfl rfl ?_
        refine wl_move rfl rfl ?_
        refine wl_add rfl rfl rfl ?_
        refine wl_assign rfl rfl ?_
        refine WL.nil ?_
        refine fun a ha => hK21 _ _ ?_ a ha
        refine W.region ?_
        refine wl_add rfl rfl rfl ?_
        refine wl_move rfl rfl ?_
        refine WL.nil ?_
        rw [hnx15] at hF
        exact fun a ha => hKL16 a _ m17 (Nat.lt_succ_self m17) ⟨(w64 (y13 + u23)), (w64 (y14 + 1)), ha.sub ⟨rfl, rfl, rfl, rfl, trivial⟩, hB11, (hS12.sel [] rfl), hF⟩
      · replace hF := ifN h20 hF
        refine W.exit ?_
        refine fun a ha => hK8 _ _ ?_ a ha
        refine W.seq fun K26 hK26 => ?_
        refine W.region ?_
        refine wl_move rfl rfl ?_
        refine wl_assign rfl rfl ?_
        refine WL.nil ?_
        refine fun a ha => hK26 _ _ ?_ a ha
        refine W.ret ?_
        have hr := Option.some.inj hF
        subst hr
        exact rets (vs := [(.int .i64 y13)]) hQ rfl ⟨rv_tmp rfl, trivial⟩ ⟨rfl, hB11⟩
theorem C_impl_TotalCounts (w0 : World) (x0 : ((List (List (Int × Int))) × (List Int) × Int × Int)) (v0_0 : Value) (h0_0 : rdS ty_63 (· < w0.heap.size) w0 v0_0 x0.1) (v0_1 : Value) (h0_1 : rdS ty_3 (· < w0.heap.size) w0 v0_1 x0.2.1) (r : (Int × Bool)) (hF : F_impl_TotalCounts x0 = some r) :
    Calls Try.prog 63 [(.agg #[v0_0, v0_1, (.int .i64 x0.2.2.1), (.int .i64 x0.2.2.2)])].toArray w0 fun e w' => e = .returned (.tuple #[(.int .i64 r.1), (.bool r.2)]) ∧ Below w0.heap.size w0 w' := by
  refine calls_mk' Try.func63 rfl Try.ntmps63 rfl rfl fun Q hQ hP => ?_
  have hB : Below w0.heap.size w0 w0 := Below.refl _ _
  have hS : Sep w0.heap.size w0 [] := Sep.nil _ _
  unfold F_impl_TotalCounts at hF
  refine W.seq fun K1 hK1 => ?_
  refine W.region ?_
  refine wl_box (cs := [v0_0, v0_1, (.int .i64 x0.2.2.1), (.int .i64 x0.2.2.2)]) rfl rfl rfl hB hS ?_
  intro b2 w3 hb4 hB5 hS6
  refine wl_assign rfl rfl ?_
  refine wl_assign rfl rfl ?_
  refine WL.nil ?_
  refine fun a ha => hK1 _ _ ?_ a ha
  refine W.seq fun K7 hK7 => ?_
  refine W.seq fun K8 hK8 => ?_
  refine W.region ?_
  refine wl_load_blk (i := 0) (vs := [v0_0, v0_1, (.int .i64 x0.2.2.1), (.int .i64 x0.2.2.2)]) (v := (.agg #[v0_0, v0_1, (.int .i64 x0.2.2.1), (.int .i64 x0.2.2.2)])) tf_53 rfl rfl hS6 rfl rfl rfl ?_
  obtain ⟨u9, hu9, hF⟩ := bindE hF
  refine wl_call rfl Try.call60 (C_impl_IsShow w3 x0 v0_0 (h0_0.ro hB5) v0_1 (h0_1.ro hB5) _ hu9) rfl ?_
  rintro _ w10 ⟨rfl, hb11⟩
  refine ⟨_, rfl, ?_⟩
  have hB12 := hB5.trans (hb11.mono hB5.size)
  have hS13 := hS6.below hb11
  refine wl_not rfl rfl ?_
  refine WL.nil ?_
  refine fun a ha => hK8 _ _ ?_ a ha
  refine W.cond rfl (fun h15 => ?_) (fun h15 => ?_)
  · replace hF := ifP h15 hF
    refine W.seq fun K16 hK16 => ?_
    refine W.region ?_
    refine wl_assign rfl rfl ?_
    refine wl_assign rfl rfl ?_
    refine WL.nil ?_
    refine fun a ha => hK16 _ _ ?_ a ha
    refine W.ret ?_
    have hr := Option.some.inj hF
    subst hr
    exact rets (vs := [(.int .i64 0), (.bool false)]) hQ rfl ⟨rv_tmp rfl, rv_tmp rfl, trivial⟩ ⟨rfl, hB12⟩
  · replace hF := ifN h15 hF
    refine W.skip ?_
    refine fun a ha => hK7 _ _ ?_ a ha
    refine W.seq fun K17 hK17 => ?_
    refine W.region ?_
    refine wl_load_blk (i := 0) (vs := [v0_0, v0_1, (.int .i64 x0.2.2.1), (.int .i64 x0.2.2.2)]) (v := (.agg #[v0_0, v0_1, (.int .i64 x0.2.2.1), (.int .i64 x0.2.2.2)])) tf_53 rfl rfl hS13 rfl rfl rfl ?_
    obtain ⟨u18, hu18, hF⟩ := bindE hF
    refine wl_call rfl Try.call177 (C_impl_totalCounts w10 x0 v0_0 (h0_0.ro hB12) v0_1 (h0_1.ro hB12) _ hu18) rfl ?_
    rintro _ w19 ⟨rfl, hb20⟩
    refine ⟨_, rfl, ?_⟩
    have hB21 := hB12.trans (hb20.mono hB12.size)
    have hS22 := hS13.below hb20
    refine wl_assign rfl rfl ?_
    refine wl_assign rfl rfl ?_
    refine WL.nil ?_
    refine fun a ha => hK17 _ _ ?_ a ha
    refine W.ret ?_
    have hr := Option.some.inj hF
    subst hr
    exact rets (vs := [(.int .i64 u18), (.bool true)]) hQ rfl ⟨rv_tmp rfl, rv_tmp rfl, trivial⟩ ⟨rfl, hB21⟩
theorem C_spec_l1Cur__partOf__mut__box (w0 : World) (x0 : ((List Int) × Int × Int)) (b0 : Nat) (v0_0 : Value) (h0_0 : rdS ty_5 (Out (fps [R.blk b0 131 [v0_0, (.int .i64 x0.2.1), (.int .u64 x0.2.2)]]) w0) w0 v0_0 x0.1) (x1 : ((List (List (Int × Int))) × (List Int) × Int × Int)) (v1_0 : Value) (v1_1 : Value) (h1_0 : rdS ty_63 (Out (fps [R.blk b0 131 [v0_0, (.int .i64 x0.2.1), (.int .u64 x0.2.2)]]) w0) w0 v1_0 x1.1) (h1_1 : rdS ty_3 (Out (fps [R.blk b0 131 [v0_0, (.int .i64 x0.2.1), (.int .u64 x0.2.2)]]) w0) w0 v1_1 x1.2.1) (hS0 : Sep 0 w0 [R.blk b0 131 [v0_0, (.int .i64 x0.2.1), (.int .u64 x0.2.2)]]) (r : (Int × ((List Int) × Int × Int))) (hF : F_spec_l1Cur__partOf__mut__box x0 x1 = some r) :
    Calls Try.prog 178 [(.pointer (some ⟨b0, 0, none⟩)), (.agg #[v1_0, v1_1, (.int .i64 x1.2.2.1), (.int .i64 x1.2.2.2)])].toArray w0 fun e w' => e = .returned (.int .i64 r.1) ∧ Below 0 (wE w0) w' ∧ Sep 0 w' [R.rest w0 (fps [R.blk b0 131 [v0_0, (.int .i64 x0.2.1), (.int .u64 x0.2.2)]]), R.blk b0 131 [v0_0, (.int .i64 r.2.2.1), (.int .u64 r.2.2.2)]] := by
  refine calls_mk' Try.func178 rfl Try.ntmps178 rfl rfl fun Q hQ hP => ?_
  have hB : Below (wE w0).heap.size (wE w0) w0 := wE_below w0
  have hS : Sep (wE w0).heap.size w0 [R.rest w0 (fps [R.blk b0 131 [v0_0, (.int .i64 x0.2.1), (.int .u64 x0.2.2)]]), R.blk b0 131 [v0_0, (.int .i64 x0.2.1), (.int .u64 x0.2.2)]] := hS0.rest
  unfold F_spec_l1Cur__partOf__mut__box at hF
  refine W.seq fun K1 hK1 => ?_
  refine W.region ?_
  refine wl_box (cs := [v1_0, v1_1, (.int .i64 x1.2.2.1), (.int .i64 x1.2.2.2)]) rfl rfl rfl hB hS ?_
  intro b2 w3 hb4 hB5 hS6
  refine wl_assign rfl rfl ?_
  refine WL.nil ?_
  refine fun a ha => hK1 _ _ ?_ a ha
  refine W.seq fun K7 hK7 => ?_
  refine W.regionH mixed_ [b0] hB5 hS6 ?_
  intro w8 hb9 hB10 hS11
  have hSW12 := KeepX.refl w8 [b0]
  refine WH.takex (i := 0) rfl (by kernel_rfl) (by kernel_rfl) (by kernel_rfl) hP hSW12 ?_
  refine pr_move rfl rfl ?_
  refine WH.takex (i := 1) rfl (by kernel_rfl) (by kernel_rfl) (by kernel_rfl) hP hSW12 ?_
  refine pr_field (o := 1) (off' := 1) ff_53_1 rfl rfl rfl ?_
  refine WH.takex (i := 2) rfl (by kernel_rfl) (by kernel_rfl) (by kernel_rfl) hP hSW12 ?_
  refine pr_load_blk (i := 0) (vs := [v1_1]) (v := v1_1) tf_29 rfl rfl hS11 rfl rfl rfl (hS11.disj (i := 0) (j := 2) rfl rfl rfl b2 (by simp [R.blk])) ?_
  refine WH.takex (i := 3) rfl (by kernel_rfl) (by kernel_rfl) (by kernel_rfl) hP hSW12 ?_
  refine pr_lenr (e := ty_3) (l := x1.2.1) Try.underlying29 rfl rfl h1_1 ?_
  refine WH.takex (i := 4) rfl (by kernel_rfl) (by kernel_rfl) (by kernel_rfl) hP hSW12 ?_
  refine pr_move rfl rfl ?_
  refine WH.takex (i := 9) rfl (by kernel_rfl) (by kernel_rfl) (by kernel_rfl) hP hSW12 ?_
  refine pr_move rfl rfl ?_
  refine WH.one (i := 5) (by kernel_rfl) rfl ?_
  obtain ⟨u13, hu13, hF⟩ := bindE hF
  refine wl_call rfl Try.call132 (C_spec_l1Cur__pick__mut__box w8 x0 b0 v0_0 (h0_0.rsto (hS11.sel [1, 2] rfl)) 16 (hS11.sel [2] rfl).base0 _ hu13) rfl ?_
  rintro _ w14 ⟨rfl, hE15, hM16⟩
  refine ⟨_, rfl, ?_⟩
  have hB17 := hS11.takeB [2] rfl (M := [R.blk b0 131 [v0_0, (.int .i64 x0.2.1), (.int .u64 x0.2.2)]]) rfl hB10 hE15 hM16
  have hS18 : Sep (wE w0).heap.size w14 [R.blk b0 131 [v0_0, (.int .i64 u13.2.2.1), (.int .u64 u13.2.2.2)], R.blk b2 53 [v1_0, v1_1, (.int .i64 x1.2.2.1), (.int .i64 x1.2.2.2)], R.rest w0 (fps [R.blk b0 131 [v0_0, (.int .i64 x0.2.1), (.int .u64 x0.2.2)]])] := hS11.take [2] [0, 1] rfl (M := [R.blk b0 131 [v0_0, (.int .i64 x0.2.1), (.int .u64 x0.2.2)]]) rfl hM16 hB10.size
  have hk19 := box_kept hM16
  have hSW20 := hSW12.wr' hk19.1 hk19.2.1 (fun _ _ h => h)
  have hbs21 : ∀ b, b < w8.heap.size → b ∈ [b0] → b ∈ [b0] := fun b hlt hb => (hk19.2.2 b hb).elim ((fun _ _ h => h) b hlt) (fun h => absurd hlt (Nat.not_lt.2 (Nat.le_trans hSW12.size h)))
  refine WL.nil (WH.ret hSW20 ?_)
  refine WH.takex (i := 6) rfl (by kernel_rfl) (by kernel_rfl) (by kernel_rfl) hP hSW20 ?_
  refine pr_quo rfl rfl rfl (by decide) ?_
  refine WH.takex (i := 7) rfl (by kernel_rfl) (by kernel_rfl) (by kernel_rfl) hP hSW20 ?_
  refine pr_add rfl rfl rfl ?_
  refine WH.one (i := 8) (by kernel_rfl) rfl ?_
  obtain ⟨u22, hu22, hF⟩ := bindE hF
  refine wl_call rfl Try.call132 (C_spec_l1Cur__pick__mut__box w14 (x0.1, u13.2.2.1, u13.2.2.2) b0 v0_0 (h0_0.rsto (hS18.sel [2, 0] rfl)) (w64 ((List.length x1.2.1 : Int) + (w64 (Int.tdiv u13.1 15)))) (hS18.sel [0] rfl).base0 _ hu22) rfl ?_
  rintro _ w23 ⟨rfl, hE24, hM25⟩
  refine ⟨_, rfl, ?_⟩
  have hB26 := hS18.takeB [0] rfl (M := [R.blk b0 131 [v0_0, (.int .i64 u13.2.2.1), (.int .u64 u13.2.2.2)]]) rfl hB17 hE24 hM25
  have hS27 : Sep (wE w0).heap.size w23 [R.blk b0 131 [v0_0, (.int .i64 u22.2.2.1), (.int .u64 u22.2.2.2)], R.blk b2 53 [v1_0, v1_1, (.int .i64 x1.2.2.1), (.int .i64 x1.2.2.2)], R.rest w0 (fps [R.blk b0 131 [v0_0, (.int .i64 x0.2.1), (.int .u64 x0.2.2)]])] := hS18.take [0] [1, 2] rfl (M := [R.blk b0 131 [v0_0, (.int .i64 u13.2.2.1), (.int .u64 u13.2.2.2)]]) rfl hM25 hB17.size
  have hk28 := box_kept hM25
  have hSW29 := hSW20.wr' hk28.1 hk28.2.1 (hbs21)
  have hbs30 : ∀ b, b < w8.heap.size → b ∈ [b0] → b ∈ [b0] := fun b hlt hb => (hk28.2.2 b hb).elim ((hbs21) b hlt) (fun h => absurd hlt (Nat.not_lt.2 (Nat.le_trans hSW20.size h)))
  refine WL.nil (WH.ret hSW29 ?_)
  refine WH.one (i := 10) (by kernel_rfl) rfl ?_
  obtain ⟨u31, hu31, hF⟩ := bindE hF
  refine wl_call rfl Try.call132 (C_spec_l1Cur__pick__mut__box w23 (x0.1, u22.2.2.1, u22.2.2.2) b0 v0_0 (h0_0.rsto (hS27.sel [2, 0] rfl)) 24 (hS27.sel [0] rfl).base0 _ hu31) rfl ?_
  rintro _ w32 ⟨rfl, hE33, hM34⟩
  refine ⟨_, rfl, ?_⟩
  have hB35 := hS27.takeB [0] rfl (M := [R.blk b0 131 [v0_0, (.int .i64 u22.2.2.1), (.int .u64 u22.2.2.2)]]) rfl hB26 hE33 hM34
  have hS36 : Sep (wE w0).heap.size w32 [R.blk b0 131 [v0_0, (.int .i64 u31.2.2.1), (.int .u64 u31.2.2.2)], R.blk b2 53 [v1_0, v1_1, (.int .i64 x1.2.2.1), (.int .i64 x1.2.2.2)], R.rest w0 (fps [R.blk b0 131 [v0_0, (.int .i64 x0.2.1), (.int .u64 x0.2.2)]])] := hS27.take [0] [1, 2] rfl (M := [R.blk b0 131 [v0_0, (.int .i64 u22.2.2.1), (.int .u64 u22.2.2.2)]]) rfl hM34 hB26.size
  have hk37 := box_kept hM34
  have hSW38 := hSW29.wr' hk37.1 hk37.2.1 (hbs30)
  have hbs39 : ∀ b, b < w8.heap.size → b ∈ [b0] → b ∈ [b0] := fun b hlt hb => (hk37.2.2 b hb).elim ((hbs30) b hlt) (fun h => absurd hlt (Nat.not_lt.2 (Nat.le_trans hSW29.size h)))
  refine WL.nil (WH.ret hSW38 ?_)
  refine WH.takex (i := 11) rfl (by kernel_rfl) (by kernel_rfl) (by kernel_rfl) hP hSW38 ?_
  refine pr_quo rfl rfl rfl (by decide) ?_
  refine WH.takex (i := 12) rfl (by kernel_rfl) (by kernel_rfl) (by kernel_rfl) hP hSW38 ?_
  refine pr_sub rfl rfl rfl ?_
  refine WH.takex (i := 13) rfl (by kernel_rfl) (by kernel_rfl) (by kernel_rfl) hP hSW38 ?_
  refine pr_assign rfl rfl ?_
  refine WH.done (by kernel_rfl) ?_
  refine fun a ha => hK7 _ _ ?_ a ha
  refine W.ret ?_
  have hr := Option.some.inj hF
  subst hr
  exact rets (vs := [(.int .i64 (w64 (u22.1 - (w64 (Int.tdiv u31.1 23)))))]) hQ rfl ⟨rv_tmp rfl, trivial⟩ ⟨rfl, hB35, hS36.sel [2, 0] rfl⟩
theorem C_spec_DrawStretchShow (w0 : World) (x0 : (List Int)) (v0_0 : Value) (h0_0 : rdS ty_5 (· < w0.heap.size) w0 v0_0 x0) (r : (((List (List (Int × Int))) × (List Int) × Int × Int) × Int × Int)) (hF : F_spec_DrawStretchShow x0 = some r) :
    Calls Try.prog 64 [v0_0].toArray w0 fun e w' => ∃ (q0 : Value) (G0 : List Nat) (q1 : Value) (G1 : List Nat), e = .returned (.tuple #[(.agg #[q0, q1, (.int .i64 r.1.2.2.1), (.int .i64 r.1.2.2.2)]), (.int .i64 r.2.1), (.int .i64 r.2.2)]) ∧ Below w0.heap.size w0 w' ∧ Sep w0.heap.size w' [R.own ty_63 G0 q0 r.1.1, R.own ty_3 G1 q1 r.1.2.1] := by
  refine calls_mk' Try.func64 rfl Try.ntmps64 rfl rfl fun Q hQ hP => ?_
  have hB : Below w0.heap.size w0 w0 := Below.refl _ _
  have hS : Sep w0.heap.size w0 [] := Sep.nil _ _
  unfold F_spec_DrawStretchShow at hF
  refine W.seq fun K1 hK1 => ?_
  refine W.region ?_
  refine wl_alloc (cs := [(.slice none 0 0), (.slice none 0 0), (.int .i64 0), (.int .i64 0)]) tf_53 rfl rfl hB hS ?_
  intro b2 w3 hb4 hB5 hS6
  refine wl_assign rfl rfl ?_
  refine wl_assign rfl rfl ?_
  refine WL.nil ?_
  refine fun a ha => hK1 _ _ ?_ a ha
  refine W.seq fun K7 hK7 => ?_
  refine W.region ?_
  refine wl_move rfl rfl ?_
  refine wl_build (zs := [(.slice none 0 0), (.int .i64 0), (.int .u64 0)]) (out := [v0_0, (.int .i64 0), (.int .u64 0)]) (vs := [v0_0]) (css := [[v0_0]]) tf_131 pl_131 rfl rfl (by simp only [List.map_cons, List.map_nil, cells_one ((h0_0.ro hB5).one)] <;> rfl) rfl rfl ?_
  refine wl_box (cs := [v0_0, (.int .i64 0), (.int .u64 0)]) rfl rfl rfl hB5 hS6 ?_
  intro b8 w9 hb10 hB11 hS12
  refine wl_assign rfl rfl ?_
  refine WL.nil ?_
  refine fun a ha => hK7 _ _ ?_ a ha
  refine W.seq fun K13 hK13 => ?_
  refine W.region ?_
  refine wl_move rfl rfl ?_
  obtain ⟨u14, hu14, hF⟩ := bindE hF
  refine wl_call rfl Try.call149 (C_spec_l1Cur__show__mut__box w9 (x0, 0, 0) b8 v0_0 (h0_0.oldo hB11 (hS12.sel [0] rfl)) (hS12.sel [0] rfl).base0 _ hu14) rfl ?_
  rintro _ w15 ⟨v20, F21, v22, F23, rfl, hE16, hM17⟩
  refine ⟨_, rfl, ?_⟩
  have hB18 := hS12.takeB [0] rfl (M := [R.blk b8 131 [v0_0, (.int .i64 0), (.int .u64 0)]]) rfl hB11 hE16 hM17
  have hS19 : Sep w0.heap.size w15 [R.blk b8 131 [v0_0, (.int .i64 u14.2.2.1), (.int .u64 u14.2.2.2)], R.own ty_63 F21 v20 u14.1.1, R.own ty_3 F23 v22 u14.1.2.1, R.blk b2 53 [(.slice none 0 0), (.slice none 0 0), (.int .i64 0), (.int .i64 0)]] := hS12.take [0] [1] rfl (M := [R.blk b8 131 [v0_0, (.int .i64 0), (.int .u64 0)]]) rfl hM17 hB11.size
  refine wl_alloc (cs := [(.slice none 0 0), (.slice none 0 0), (.int .i64 0), (.int .i64 0)]) tf_53 rfl rfl hB18 hS19 ?_
  intro b24 w25 hb26 hB27 hS28
  refine wl_store_blk (i := 0) (vs := [v20, v22, (.int .i64 u14.1.2.2.1), (.int .i64 u14.1.2.2.2)]) (cs' := [v20, v22, (.int .i64 u14.1.2.2.1), (.int .i64 u14.1.2.2.2)]) tf_53 rfl rfl rfl rfl hB27 hS28 rfl rfl ⟨(hS28.own_ro (i := 2) rfl).one, (hS28.own_ro (i := 3) rfl).one, rfl, rfl, trivial⟩ rfl ?_
  intro w29 hk32 hB30 hS31
  refine WL.nil ?_
  refine fun a ha => hK13 _ _ ?_ a ha
  refine W.seq fun K33 hK33 => ?_
  obtain ⟨k47, hk47, hF⟩ := jE6 hF
  have hJ48 : ∀ (l37 : (List (List (Int × Int)))) (l40 : (List Int)) (y43 : Int) (y44 : Int) (y45 : Int) (y46 : Int) (v38 : Value) (F39 : List Nat) (v41 : Value) (F42 : List Nat) (w34 : World) (_ : k47 l37 l40 y43 y44 y45 y46 = some r) (_ : Below w0.heap.size w0 w34) (_ : Sep w0.heap.size w34 [R.own ty_63 F39 v38 l37, R.own ty_3 F42 v41 l40, R.blk b2 53 [v38, v41, (.int .i64 y43), (.int .i64 y44)]]), ∀ a, St 22 [(2, (.pointer (some ⟨b2, 0, none⟩))), (3, (.int .i64 y45)), (4, (.int .i64 y46))] a → K33 a w34 := by
    intro l37 l40 y43 y44 y45 y46 v38 F39 v41 F42 w34 hF hB35 hS36
    subst hk47
    refine fun a ha => hK33 _ _ ?_ a ha
    refine W.ret ?_
    have hr := Option.some.inj hF
    subst hr
    exact rets (vs := [(.agg #[v38, v41, (.int .i64 y43), (.int .i64 y44)]), (.int .i64 y45), (.int .i64 y46)]) hQ rfl ⟨rv_cell (i := 2) tf_53 rfl hS36 rfl rfl rfl, rv_tmp rfl, rv_tmp rfl, trivial⟩ ⟨v38, F39, v41, F42, rfl, hB35, hS36.sel [0, 1] rfl⟩
  refine W.regionH mixed_ ([b8] ++ [b2]) hB30 hS31 ?_
  intro w49 hb50 hB51 hS52
  have hSW53 := KeepX.refl w49 ([b8] ++ [b2])
  refine WH.takex (i := 0) rfl (by kernel_rfl) (by kernel_rfl) (by kernel_rfl) hP hSW53 ?_
  refine pr_load_blk (i := 0) (vs := [v20, v22, (.int .i64 u14.1.2.2.1), (.int .i64 u14.1.2.2.2)]) (v := (.agg #[v20, v22, (.int .i64 u14.1.2.2.1), (.int .i64 u14.1.2.2.2)])) tf_53 rfl rfl hS52 rfl rfl rfl (fun hb => (List.mem_append.1 hb).elim (hS52.disj (i := 0) (j := 1) rfl rfl rfl b24 (by simp [R.blk])) (hS52.disj (i := 0) (j := 4) rfl rfl rfl b24 (by simp [R.blk]))) ?_
  refine WH.takex (i := 1) rfl (by kernel_rfl) (by kernel_rfl) (by kernel_rfl) hP hSW53 ?_
  refine pr_move rfl rfl ?_
  refine WH.takex (i := 2) rfl (by kernel_rfl) (by kernel_rfl) (by kernel_rfl) hP hSW53 ?_
  refine pr_load_blk (i := 0) (vs := [v20, v22, (.int .i64 u14.1.2.2.1), (.int .i64 u14.1.2.2.2)]) (v := (.agg #[v20, v22, (.int .i64 u14.1.2.2.1), (.int .i64 u14.1.2.2.2)])) tf_53 rfl rfl hS52 rfl rfl rfl (fun hb => (List.mem_append.1 hb).elim (hS52.disj (i := 0) (j := 1) rfl rfl rfl b24 (by simp [R.blk])) (hS52.disj (i := 0) (j := 4) rfl rfl rfl b24 (by simp [R.blk]))) ?_
  refine WH.takex (i := 4) rfl (by kernel_rfl) (by kernel_rfl) (by kernel_rfl) hP hSW53 ?_
  refine pr_move rfl rfl ?_
  refine WH.takex (i := 5) rfl (by kernel_rfl) (by kernel_rfl) (by kernel_rfl) hP hSW53 ?_
  refine pr_move rfl rfl ?_
  refine WH.many (is := [3, 6]) (by kernel_rfl) rfl ?_
  refine List.forall_mem_cons.2 ⟨⟨_, rfl, ?_⟩, List.forall_mem_cons.2 ⟨⟨_, rfl, ?_⟩, fun _ h => by cases h⟩⟩
  ·
    obtain ⟨u54, hu54, hF⟩ := bindE hF
    refine wl_call rfl Try.call178 (C_spec_l1Cur__partOf__mut__box w49 (x0, u14.2.2.1, u14.2.2.2) b8 v0_0 (h0_0.oldo hB51 (hS52.sel [1] rfl)) u14.1 v20 v22 (own_out (hS52.sel [2, 1] rfl)) (own_out (hS52.sel [3, 1] rfl)) (hS52.sel [1] rfl).base0 _ hu54) rfl ?_
    rintro _ w55 ⟨rfl, hE56, hM57⟩
    refine ⟨_, rfl, ?_⟩
    have hB58 := hS52.takeB [1] rfl (M := [R.blk b8 131 [v0_0, (.int .i64 u14.2.2.1), (.int .u64 u14.2.2.2)]]) rfl hB51 hE56 hM57
    have hS59 : Sep w0.heap.size w55 [R.blk b8 131 [v0_0, (.int .i64 u54.2.2.1), (.int .u64 u54.2.2.2)], R.blk b24 53 [v20, v22, (.int .i64 u14.1.2.2.1), (.int .i64 u14.1.2.2.2)], R.own ty_63 F21 v20 u14.1.1, R.own ty_3 F23 v22 u14.1.2.1, R.blk b2 53 [(.slice none 0 0), (.slice none 0 0), (.int .i64 0), (.int .i64 0)]] := hS52.take [1] [0, 2, 3, 4] rfl (M := [R.blk b8 131 [v0_0, (.int .i64 u14.2.2.1), (.int .u64 u14.2.2.2)]]) rfl hM57 hB51.size
    have hk60 := box_kept hM57
    have hSW61 := hSW53.wr' hk60.1 hk60.2.1 (fun _ _ h => List.mem_append_left _ (h))
    have hbs62 : ∀ b, b < w49.heap.size → b ∈ [b8] → b ∈ ([b8] ++ [b2]) := fun b hlt hb => (hk60.2.2 b hb).elim ((fun _ _ h => List.mem_append_left _ (h)) b hlt) (fun h => absurd hlt (Nat.not_lt.2 (Nat.le_trans hSW53.size h)))
    refine WL.nil (WH.ret hSW61 ?_)
    refine WH.one (i := 6) (by kernel_rfl) rfl ?_
    refine wl_lit (vs := [(.int .i64 0), (.int .i64 65)]) (l := [0, 65]) fl_3 Try.underlying29 rfl rfl rfl rfl rfl rfl (Below.self w55) (Sep.nil _ _) ?_
    intro v63 F64 w65 hb66 hB69 hM70
    have hB67 := hB58.trans (hb66.mono hB58.size)
    have hS68 := hS59.join hb66 hM70 hB58.size
    have hn71 : ∀ b ∈ F64, w49.heap.size ≤ b := fun b hb => Nat.le_trans hSW61.size ((hM70.1 _ (List.mem_cons_self ..)).2.1 b hb).1
    have hSW72 := hSW61.ext hb66
    refine WL.nil (WH.ret hSW72 ?_)
    refine WH.one (i := 7) (by kernel_rfl) rfl ?_
    obtain ⟨u73, hu73, hF⟩ := bindE hF
    refine wl_call rfl Try.call136 (C_spec_l1Cur__among__mut__box w65 (x0, u54.2.2.1, u54.2.2.2) b8 v0_0 (h0_0.oldo hB67 (hS68.sel [1] rfl)) [0, 65] v63 (own_out (hS68.sel [0, 1] rfl)) (hS68.sel [1] rfl).base0 _ hu73) rfl ?_
    rintro _ w74 ⟨rfl, hE75, hM76⟩
    refine ⟨_, rfl, ?_⟩
    have hB77 := hS68.takeB [1] rfl (M := [R.blk b8 131 [v0_0, (.int .i64 u54.2.2.1), (.int .u64 u54.2.2.2)]]) rfl hB67 hE75 hM76
    have hS78 : Sep w0.heap.size w74 [R.blk b8 131 [v0_0, (.int .i64 u73.2.2.1), (.int .u64 u73.2.2.2)], R.own ty_3 F64 v63 [0, 65], R.blk b24 53 [v20, v22, (.int .i64 u14.1.2.2.1), (.int .i64 u14.1.2.2.2)], R.own ty_63 F21 v20 u14.1.1, R.own ty_3 F23 v22 u14.1.2.1, R.blk b2 53 [(.slice none 0 0), (.slice none 0 0), (.int .i64 0), (.int .i64 0)]] := hS68.take [1] [0, 2, 3, 4, 5] rfl (M := [R.blk b8 131 [v0_0, (.int .i64 u54.2.2.1), (.int .u64 u54.2.2.2)]]) rfl hM76 hB67.size
    have hk79 := box_kept hM76
    have hSW80 := hSW72.wr' hk79.1 hk79.2.1 (hbs62)
    have hbs81 : ∀ b, b < w49.heap.size → b ∈ [b8] → b ∈ ([b8] ++ [b2]) := fun b hlt hb => (hk79.2.2 b hb).elim ((hbs62) b hlt) (fun h => absurd hlt (Nat.not_lt.2 (Nat.le_trans hSW72.size h)))
    refine WL.nil (WH.ret hSW80 ?_)
    refine WH.one (i := 8) (by kernel_rfl) rfl ?_
    refine wl_lit (vs := [(.int .i64 1), (.int .i64 8), (.int .i64 10), (.int .i64 64), (.int .i64 u73.1)]) (l := [1, 8, 10, 64, u73.1]) fl_3 Try.underlying29 rfl rfl rfl rfl rfl rfl (Below.self w74) (Sep.nil _ _) ?_
    intro v82 F83 w84 hb85 hB88 hM89
    have hB86 := hB77.trans (hb85.mono hB77.size)
    have hS87 := hS78.join hb85 hM89 hB77.size
    have hn90 : ∀ b ∈ F83, w49.heap.size ≤ b := fun b hb => Nat.le_trans hSW80.size ((hM89.1 _ (List.mem_cons_self ..)).2.1 b hb).1
    have hSW91 := hSW80.ext hb85
    refine WL.nil (WH.ret hSW91 ?_)
    refine WH.one (i := 9) (by kernel_rfl) rfl ?_
    obtain ⟨u92, hu92, hF⟩ := bindE hF
    refine wl_call rfl Try.call136 (C_spec_l1Cur__among__mut__box w84 (x0, u73.2.2.1, u73.2.2.2) b8 v0_0 (h0_0.oldo hB86 (hS87.sel [1] rfl)) [1, 8, 10, 64, u73.1] v82 (own_out (hS87.sel [0, 1] rfl)) (hS87.sel [1] rfl).base0 _ hu92) rfl ?_
    rintro _ w93 ⟨rfl, hE94, hM95⟩
    refine ⟨_, rfl, ?_⟩
    have hB96 := hS87.takeB [1] rfl (M := [R.blk b8 131 [v0_0, (.int .i64 u73.2.2.1), (.int .u64 u73.2.2.2)]]) rfl hB86 hE94 hM95
    have hS97 : Sep w0.heap.size w93 [R.blk b8 131 [v0_0, (.int .i64 u92.2.2.1), (.int .u64 u92.2.2.2)], R.own ty_3 F83 v82 [1, 8, 10, 64, u73.1], R.own ty_3 F64 v63 [0, 65], R.blk b24 53 [v20, v22, (.int .i64 u14.1.2.2.1), (.int .i64 u14.1.2.2.2)], R.own ty_63 F21 v20 u14.1.1, R.own ty_3 F23 v22 u14.1.2.1, R.blk b2 53 [(.slice none 0 0), (.slice none 0 0), (.int .i64 0), (.int .i64 0)]] := hS87.take [1] [0, 2, 3, 4, 5, 6] rfl (M := [R.blk b8 131 [v0_0, (.int .i64 u73.2.2.1), (.int .u64 u73.2.2.2)]]) rfl hM95 hB86.size
    have hk98 := box_kept hM95
    have hSW99 := hSW91.wr' hk98.1 hk98.2.1 (hbs81)
    have hbs100 : ∀ b, b < w49.heap.size → b ∈ [b8] → b ∈ ([b8] ++ [b2]) := fun b hlt hb => (hk98.2.2 b hb).elim ((hbs81) b hlt) (fun h => absurd hlt (Nat.not_lt.2 (Nat.le_trans hSW91.size h)))
    refine WL.nil (WH.ret hSW99 ?_)
    refine WH.one (i := 10) (by kernel_rfl) rfl ?_
    refine wl_store_blk (i := 6) (vs := [v20, v22, (.int .i64 u14.1.2.2.1), (.int .i64 u14.1.2.2.2)]) (cs' := [v20, v22, (.int .i64 u14.1.2.2.1), (.int .i64 u14.1.2.2.2)]) tf_53 rfl rfl rfl rfl hB96 hS97 rfl rfl ⟨(hS97.own_ro (i := 4) rfl).one, (hS97.own_ro (i := 5) rfl).one, rfl, rfl, trivial⟩ rfl ?_
    intro w101 hk104 hB102 hS103
    have hSW105 := hSW99.wr' hk104.1 hk104.2.1 (fun _ _ h => List.mem_append_right _ h)
    have hbs106 : ∀ b, b < w49.heap.size → b ∈ [b2] → b ∈ ([b8] ++ [b2]) := fun b hlt hb => (hk104.2.2 b hb).elim ((fun _ _ h => List.mem_append_right _ h) b hlt) (fun h => absurd hlt (Nat.not_lt.2 (Nat.le_trans hSW99.size h)))
    refine WL.nil (WH.ret hSW105 ?_)
    refine WH.takex (i := 11) rfl (by kernel_rfl) (by kernel_rfl) (by kernel_rfl) hP hSW105 ?_
    refine pr_assign rfl rfl ?_
    refine WH.takex (i := 12) rfl (by kernel_rfl) (by kernel_rfl) (by kernel_rfl) hP hSW105 ?_
    refine pr_assign rfl rfl ?_
    refine WH.done (by kernel_rfl) ?_
    exact fun a ha => hJ48 (u14.1.1) (u14.1.2.1) (u14.1.2.2.1) (u14.1.2.2.2) (u54.1) (u92.1) (v20) (F21) (v22) (F23) _ hF hB102 (hS103.sel [4, 5, 6] rfl) a (ha.sub ⟨rfl, rfl, rfl, trivial⟩)
  ·
    refine wl_lit (vs := [(.int .i64 0), (.int .i64 65)]) (l := [0, 65]) fl_3 Try.underlying29 rfl rfl rfl rfl rfl rfl (Below.self w49) (Sep.nil _ _) ?_
    intro v107 F108 w109 hb110 hB113 hM114
    have hB111 := hB51.trans (hb110.mono hB51.size)
    have hS112 := hS52.join hb110 hM114 hB51.size
    have hn115 : ∀ b ∈ F108, w49.heap.size ≤ b := fun b hb => Nat.le_trans hSW53.size ((hM114.1 _ (List.mem_cons_self ..)).2.1 b hb).1
    have hSW116 := hSW53.ext hb110
    have hbS117 : Below w49.heap.size w49 w109 := hb110
    refine WL.nil (WH.ret hSW116 ?_)
    refine WH.one (i := 3) (by kernel_rfl) rfl ?_
    obtain ⟨u118, hu118, hF⟩ := bindE hF
    refine wl_call rfl Try.call178 (C_spec_l1Cur__partOf__mut__box w109 (x0, u14.2.2.1, u14.2.2.2) b8 v0_0 (h0_0.oldo hB111 (hS112.sel [2] rfl)) u14.1 v20 v22 (own_out (hS112.sel [3, 2] rfl)) (own_out (hS112.sel [4, 2] rfl)) (hS112.sel [2] rfl).base0 _ hu118) rfl ?_
    rintro _ w119 ⟨rfl, hE120, hM121⟩
    refine ⟨_, rfl, ?_⟩
    have hB122 := hS112.takeB [2] rfl (M := [R.blk b8 131 [v0_0, (.int .i64 u14.2.2.1), (.int .u64 u14.2.2.2)]]) rfl hB111 hE120 hM121
    have hS123 : Sep w0.heap.size w119 [R.blk b8 131 [v0_0, (.int .i64 u118.2.2.1), (.int .u64 u118.2.2.2)], R.own ty_3 F108 v107 [0, 65], R.blk b24 53 [v20, v22, (.int .i64 u14.1.2.2.1), (.int .i64 u14.1.2.2.2)], R.own ty_63 F21 v20 u14.1.1, R.own ty_3 F23 v22 u14.1.2.1, R.blk b2 53 [(.slice none 0 0), (.slice none 0 0), (.int .i64 0), (.int .i64 0)]] := hS112.take [2] [0, 1, 3, 4, 5] rfl (M := [R.blk b8 131 [v0_0, (.int .i64 u14.2.2.1), (.int .u64 u14.2.2.2)]]) rfl hM121 hB111.size
    have hk124 := box_kept hM121
    have hSW125 := hSW116.wr' hk124.1 hk124.2.1 (fun _ _ h => List.mem_append_left _ (h))
    have hbs126 : ∀ b, b < w49.heap.size → b ∈ [b8] → b ∈ ([b8] ++ [b2]) := fun b hlt hb => (hk124.2.2 b hb).elim ((fun _ _ h => List.mem_append_left _ (h)) b hlt) (fun h => absurd hlt (Nat.not_lt.2 (Nat.le_trans hSW116.size h)))
    refine WL.nil (WH.ret hSW125 ?_)
    refine WH.one (i := 7) (by kernel_rfl) rfl ?_
    obtain ⟨u127, hu127, hF⟩ := bindE hF
    refine wl_call rfl Try.call136 (C_spec_l1Cur__among__mut__box w119 (x0, u118.2.2.1, u118.2.2.2) b8 v0_0 (h0_0.oldo hB122 (hS123.sel [0] rfl)) [0, 65] v107 (own_out (hS123.sel [1, 0] rfl)) (hS123.sel [0] rfl).base0 _ hu127) rfl ?_
    rintro _ w128 ⟨rfl, hE129, hM130⟩
    refine ⟨_, rfl, ?_⟩
    have hB131 := hS123.takeB [0] rfl (M := [R.blk b8 131 [v0_0, (.int .i64 u118.2.2.1), (.int .u64 u118.2.2.2)]]) rfl hB122 hE129 hM130
    have hS132 : Sep w0.heap.size w128 [R.blk b8 131 [v0_0, (.int .i64 u127.2.2.1), (.int .u64 u127.2.2.2)], R.own ty_3 F108 v107 [0, 65], R.blk b24 53 [v20, v22, (.int .i64 u14.1.2.2.1), (.int .i64 u14.1.2.2.2)], R.own ty_63 F21 v20 u14.1.1, R.own ty_3 F23 v22 u14.1.2.1, R.blk b2 53 [(.slice none 0 0), (.slice none 0 0), (.int .i64 0), (.int .i64 0)]] := hS123.take [0] [1, 2, 3, 4, 5] rfl (M := [R.blk b8 131 [v0_0, (.int .i64 u118.2.2.1), (.int .u64 u118.2.2.2)]]) rfl hM130 hB122.size
    have hk133 := box_kept hM130
    have hSW134 := hSW125.wr' hk133.1 hk133.2.1 (hbs126)
    have hbs135 : ∀ b, b < w49.heap.size → b ∈ [b8] → b ∈ ([b8] ++ [b2]) := fun b hlt hb => (hk133.2.2 b hb).elim ((hbs126) b hlt) (fun h => absurd hlt (Nat.not_lt.2 (Nat.le_trans hSW125.size h)))
    refine WL.nil (WH.ret hSW134 ?_)
    refine WH.one (i := 8) (by kernel_rfl) rfl ?_
    refine wl_lit (vs := [(.int .i64 1), (.int .i64 8), (.int .i64 10), (.int .i64 64), (.int .i64 u127.1)]) (l := [1, 8, 10, 64, u127.1]) fl_3 Try.underlying29 rfl rfl rfl rfl rfl rfl (Below.self w128) (Sep.nil _ _) ?_
    intro v136 F137 w138 hb139 hB142 hM143
    have hB140 := hB131.trans (hb139.mono hB131.size)
    have hS141 := hS132.join hb139 hM143 hB131.size
    have hn144 : ∀ b ∈ F137, w49.heap.size ≤ b := fun b hb => Nat.le_trans hSW134.size ((hM143.1 _ (List.mem_cons_self ..)).2.1 b hb).1
    have hSW145 := hSW134.ext hb139
    refine WL.nil (WH.ret hSW145 ?_)
    refine WH.one (i := 9) (by kernel_rfl) rfl ?_
    obtain ⟨u146, hu146, hF⟩ := bindE hF
    refine wl_call rfl Try.call136 (C_spec_l1Cur__among__mut__box w138 (x0, u127.2.2.1, u127.2.2.2) b8 v0_0 (h0_0.oldo hB140 (hS141.sel [1] rfl)) [1, 8, 10, 64, u127.1] v136 (own_out (hS141.sel [0, 1] rfl)) (hS141.sel [1] rfl).base0 _ hu146) rfl ?_
    rintro _ w147 ⟨rfl, hE148, hM149⟩
    refine ⟨_, rfl, ?_⟩
    have hB150 := hS141.takeB [1] rfl (M := [R.blk b8 131 [v0_0, (.int .i64 u127.2.2.1), (.int .u64 u127.2.2.2)]]) rfl hB140 hE148 hM149
    have hS151 : Sep w0.heap.size w147 [R.blk b8 131 [v0_0, (.int .i64 u146.2.2.1), (.int .u64 u146.2.2.2)], R.own ty_3 F137 v136 [1, 8, 10, 64, u127.1], R.own ty_3 F108 v107 [0, 65], R.blk b24 53 [v20, v22, (.int .i64 u14.1.2.2.1), (.int .i64 u14.1.2.2.2)], R.own ty_63 F21 v20 u14.1.1, R.own ty_3 F23 v22 u14.1.2.1, R.blk b2 53 [(.slice none 0 0), (.slice none 0 0), (.int .i64 0), (.int .i64 0)]] := hS141.take [1] [0, 2, 3, 4, 5, 6] rfl (M := [R.blk b8 131 [v0_0, (.int .i64 u127.2.2.1), (.int .u64 u127.2.2.2)]]) rfl hM149 hB140.size
    have hk152 := box_kept hM149
    have hSW153 := hSW145.wr' hk152.1 hk152.2.1 (hbs135)
    have hbs154 : ∀ b, b < w49.heap.size → b ∈ [b8] → b ∈ ([b8] ++ [b2]) := fun b hlt hb => (hk152.2.2 b hb).elim ((hbs135) b hlt) (fun h => absurd hlt (Nat.not_lt.2 (Nat.le_trans hSW145.size h)))
    refine WL.nil (WH.ret hSW153 ?_)
    refine WH.one (i := 10) (by kernel_rfl) rfl ?_
    refine wl_store_blk (i := 6) (vs := [v20, v22, (.int .i64 u14.1.2.2.1), (.int .i64 u14.1.2.2.2)]) (cs' := [v20, v22, (.int .i64 u14.1.2.2.1), (.int .i64 u14.1.2.2.2)]) tf_53 rfl rfl rfl rfl hB150 hS151 rfl rfl ⟨(hS151.own_ro (i := 4) rfl).one, (hS151.own_ro (i := 5) rfl).one, rfl, rfl, trivial⟩ rfl ?_
    intro w155 hk158 hB156 hS157
    have hSW159 := hSW153.wr' hk158.1 hk158.2.1 (fun _ _ h => List.mem_append_right _ h)
    have hbs160 : ∀ b, b < w49.heap.size → b ∈ [b2] → b ∈ ([b8] ++ [b2]) := fun b hlt hb => (hk158.2.2 b hb).elim ((fun _ _ h => List.mem_append_right _ h) b hlt) (fun h => absurd hlt (Nat.not_lt.2 (Nat.le_trans hSW153.size h)))
    refine WL.nil (WH.ret hSW159 ?_)
    refine WH.takex (i := 11) rfl (by kernel_rfl) (by kernel_rfl) (by kernel_rfl) hP hSW159 ?_
    refine pr_assign rfl rfl ?_
    refine WH.takex (i := 12) rfl (by kernel_rfl) (by kernel_rfl) (by kernel_rfl) hP hSW159 ?_
    refine pr_assign rfl rfl ?_
    refine WH.done (by kernel_rfl) ?_
    exact fun a ha => hJ48 (u14.1.1) (u14.1.2.1) (u14.1.2.2.1) (u14.1.2.2.2) (u118.1) (u146.1) (v20) (F21) (v22) (F23) _ hF hB156 (hS157.sel [4, 5, 6] rfl) a (ha.sub ⟨rfl, rfl, rfl, trivial⟩)
theorem C_impl_StretchShow (w0 : World) (x0 : ((List (List (Int × Int))) × (List Int) × Int × Int)) (v0_0 : Value) (h0_0 : rdS ty_63 (· < w0.heap.size) w0 v0_0 x0.1) (v0_1 : Value) (h0_1 : rdS ty_3 (· < w0.heap.size) w0 v0_1 x0.2.1) (x1 : Int) (x2 : Int) (r : (((List (List (Int × Int))) × (List Int) × Int × Int) × Bool)) (hF : F_impl_StretchShow x0 x1 x2 = some r) :
    Calls Try.prog 65 [(.agg #[v0_0, v0_1, (.int .i64 x0.2.2.1), (.int .i64 x0.2.2.2)]), (.int .i64 x1), (.int .i64 x2)].toArray w0 fun e w' => ∃ (q0 : Value) (G0 : List Nat) (q1 : Value) (G1 : List Nat), e = .returned (.tuple #[(.agg #[q0, q1, (.int .i64 r.1.2.2.1), (.int .i64 r.1.2.2.2)]), (.bool r.2)]) ∧ Below w0.heap.size w0 w' ∧ Sep w0.heap.size w' [R.own ty_63 G0 q0 r.1.1, R.own ty_3 G1 q1 r.1.2.1] := by
  refine calls_mk' Try.func65 rfl Try.ntmps65 rfl rfl fun Q hQ hP => ?_
  have hB : Below w0.heap.size w0 w0 := Below.refl _ _
  have hS : Sep w0.heap.size w0 [] := Sep.nil _ _
  unfold F_impl_StretchShow at hF
  refine W.seq fun K1 hK1 => ?_
  refine W.region ?_
  refine wl_box (cs := [v0_0, v0_1, (.int .i64 x0.2.2.1), (.int .i64 x0.2.2.2)]) rfl rfl rfl hB hS ?_
  intro b2 w3 hb4 hB5 hS6
  refine wl_alloc (cs := [(.slice none 0 0), (.slice none 0 0), (.int .i64 0), (.int .i64 0)]) tf_53 rfl rfl hB5 hS6 ?_
  intro b7 w8 hb9 hB10 hS11
  refine wl_assign rfl rfl ?_
  refine WL.nil ?_
  refine fun a ha => hK1 _ _ ?_ a ha
  refine W.seq fun K12 hK12 => ?_
  refine W.seq fun K13 hK13 => ?_
  refine W.region ?_
  refine wl_load_blk (i := 1) (vs := [v0_0, v0_1, (.int .i64 x0.2.2.1), (.int .i64 x0.2.2.2)]) (v := (.agg #[v0_0, v0_1, (.int .i64 x0.2.2.1), (.int .i64 x0.2.2.2)])) tf_53 rfl rfl hS11 rfl rfl rfl ?_
  refine wl_move rfl rfl ?_
  obtain ⟨u14, hu14, hF⟩ := bindE hF
  refine wl_call rfl Try.call163 (C_impl_isPart w8 x0 v0_0 (h0_0.ro hB10) v0_1 (h0_1.ro hB10) x1 _ hu14) rfl ?_
  rintro _ w15 ⟨rfl, hb16⟩
  refine ⟨_, rfl, ?_⟩
  have hB17 := hB10.trans (hb16.mono hB10.size)
  have hS18 := hS11.below hb16
  refine wl_not rfl rfl ?_
  refine WL.nil ?_
  refine fun a ha => hK13 _ _ ?_ a ha
  refine W.cond rfl (fun h20 => ?_) (fun h20 => ?_)
  · replace hF := ifP h20 hF
    refine W.seq fun K21 hK21 => ?_
    refine W.region ?_
    refine wl_build (zs := [(.slice none 0 0), (.slice none 0 0), (.int .i64 0), (.int .i64 0)]) (out := [(.slice none 0 0), (.slice none 0 0), (.int .i64 0), (.int .i64 0)]) (vs := []) (css := []) tf_53 pl_53 rfl rfl rfl rfl rfl ?_
    refine wl_store_blk (i := 0) (vs := [(.slice none 0 0), (.slice none 0 0), (.int .i64 0), (.int .i64 0)]) (cs' := [(.slice none 0 0), (.slice none 0 0), (.int .i64 0), (.int .i64 0)]) tf_53 rfl rfl rfl rfl hB17 hS18 rfl rfl ⟨rfl, rfl, rfl, rfl, trivial⟩ rfl ?_
    intro w22 hk25 hB23 hS24
    refine wl_assign rfl rfl ?_
    refine WL.nil ?_
    refine fun a ha => hK21 _ _ ?_ a ha
    refine W.ret ?_
    have hS26 := hS24.push0 (r := R.own ty_63 [] (.slice none 0 0) []) rfl fun _ => .inl ⟨rfl, rfl, rfl⟩
    have hS27 := hS26.push0 (r := R.own ty_3 [] (.slice none 0 0) []) rfl fun _ => .inl ⟨rfl, rfl, rfl⟩
    have hr := Option.some.inj hF
    subst hr
    exact rets (vs := [(.agg #[(.slice none 0 0), (.slice none 0 0), (.int .i64 0), (.int .i64 0)]), (.bool false)]) hQ rfl ⟨rv_cell (i := 0) tf_53 rfl hS24 rfl rfl rfl, rv_tmp rfl, trivial⟩ ⟨(.slice none 0 0), [], (.slice none 0 0), [], rfl, hB23, hS27.sel [1, 0] rfl⟩
  · replace hF := ifN h20 hF
    refine W.skip ?_
    refine fun a ha => hK12 _ _ ?_ a ha
    refine W.seq fun K28 hK28 => ?_
    refine W.region ?_
    refine wl_load_blk (i := 1) (vs := [v0_0, v0_1, (.int .i64 x0.2.2.1), (.int .i64 x0.2.2.2)]) (v := (.agg #[v0_0, v0_1, (.int .i64 x0.2.2.1), (.int .i64 x0.2.2.2)])) tf_53 rfl rfl hS18 rfl rfl rfl ?_
    obtain ⟨u29, hu29, hF⟩ := bindE hF
    refine wl_call rfl Try.call168 (C_impl_copyShow w15 x0 v0_0 (h0_0.ro hB17) v0_1 (h0_1.ro hB17) _ hu29) rfl ?_
    rintro _ w34 ⟨v30, F31, v32, F33, rfl, hb35, hM38⟩
    refine ⟨_, rfl, ?_⟩
    have hB36 := hB17.trans (hb35.mono hB17.size)
    have hS37 := hS18.join hb35 hM38 hB17.size
    refine wl_alloc (cs := [(.slice none 0 0), (.slice none 0 0), (.int .i64 0), (.int .i64 0)]) tf_53 rfl rfl hB36 hS37 ?_
    intro b39 w40 hb41 hB42 hS43
    refine wl_store_blk (i := 0) (vs := [v30, v32, (.int .i64 u29.2.2.1), (.int .i64 u29.2.2.2)]) (cs' := [v30, v32, (.int .i64 u29.2.2.1), (.int .i64 u29.2.2.2)]) tf_53 rfl rfl rfl rfl hB42 hS43 rfl rfl ⟨(hS43.own_ro (i := 1) rfl).one, (hS43.own_ro (i := 2) rfl).one, rfl, rfl, trivial⟩ rfl ?_
    intro w44 hk47 hB45 hS46
    refine WL.nil ?_
    refine fun a ha => hK28 _ _ ?_ a ha
    refine W.seq fun K48 hK48 => ?_
    refine W.region ?_
    refine wl_field (o := 1) (off' := 1) ff_53_1 rfl rfl rfl ?_
    refine wl_load_blk (i := 0) (vs := [v32]) (v := v32) tf_29 rfl rfl hS46 rfl rfl rfl ?_
    refine wl_move rfl rfl ?_
    refine wl_move rfl rfl ?_
    obtain ⟨u49, hu49, hF⟩ := bindE hF
    refine wl_indexo (e := ty_3) (i := 2) Try.underlying29 rfl rfl rfl hS46 rfl hu49 ?_
    rintro p50 _ rfl hp51 ho52
    refine wl_storeo (i := 2) (o := 0) (vs := [(.int .i64 x2)]) (u' := x2) fl_3 tf_3 rfl rfl rfl rfl ho52 hu49 hB45 hS46 rfl rfl ⟨rfl, trivial⟩ rfl ?_
    intro w53 hk56 hB54 hS55
    refine WL.nil ?_
    refine fun a ha => hK48 _ _ ?_ a ha
    refine W.seq fun K57 hK57 => ?_
    refine W.region ?_
    refine wl_load_blk (i := 0) (vs := [v30, v32, (.int .i64 u29.2.2.1), (.int .i64 u29.2.2.2)]) (v := (.agg #[v30, v32, (.int .i64 u29.2.2.1), (.int .i64 u29.2.2.2)])) tf_53 rfl rfl hS55 rfl rfl rfl ?_
    obtain ⟨u58, hu58, hF⟩ := bindE hF
    refine wl_call rfl Try.call169 (C_impl_asShow__take w53 (u29.1, (seti u29.2.1 x1 x2), u29.2.2.1, u29.2.2.2) v30 F31 v32 F33 (hS55.sel [1, 2] rfl).base0 _ hu58) rfl ?_
    rintro _ w59 ⟨v64, F65, v66, F67, rfl, hE60, hM61⟩
    refine ⟨_, rfl, ?_⟩
    have hB62 := hS55.takeB [1, 2] rfl (M := [R.own ty_63 F31 v30 u29.1, R.own ty_3 F33 v32 (seti u29.2.1 x1 x2)]) rfl hB54 hE60 hM61
    have hS63 : Sep w0.heap.size w59 [R.own ty_63 F65 v64 u58.1.1, R.own ty_3 F67 v66 u58.1.2.1, R.blk b39 53 [v30, v32, (.int .i64 u29.2.2.1), (.int .i64 u29.2.2.2)], R.blk b7 53 [(.slice none 0 0), (.slice none 0 0), (.int .i64 0), (.int .i64 0)], R.blk b2 53 [v0_0, v0_1, (.int .i64 x0.2.2.1), (.int .i64 x0.2.2.2)]] := hS55.take [1, 2] [0, 3, 4] rfl (M := [R.own ty_63 F31 v30 u29.1, R.own ty_3 F33 v32 (seti u29.2.1 x1 x2)]) rfl hM61 hB54.size
    refine wl_extract rfl rfl rfl ?_
    refine wl_extract rfl rfl rfl ?_
    refine wl_store_blk (i := 3) (vs := [v64, v66, (.int .i64 u58.1.2.2.1), (.int .i64 u58.1.2.2.2)]) (cs' := [v64, v66, (.int .i64 u58.1.2.2.1), (.int .i64 u58.1.2.2.2)]) tf_53 rfl rfl rfl rfl hB62 hS63 rfl rfl ⟨(hS63.own_ro (i := 0) rfl).one, (hS63.own_ro (i := 1) rfl).one, rfl, rfl, trivial⟩ rfl ?_
    intro w68 hk71 hB69 hS70
    refine wl_assign rfl rfl ?_
    refine WL.nil ?_
    refine fun a ha => hK57 _ _ ?_ a ha
    refine W.ret ?_
    have hr := Option.some.inj hF
    subst hr
    exact rets (vs := [(.agg #[v64, v66, (.int .i64 u58.1.2.2.1), (.int .i64 u58.1.2.2.2)]), (.bool u58.2)]) hQ rfl ⟨rv_cell (i := 3) tf_53 rfl hS70 rfl rfl rfl, rv_tmp rfl, trivial⟩ ⟨v64, F65, v66, F67, rfl, hB69, hS70.sel [0, 1] rfl⟩
theorem C_spec_swHas (w0 : World) (x0 : ((List (List (Int × Int))) × (List Int) × Int × Int)) (v0_0 : Value) (h0_0 : rdS ty_63 (· < w0.heap.size) w0 v0_0 x0.1) (v0_1 : Value) (h0_1 : rdS ty_3 (· < w0.heap.size) w0 v0_1 x0.2.1) (x1 : Int) (r : Bool) (hF : F_spec_swHas x0 x1 = some r) :
    Calls Try.prog 179 [(.agg #[v0_0, v0_1, (.int .i64 x0.2.2.1), (.int .i64 x0.2.2.2)]), (.int .i64 x1)].toArray w0 fun e w' => e = .returned (.bool r) ∧ Below w0.heap.size w0 w' := by
  refine calls_mk' Try.func179 rfl Try.ntmps179 rfl rfl fun Q hQ hP => ?_
  have hB : Below w0.heap.size w0 w0 := Below.refl _ _
  have hS : Sep w0.heap.size w0 [] := Sep.nil _ _
  unfold F_spec_swHas at hF
  refine W.seq fun K1 hK1 => ?_
  refine W.region ?_
  refine wl_box (cs := [v0_0, v0_1, (.int .i64 x0.2.2.1), (.int .i64 x0.2.2.2)]) rfl rfl rfl hB hS ?_
  intro b2 w3 hb4 hB5 hS6
  refine wl_assign rfl rfl ?_
  refine WL.nil ?_
  refine fun a ha => hK1 _ _ ?_ a ha
  refine W.seq fun K7 hK7 => ?_
  obtain ⟨k12, hk12, hF⟩ := jE1 hF
  have hJ13 : ∀ (y11 : Bool) (w8 : World) (_ : k12 y11 = some r) (_ : Below w0.heap.size w0 w8) (_ : Sep w0.heap.size w8 []), ∀ a, St 15 [(4, (.bool y11))] a → K7 a w8 := by
    intro y11 w8 hF hB9 hS10
    subst hk12
    refine fun a ha => hK7 _ _ ?_ a ha
    refine W.ret ?_
    have hr := Option.some.inj hF
    subst hr
    exact rets (vs := [(.bool y11)]) hQ rfl ⟨rv_tmp rfl, trivial⟩ ⟨rfl, hB9⟩
  refine W.region ?_
  refine wl_load_blk (i := 0) (vs := [v0_0, v0_1, (.int .i64 x0.2.2.1), (.int .i64 x0.2.2.2)]) (v := (.agg #[v0_0, v0_1, (.int .i64 x0.2.2.1), (.int .i64 x0.2.2.2)])) tf_53 rfl rfl hS6 rfl rfl rfl ?_
  obtain ⟨u14, hu14, hF⟩ := bindE hF
  refine wl_call rfl Try.call145 (C_spec_swGood w3 x0 v0_0 (h0_0.ro hB5) v0_1 (h0_1.ro hB5) _ hu14) rfl ?_
  rintro _ w15 ⟨rfl, hb16⟩
  refine ⟨_, rfl, ?_⟩
  have hB17 := hB5.trans (hb16.mono hB5.size)
  have hS18 := hS6.below hb16
  refine wl_move rfl rfl ?_
  rcases bE u14 with h20 | h20
  · replace hF := ifP h20 hF
    refine wl_on rfl rfl h20 ?_
    refine wl_move rfl rfl ?_
    refine wl_on rfl rfl h20 ?_
    refine wl_field (o := 1) (off' := 1) ff_53_1 rfl rfl rfl ?_
    refine wl_on rfl rfl h20 ?_
    refine wl_load_blk (i := 0) (vs := [v0_1]) (v := v0_1) tf_29 rfl rfl hS18 rfl rfl rfl ?_
    refine wl_on rfl rfl h20 ?_
    refine wl_lenr (e := ty_3) (l := x0.2.1) Try.underlying29 rfl rfl h0_1 ?_
    refine wl_on rfl rfl h20 ?_
    refine wl_sub rfl rfl rfl ?_
    refine wl_on rfl rfl h20 ?_
    obtain ⟨u21, hu21, hF⟩ := bindE hF
    refine wl_call rfl Try.call138 (C_spec_l1In w15 x1 0 (w64 ((List.length x0.2.1 : Int) - 1)) _ hu21) rfl ?_
    rintro _ w22 ⟨rfl, hb23⟩
    refine ⟨_, rfl, ?_⟩
    have hB24 := hB17.trans (hb23.mono hB17.size)
    have hS25 := hS18.below hb23
    refine wl_pick_t rfl rfl h20 rfl ?_
    refine wl_assign rfl rfl ?_
    refine WL.nil ?_
    exact fun a ha => hJ13 (u21) _ hF hB24 (hS25.sel [] rfl) a (ha.sub ⟨rfl, trivial⟩)
  · replace hF := ifN h20 hF
    refine wl_off rfl rfl rfl h20 ?_
    refine wl_off rfl rfl rfl h20 ?_
    refine wl_off rfl rfl rfl h20 ?_
    refine wl_off rfl rfl rfl h20 ?_
    refine wl_off rfl rfl rfl h20 ?_
    refine wl_off rfl rfl rfl h20 ?_
    refine wl_pick_f rfl rfl h20 rfl ?_
    refine wl_assign rfl rfl ?_
    refine WL.nil ?_
    exact fun a ha => hJ13 (false) _ hF hB17 (hS18.sel [] rfl) a (ha.sub ⟨rfl, trivial⟩)
theorem C_spec_StretchShow (w0 : World) (x0 : ((List (List (Int × Int))) × (List Int) × Int × Int)) (v0_0 : Value) (h0_0 : rdS ty_63 (· < w0.heap.size) w0 v0_0 x0.1) (v0_1 : Value) (h0_1 : rdS ty_3 (· < w0.heap.size) w0 v0_1 x0.2.1) (x1 : Int) (x2 : Int) (r : (((List (List (Int × Int))) × (List Int) × Int × Int) × Bool)) (hF : F_spec_StretchShow x0 x1 x2 = some r) :
    Calls Try.prog 66 [(.agg #[v0_0, v0_1, (.int .i64 x0.2.2.1), (.int .i64 x0.2.2.2)]), (.int .i64 x1), (.int .i64 x2)].toArray w0 fun e w' => ∃ (q0 : Value) (G0 : List Nat) (q1 : Value) (G1 : List Nat), e = .returned (.tuple #[(.agg #[q0, q1, (.int .i64 r.1.2.2.1), (.int .i64 r.1.2.2.2)]), (.bool r.2)]) ∧ Below w0.heap.size w0 w' ∧ Sep w0.heap.size w' [R.own ty_63 G0 q0 r.1.1, R.own ty_3 G1 q1 r.1.2.1] := by
  refine calls_mk' Try.func66 rfl Try.ntmps66 rfl rfl fun Q hQ hP => ?_
  have hB : Below w0.heap.size w0 w0 := Below.refl _ _
  have hS : Sep w0.heap.size w0 [] := Sep.nil _ _
  unfold F_spec_StretchShow at hF
  refine W.seq fun K1 hK1 => ?_
  refine W.region ?_
  refine wl_box (cs := [v0_0, v0_1, (.int .i64 x0.2.2.1), (.int .i64 x0.2.2.2)]) rfl rfl rfl hB hS ?_
  intro b2 w3 hb4 hB5 hS6
  refine wl_alloc (cs := [(.slice none 0 0), (.slice none 0 0), (.int .i64 0), (.int .i64 0)]) tf_53 rfl rfl hB5 hS6 ?_
  intro b7 w8 hb9 hB10 hS11
  refine wl_assign rfl rfl ?_
  refine WL.nil ?_
  refine fun a ha => hK1 _ _ ?_ a ha
  refine W.seq fun K12 hK12 => ?_
  refine W.seq fun K13 hK13 => ?_
  refine W.region ?_
  refine wl_load_blk (i := 1) (vs := [v0_0, v0_1, (.int .i64 x0.2.2.1), (.int .i64 x0.2.2.2)]) (v := (.agg #[v0_0, v0_1, (.int .i64 x0.2.2.1), (.int .i64 x0.2.2.2)])) tf_53 rfl rfl hS11 rfl rfl rfl ?_
  refine wl_move rfl rfl ?_
  obtain ⟨u14, hu14, hF⟩ := bindE hF
  refine wl_call rfl Try.call179 (C_spec_swHas w8 x0 v0_0 (h0_0.ro hB10) v0_1 (h0_1.ro hB10) x1 _ hu14) rfl ?_
  rintro _ w15 ⟨rfl, hb16⟩
  refine ⟨_, rfl, ?_⟩
  have hB17 := hB10.trans (hb16.mono hB10.size)
  have hS18 := hS11.below hb16
  refine wl_not rfl rfl ?_
  refine WL.nil ?_
  refine fun a ha => hK13 _ _ ?_ a ha
  refine W.cond rfl (fun h20 => ?_) (fun h20 => ?_)
  · replace hF := ifP h20 hF
    refine W.seq fun K21 hK21 => ?_
    refine W.region ?_
    refine wl_build (zs := [(.slice none 0 0), (.slice none 0 0), (.int .i64 0), (.int .i64 0)]) (out := [(.slice none 0 0), (.slice none 0 0), (.int .i64 0), (.int .i64 0)]) (vs := []) (css := []) tf_53 pl_53 rfl rfl rfl rfl rfl ?_
    refine wl_store_blk (i := 0) (vs := [(.slice none 0 0), (.slice none 0 0), (.int .i64 0), (.int .i64 0)]) (cs' := [(.slice none 0 0), (.slice none 0 0), (.int .i64 0), (.int .i64 0)]) tf_53 rfl rfl rfl rfl hB17 hS18 rfl rfl ⟨rfl, rfl, rfl, rfl, trivial⟩ rfl ?_
    intro w22 hk25 hB23 hS24
    refine wl_assign rfl rfl ?_
    refine WL.nil ?_
    refine fun a ha => hK21 _ _ ?_ a ha
    refine W.ret ?_
    have hS26 := hS24.push0 (r := R.own ty_63 [] (.slice none 0 0) []) rfl fun _ => .inl ⟨rfl, rfl, rfl⟩
    have hS27 := hS26.push0 (r := R.own ty_3 [] (.slice none 0 0) []) rfl fun _ => .inl ⟨rfl, rfl, rfl⟩
    have hr := Option.some.inj hF
    subst hr
    exact rets (vs := [(.agg #[(.slice none 0 0), (.slice none 0 0), (.int .i64 0), (.int .i64 0)]), (.bool false)]) hQ rfl ⟨rv_cell (i := 0) tf_53 rfl hS24 rfl rfl rfl, rv_tmp rfl, trivial⟩ ⟨(.slice none 0 0), [], (.slice none 0 0), [], rfl, hB23, hS27.sel [1, 0] rfl⟩
  · replace hF := ifN h20 hF
    refine W.skip ?_
    refine fun a ha => hK12 _ _ ?_ a ha
    refine W.seq fun K28 hK28 => ?_
    refine W.region ?_
    refine wl_load_blk (i := 1) (vs := [v0_0, v0_1, (.int .i64 x0.2.2.1), (.int .i64 x0.2.2.2)]) (v := (.agg #[v0_0, v0_1, (.int .i64 x0.2.2.1), (.int .i64 x0.2.2.2)])) tf_53 rfl rfl hS18 rfl rfl rfl ?_
    obtain ⟨u29, hu29, hF⟩ := bindE hF
    refine wl_call rfl Try.call170 (C_spec_swOwn w15 x0 v0_0 (h0_0.ro hB17) v0_1 (h0_1.ro hB17) _ hu29) rfl ?_
    rintro _ w34 ⟨v30, F31, v32, F33, rfl, hb35, hM38⟩
    refine ⟨_, rfl, ?_⟩
    have hB36 := hB17.trans (hb35.mono hB17.size)
    have hS37 := hS18.join hb35 hM38 hB17.size
    refine wl_alloc (cs := [(.slice none 0 0), (.slice none 0 0), (.int .i64 0), (.int .i64 0)]) tf_53 rfl rfl hB36 hS37 ?_
    intro b39 w40 hb41 hB42 hS43
    refine wl_store_blk (i := 0) (vs := [v30, v32, (.int .i64 u29.2.2.1), (.int .i64 u29.2.2.2)]) (cs' := [v30, v32, (.int .i64 u29.2.2.1), (.int .i64 u29.2.2.2)]) tf_53 rfl rfl rfl rfl hB42 hS43 rfl rfl ⟨(hS43.own_ro (i := 1) rfl).one, (hS43.own_ro (i := 2) rfl).one, rfl, rfl, trivial⟩ rfl ?_
    intro w44 hk47 hB45 hS46
    refine WL.nil ?_
    refine fun a ha => hK28 _ _ ?_ a ha
    refine W.seq fun K48 hK48 => ?_
    refine W.region ?_
    refine wl_field (o := 1) (off' := 1) ff_53_1 rfl rfl rfl ?_
    refine wl_load_blk (i := 0) (vs := [v32]) (v := v32) tf_29 rfl rfl hS46 rfl rfl rfl ?_
    refine wl_move rfl rfl ?_
    refine wl_move rfl rfl ?_
    obtain ⟨u49, hu49, hF⟩ := bindE hF
    refine wl_indexo (e := ty_3) (i := 2) Try.underlying29 rfl rfl rfl hS46 rfl hu49 ?_
    rintro p50 _ rfl hp51 ho52
    refine wl_storeo (i := 2) (o := 0) (vs := [(.int .i64 x2)]) (u' := x2) fl_3 tf_3 rfl rfl rfl rfl ho52 hu49 hB45 hS46 rfl rfl ⟨rfl, trivial⟩ rfl ?_
    intro w53 hk56 hB54 hS55
    refine WL.nil ?_
    refine fun a ha => hK48 _ _ ?_ a ha
    refine W.seq fun K57 hK57 => ?_
    refine W.region ?_
    refine wl_load_blk (i := 0) (vs := [v30, v32, (.int .i64 u29.2.2.1), (.int .i64 u29.2.2.2)]) (v := (.agg #[v30, v32, (.int .i64 u29.2.2.1), (.int .i64 u29.2.2.2)])) tf_53 rfl rfl hS55 rfl rfl rfl ?_
    obtain ⟨u58, hu58, hF⟩ := bindE hF
    refine wl_call rfl Try.call172 (C_spec_swIf__take w53 (u29.1, (seti u29.2.1 x1 x2), u29.2.2.1, u29.2.2.2) v30 F31 v32 F33 (hS55.sel [1, 2] rfl).base0 _ hu58) rfl ?_
    rintro _ w59 ⟨v64, F65, v66, F67, rfl, hE60, hM61⟩
    refine ⟨_, rfl, ?_⟩
    have hB62 := hS55.takeB [1, 2] rfl (M := [R.own ty_63 F31 v30 u29.1, R.own ty_3 F33 v32 (seti u29.2.1 x1 x2)]) rfl hB54 hE60 hM61
    have hS63 : Sep w0.heap.size w59 [R.own ty_63 F65 v64 u58.1.1, R.own ty_3 F67 v66 u58.1.2.1, R.blk b39 53 [v30, v32, (.int .i64 u29.2.2.1), (.int .i64 u29.2.2.2)], R.blk b7 53 [(.slice none 0 0), (.slice none 0 0), (.int .i64 0), (.int .i64 0)], R.blk b2 53 [v0_0, v0_1, (.int .i64 x0.2.2.1), (.int .i64 x0.2.2.2)]] := hS55.take [1, 2] [0, 3, 4] rfl (M := [R.own ty_63 F31 v30 u29.1, R.own ty_3 F33 v32 (seti u29.2.1 x1 x2)]) rfl hM61 hB54.size
    refine wl_extract rfl rfl rfl ?_
    refine wl_extract rfl rfl rfl ?_
    refine wl_store_blk (i := 3) (vs := [v64, v66, (.int .i64 u58.1.2.2.1), (.int .i64 u58.1.2.2.2)]) (cs' := [v64, v66, (.int .i64 u58.1.2.2.1), (.int .i64 u58.1.2.2.2)]) tf_53 rfl rfl rfl rfl hB62 hS63 rfl rfl ⟨(hS63.own_ro (i := 0) rfl).one, (hS63.own_ro (i := 1) rfl).one, rfl, rfl, trivial⟩ rfl ?_
    intro w68 hk71 hB69 hS70
    refine wl_assign rfl rfl ?_
    refine WL.nil ?_
    refine fun a ha => hK57 _ _ ?_ a ha
    refine W.ret ?_
    have hr := Option.some.inj hF
    subst hr
    exact rets (vs := [(.agg #[v64, v66, (.int .i64 u58.1.2.2.1), (.int .i64 u58.1.2.2.2)]), (.bool u58.2)]) hQ rfl ⟨rv_cell (i := 3) tf_53 rfl hS70 rfl rfl rfl, rv_tmp rfl, trivial⟩ ⟨v64, F65, v66, F67, rfl, hB69, hS70.sel [0, 1] rfl⟩
theorem C_spec_apStay (w0 : World) (x0 : ((Int × Int) × (Int × Int) × Int)) (x1 : ((Int × Int) × (Int × Int) × Int)) (x2 : Int) (r : Bool) (hF : F_spec_apStay x0 x1 x2 = some r) :
    Calls Try.prog 243 [(.agg #[(.int .i64 x0.1.1), (.int .i64 x0.1.2), (.int .i64 x0.2.1.1), (.int .i64 x0.2.1.2), (.int .i64 x0.2.2)]), (.agg #[(.int .i64 x1.1.1), (.int .i64 x1.1.2), (.int .i64 x1.2.1.1), (.int .i64 x1.2.1.2), (.int .i64 x1.2.2)]), (.int .i64 x2)].toArray w0 fun e w' => e = .returned (.bool r) ∧ Below w0.heap.size w0 w' := by
  refine calls_mk' Try.func243 rfl Try.ntmps243 rfl rfl fun Q hQ hP => ?_
  have hB : Below w0.heap.size w0 w0 := Below.refl _ _
  have hS : Sep w0.heap.size w0 [] := Sep.nil _ _
  unfold F_spec_apStay at hF
  refine W.seq fun K1 hK1 => ?_
  refine W.region ?_
  refine wl_box (cs := [(.int .i64 x0.1.1), (.int .i64 x0.1.2), (.int .i64 x0.2.1.1), (.int .i64 x0.2.1.2), (.int .i64 x0.2.2)]) rfl rfl rfl hB hS ?_
  intro b2 w3 hb4 hB5 hS6
  refine wl_box (cs := [(.int .i64 x1.1.1), (.int .i64 x1.1.2), (.int .i64 x1.2.1.1), (.int .i64 x1.2.1.2), (.int .i64 x1.2.2)]) rfl rfl rfl hB5 hS6 ?_
  intro b7 w8 hb9 hB10 hS11
  refine wl_assign rfl rfl ?_
  refine WL.nil ?_
  refine fun a ha => hK1 _ _ ?_ a ha
  refine W.seq fun K12 hK12 => ?_
  refine W.region ?_
  refine wl_load_blk (i := 1) (vs := [(.int .i64 x0.1.1), (.int .i64 x0.1.2), (.int .i64 x0.2.1.1), (.int .i64 x0.2.1.2), (.int .i64 x0.2.2)]) (v := (.agg #[(.int .i64 x0.1.1), (.int .i64 x0.1.2), (.int .i64 x0.2.1.1), (.int .i64 x0.2.1.2), (.int .i64 x0.2.2)])) tf_70 rfl rfl hS11 rfl rfl rfl ?_
  refine wl_load_blk (i := 0) (vs := [(.int .i64 x1.1.1), (.int .i64 x1.1.2), (.int .i64 x1.2.1.1), (.int .i64 x1.2.1.2), (.int .i64 x1.2.2)]) (v := (.agg #[(.int .i64 x1.1.1), (.int .i64 x1.1.2), (.int .i64 x1.2.1.1), (.int .i64 x1.2.1.2), (.int .i64 x1.2.2)])) tf_70 rfl rfl hS11 rfl rfl rfl ?_
  obtain ⟨u13, hu13, hF⟩ := bindE hF
  refine wl_call rfl Try.call237 (C_spec_apLeast w8 x0 x1 _ hu13) rfl ?_
  rintro _ w14 ⟨rfl, hb15⟩
  refine ⟨_, rfl, ?_⟩
  have hB16 := hB10.trans (hb15.mono hB10.size)
  have hS17 := hS11.below hb15
  refine wl_move rfl rfl ?_
  refine wl_extract rfl rfl rfl ?_
  refine wl_extract rfl rfl rfl ?_
  refine wl_assign rfl rfl ?_
  refine wl_assign rfl rfl ?_
  refine WL.nil ?_
  refine fun a ha => hK12 _ _ ?_ a ha
  refine W.seq fun K19 hK19 => ?_
  refine W.region ?_
  refine wl_move rfl rfl ?_
  refine wl_move rfl rfl ?_
  refine wl_move rfl rfl ?_
  refine wl_mul rfl rfl rfl ?_
  refine wl_move rfl rfl ?_
  refine wl_mul rfl rfl rfl ?_
  refine wl_geq rfl rfl rfl ?_
  refine wl_assign rfl rfl ?_
  refine WL.nil ?_
  refine fun a ha => hK19 _ _ ?_ a ha
  refine W.ret ?_
  have hr := Option.some.inj hF
  subst hr
  exact rets (vs := [(.bool (decide ((w64 ((w64 (x2 * x2)) * u13.2)) ≤ u13.1)))]) hQ rfl ⟨rv_tmp rfl, trivial⟩ ⟨rfl, hB16⟩
end Go.Proofs.Ytmkignciedkidaa
