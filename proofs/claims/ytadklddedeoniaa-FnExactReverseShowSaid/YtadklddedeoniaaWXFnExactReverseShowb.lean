/-
  THE WALKS of functions of this seat, by program (gen.py, prune.py).
-/
import Derived.Test.YtadklddedeoniaaWXFnExactReverseShowa
set_option linter.unusedSimpArgs false
set_option linter.unusedVariables false
set_option maxRecDepth 100000
namespace Go.Proofs.Ytadklddedeoniaa
open Go Go.RowKit
theorem C_impl_copyShow (w0 : World) (x0 : ((List (List (Int × Int))) × (List Int) × Int × Int)) (v0_0 : Value) (h0_0 : rdS ty_69 (· < w0.heap.size) w0 v0_0 x0.1) (v0_1 : Value) (h0_1 : rdS ty_3 (· < w0.heap.size) w0 v0_1 x0.2.1) (r : ((List (List (Int × Int))) × (List Int) × Int × Int)) (hF : F_impl_copyShow x0 = some r) :
    Calls Try.prog 96 [(.agg #[v0_0, v0_1, (.int .i64 x0.2.2.1), (.int .i64 x0.2.2.2)])].toArray w0 fun e w' => ∃ (q0 : Value) (G0 : List Nat) (q1 : Value) (G1 : List Nat), e = .returned (.agg #[q0, q1, (.int .i64 r.2.2.1), (.int .i64 r.2.2.2)]) ∧ Below w0.heap.size w0 w' ∧ Sep w0.heap.size w' [R.own ty_69 G0 q0 r.1, R.own ty_3 G1 q1 r.2.1] := by
  refine calls_mk' Try.func96 rfl Try.ntmps96 rfl rfl fun Q hQ hP => ?_
  have hB : Below w0.heap.size w0 w0 := Below.refl _ _
  have hS : Sep w0.heap.size w0 [] := Sep.nil _ _
  unfold F_impl_copyShow at hF
  refine W.seq fun K1 hK1 => ?_
  refine W.region ?_
  refine wl_box (cs := [v0_0, v0_1, (.int .i64 x0.2.2.1), (.int .i64 x0.2.2.2)]) rfl rfl rfl hB hS ?_
  intro b2 w3 hb4 hB5 hS6
  refine wl_alloc (cs := [(.slice none 0 0), (.slice none 0 0), (.int .i64 0), (.int .i64 0)]) tf_31 rfl rfl hB5 hS6 ?_
  intro b7 w8 hb9 hB10 hS11
  refine WL.nil ?_
  refine fun a ha => hK1 _ _ ?_ a ha
  refine W.seq fun K12 hK12 => ?_
  obtain ⟨k25, hk25, hF⟩ := jE4 hF
  have hJ26 : ∀ (l17 : (List (List (Int × Int)))) (l20 : (List Int)) (y23 : Int) (y24 : Int) (v18 : Value) (F19 : List Nat) (v21 : Value) (F22 : List Nat) (b16 : Nat) (w13 : World) (_ : k25 l17 l20 y23 y24 = some r) (_ : Below w0.heap.size w0 w13) (_ : Sep w0.heap.size w13 [R.blk b2 31 [v0_0, v0_1, (.int .i64 x0.2.2.1), (.int .i64 x0.2.2.2)], R.blk b7 31 [(.slice none 0 0), (.slice none 0 0), (.int .i64 0), (.int .i64 0)], R.own ty_69 F19 v18 l17, R.own ty_3 F22 v21 l20, R.blk b16 31 [v18, v21, (.int .i64 y23), (.int .i64 y24)]]), ∀ a, St 32 [(1, (.pointer (some ⟨b2, 0, none⟩))), (2, (.pointer (some ⟨b7, 0, none⟩))), (3, (.pointer (some ⟨b16, 0, none⟩)))] a → K12 a w13 := by
    intro l17 l20 y23 y24 v18 F19 v21 F22 b16 w13 hF hB14 hS15
    subst hk25
    refine fun a ha => hK12 _ _ ?_ a ha
    refine W.seq fun K27 hK27 => ?_
    refine W.seq fun K28 hK28 => ?_
    refine W.region ?_
    refine wl_field (o := 0) (off' := 0) ff_31_0 rfl rfl rfl ?_
    refine wl_load_blk (i := 0) (vs := [v0_0]) (v := v0_0) tf_29 rfl rfl hS15 rfl rfl rfl ?_
    refine wl_lenr (e := ty_69) (l := x0.1) Try.underlying29 rfl rfl h0_0 ?_
    refine wl_move rfl rfl ?_
    refine WL.nil ?_
    refine fun a ha => hK28 _ _ ?_ a ha
    refine W.block ?_
    refine W.loopk (fun m a w29 => ∃ (l32 : (List (List (Int × Int)))) (y35 : Int) (v33 : Value) (F34 : List Nat), St 32 [(2, (.pointer (some ⟨b7, 0, none⟩))), (3, (.pointer (some ⟨b16, 0, none⟩))), (16, v0_0), (17, (.int .i64 (List.length x0.1 : Int))), (18, (.int .i64 y35))] a ∧ Below w0.heap.size w0 w29 ∧ Sep w0.heap.size w29 [R.blk b7 31 [(.slice none 0 0), (.slice none 0 0), (.int .i64 0), (.int .i64 0)], R.own ty_69 F34 v33 l32, R.own ty_3 F22 v21 l20, R.blk b16 31 [v33, v21, (.int .i64 y23), (.int .i64 y24)]] ∧ F_impl_copyShow_L1 x0 l20 y23 y24 m l32 y35 = some r) FU ?_ ?_
    ·
      exact fun a ha => ⟨l17, 0, v18, F19, ha.sub ⟨rfl, rfl, rfl, rfl, rfl, trivial⟩, hB14, (hS15.sel [1, 2, 3, 4] rfl), hF⟩
    ·
      rintro m38 a w29 ⟨l32, y35, v33, F34, ha, hB30, hS31, hF⟩ KL37 hKL37
      refine W.at ?_ ha
      cases m38 with
      | zero => exact noneE hF
      | succ m38 =>
        obtain ⟨nx36, hnx36⟩ : ∃ k, k = F_impl_copyShow_L1 x0 l20 y23 y24 m38 := ⟨_, rfl⟩
        rw [F_impl_copyShow_L1, ← hnx36] at hF
        refine W.seq fun K39 hK39 => ?_
        refine W.region ?_
        refine wl_lss rfl rfl rfl ?_
        refine WL.nil ?_
        refine fun a ha => hK39 _ _ ?_ a ha
        refine W.seq fun K40 hK40 => ?_
        refine W.cond rfl (fun h41 => ?_) (fun h41 => ?_)
        · replace hF := ifP h41 hF
          refine W.skip ?_
          refine fun a ha => hK40 _ _ ?_ a ha
          refine W.seq fun K42 hK42 => ?_
          obtain ⟨k49, hk49, hF⟩ := jE1 hF
          have hJ50 : ∀ (l46 : (List (List (Int × Int)))) (v47 : Value) (F48 : List Nat) (w43 : World) (_ : k49 l46 = some r) (_ : Below w0.heap.size w0 w43) (_ : Sep w0.heap.size w43 [R.blk b7 31 [(.slice none 0 0), (.slice none 0 0), (.int .i64 0), (.int .i64 0)], R.own ty_69 F48 v47 l46, R.own ty_3 F22 v21 l20, R.blk b16 31 [v47, v21, (.int .i64 y23), (.int .i64 y24)]]), ∀ a, St 32 [(2, (.pointer (some ⟨b7, 0, none⟩))), (3, (.pointer (some ⟨b16, 0, none⟩))), (16, v0_0), (17, (.int .i64 (List.length x0.1 : Int))), (18, (.int .i64 y35))] a → K42 a w43 := by
            intro l46 v47 F48 w43 hF hB44 hS45
            subst hk49
            refine fun a ha => hK42 _ _ ?_ a ha
            refine W.region ?_
            refine wl_add rfl rfl rfl ?_
            refine wl_move rfl rfl ?_
            refine WL.nil ?_
            rw [hnx36] at hF
            exact fun a ha => hKL37 a _ m38 (Nat.lt_succ_self m38) ⟨l46, (w64 (y35 + 1)), v47, F48, ha.sub ⟨rfl, rfl, rfl, rfl, rfl, trivial⟩, hB44, (hS45.sel [0, 1, 2, 3] rfl), hF⟩
          refine W.block ?_
          refine W.seq fun K51 hK51 => ?_
          refine W.region ?_
          obtain ⟨u52, hu52, hF⟩ := bindE hF
          refine wl_index (e := ty_69) Try.underlying29 rfl rfl rfl h0_0 hu52 ?_
          rintro p53 _ ⟨v55, rfl, hv56⟩ hp54
          refine wl_load_p (vs := [v55]) (v := v55) tf_69 rfl rfl (hp54.ro hB30) rfl rfl ?_
          refine wl_assign rfl rfl ?_
          refine WL.nil ?_
          refine fun a ha => hK51 _ _ ?_ a ha
          refine W.regionH mixed_ (F34 ++ [b16]) hB30 hS31 ?_
          intro w57 hb58 hB59 hS60
          have hSW61 := KeepX.refl w57 (F34 ++ [b16])
          refine WH.takex (i := 0) rfl (by kernel_rfl) (by kernel_rfl) (by kernel_rfl) hP hSW61 ?_
          refine pr_field (o := 0) (off' := 0) ff_31_0 rfl rfl rfl ?_
          refine WH.takex (i := 3) rfl (by kernel_rfl) (by kernel_rfl) (by kernel_rfl) hP hSW61 ?_
          refine pr_move rfl rfl ?_
          refine WH.many (is := [1, 2]) (by kernel_rfl) rfl ?_
          refine List.forall_mem_cons.2 ⟨⟨_, rfl, ?_⟩, List.forall_mem_cons.2 ⟨⟨_, rfl, ?_⟩, fun _ h => by cases h⟩⟩
          ·
            refine wl_load_blk (i := 3) (vs := [v33]) (v := v33) tf_29 rfl rfl hS60 rfl rfl rfl ?_
            refine WL.nil (WH.ret hSW61 ?_)
            refine WH.one (i := 2) (by kernel_rfl) rfl ?_
            refine wl_lit (vs := []) (l := []) fl_116 Try.underlying69 rfl rfl rfl rfl rfl rfl (Below.self w57) (Sep.nil _ _) ?_
            intro v62 F63 w65 hb66 hB69 hM70
            have hB67 := hB59.trans (hb66.mono hB59.size)
            have hS68 := hS60.join hb66 hM70 hB59.size
            have hn71 : ∀ b ∈ F63, w57.heap.size ≤ b := fun b hb => Nat.le_trans hSW61.size ((hM70.1 _ (List.mem_cons_self ..)).2.1 b hb).1
            have hSW72 := hSW61.ext hb66
            have hbS73 : Below w57.heap.size w57 w65 := hb66
            refine WL.nil (WH.ret hSW72 ?_)
            refine WH.one (i := 4) (by kernel_rfl) rfl ?_
            obtain ⟨u74, hu74, hF⟩ := bindE hF
            refine wl_append (i := 0) (S := (· < w65.heap.size)) fl_116 Try.underlying69 rfl rfl rfl hB67 hS68 rfl (hv56.ro hB67) hu74 ?_
            intro v75 F76 w77 hk78 hB79 hS80
            have hSW81 := hSW72.wr' hk78.1 hk78.2.1 (fun b hlt hb => absurd hlt (Nat.not_lt.2 (hn71 b hb)))
            have hn82 : ∀ b ∈ F76, w57.heap.size ≤ b := fun b hb => (hk78.2.2 b hb).elim (hn71 b) fun h => Nat.le_trans hSW72.size h
            refine WL.nil (WH.ret hSW81 ?_)
            refine WH.one (i := 5) (by kernel_rfl) rfl ?_
            have hq83 := hS80.sel [0, 1, 2, 3, 4] rfl
            have hq84 := hq83.head (r' := R.cel ty_69 F76 [v75] u74) (rfl) fun _ h0 => ⟨_, rfl, h0⟩
            refine wl_lit1 (e := ty_69) (vs := [v75]) Try.underlying29 rfl rfl (cells_one (hS80.own_ro (i := 0) rfl).one) rfl hB79 hq84 ?_
            intro v85 F86 w87 hb88 hf89 hB90 hS91
            have hn92 : ∀ b ∈ F86, w57.heap.size ≤ b := fun b hb => (hf89 b hb).elim (hn82 b) fun h => Nat.le_trans hSW81.size h
            have hSW93 := hSW81.ext hb88
            refine WL.nil (WH.ret hSW93 ?_)
            refine WH.one (i := 6) (by kernel_rfl) rfl ?_
            obtain ⟨u94, hu94, hF⟩ := bindE hF
            refine wl_appendn (e := ty_69) Try.underlying29 rfl rfl rfl hB90 (hS91.sel [2, 0, 1, 3, 4] rfl) hu94 ?_
            intro v95 F96 w97 hk98 hB99 hS100
            have hSW101 := hSW93.wr' hk98.1 hk98.2.1 (fun _ _ h => List.mem_append_left _ (h))
            refine WL.nil (WH.ret hSW101 ?_)
            refine WH.takex (i := 7) rfl (by kernel_rfl) (by kernel_rfl) (by kernel_rfl) hP hSW101 ?_
            refine pr_field (o := 0) (off' := 0) ff_31_0 rfl rfl rfl ?_
            refine WH.one (i := 8) (by kernel_rfl) rfl ?_
            refine wl_store_blk (i := 3) (vs := [v95]) (cs' := [v95, v21, (.int .i64 y23), (.int .i64 y24)]) tf_29 rfl rfl (cells_one (hS100.own_ro (i := 0) rfl).one) rfl hB99 hS100 rfl rfl ⟨(hS100.own_ro (i := 0) rfl).one, trivial⟩ rfl ?_
            intro w102 hk105 hB103 hS104
            have hSW106 := hSW101.wr' hk105.1 hk105.2.1 (fun _ _ h => List.mem_append_right _ h)
            refine WL.nil (WH.ret hSW106 ?_)
            refine WH.done (by kernel_rfl) ?_
            exact fun a ha => hJ50 (u94) (v95) (F96) _ hF hB103 (hS104.sel [1, 0, 2, 3] rfl) a (ha.sub ⟨rfl, rfl, rfl, rfl, rfl, trivial⟩)
          ·
            refine wl_lit (vs := []) (l := []) fl_116 Try.underlying69 rfl rfl rfl rfl rfl rfl (Below.self w57) (Sep.nil _ _) ?_
            intro v107 F108 w109 hb110 hB113 hM114
            have hB111 := hB59.trans (hb110.mono hB59.size)
            have hS112 := hS60.join hb110 hM114 hB59.size
            have hn115 : ∀ b ∈ F108, w57.heap.size ≤ b := fun b hb => Nat.le_trans hSW61.size ((hM114.1 _ (List.mem_cons_self ..)).2.1 b hb).1
            have hSW116 := hSW61.ext hb110
            have hbS117 : Below w57.heap.size w57 w109 := hb110
            refine WL.nil (WH.ret hSW116 ?_)
            refine WH.many (is := [1, 4]) (by kernel_rfl) rfl ?_
            refine List.forall_mem_cons.2 ⟨⟨_, rfl, ?_⟩, List.forall_mem_cons.2 ⟨⟨_, rfl, ?_⟩, fun _ h => by cases h⟩⟩
            ·
              refine wl_load_blk (i := 4) (vs := [v33]) (v := v33) tf_29 rfl rfl hS112 rfl rfl rfl ?_
              refine WL.nil (WH.ret hSW116 ?_)
              refine WH.one (i := 4) (by kernel_rfl) rfl ?_
              obtain ⟨u118, hu118, hF⟩ := bindE hF
              refine wl_append (i := 0) (S := (· < w109.heap.size)) fl_116 Try.underlying69 rfl rfl rfl hB111 hS112 rfl (hv56.ro hB111) hu118 ?_
              intro v119 F120 w121 hk122 hB123 hS124
              have hSW125 := hSW116.wr' hk122.1 hk122.2.1 (fun b hlt hb => absurd hlt (Nat.not_lt.2 (hn115 b hb)))
              have hn126 : ∀ b ∈ F120, w57.heap.size ≤ b := fun b hb => (hk122.2.2 b hb).elim (hn115 b) fun h => Nat.le_trans hSW116.size h
              refine WL.nil (WH.ret hSW125 ?_)
              refine WH.one (i := 5) (by kernel_rfl) rfl ?_
              have hq127 := hS124.sel [0, 1, 2, 3, 4] rfl
              have hq128 := hq127.head (r' := R.cel ty_69 F120 [v119] u118) (rfl) fun _ h0 => ⟨_, rfl, h0⟩
              refine wl_lit1 (e := ty_69) (vs := [v119]) Try.underlying29 rfl rfl (cells_one (hS124.own_ro (i := 0) rfl).one) rfl hB123 hq128 ?_
              intro v129 F130 w131 hb132 hf133 hB134 hS135
              have hn136 : ∀ b ∈ F130, w57.heap.size ≤ b := fun b hb => (hf133 b hb).elim (hn126 b) fun h => Nat.le_trans hSW125.size h
              have hSW137 := hSW125.ext hb132
              refine WL.nil (WH.ret hSW137 ?_)
              refine WH.one (i := 6) (by kernel_rfl) rfl ?_
              obtain ⟨u138, hu138, hF⟩ := bindE hF
              refine wl_appendn (e := ty_69) Try.underlying29 rfl rfl rfl hB134 (hS135.sel [2, 0, 1, 3, 4] rfl) hu138 ?_
              intro v139 F140 w141 hk142 hB143 hS144
              have hSW145 := hSW137.wr' hk142.1 hk142.2.1 (fun _ _ h => List.mem_append_left _ (h))
              refine WL.nil (WH.ret hSW145 ?_)
              refine WH.takex (i := 7) rfl (by kernel_rfl) (by kernel_rfl) (by kernel_rfl) hP hSW145 ?_
              refine pr_field (o := 0) (off' := 0) ff_31_0 rfl rfl rfl ?_
              refine WH.one (i := 8) (by kernel_rfl) rfl ?_
              refine wl_store_blk (i := 3) (vs := [v139]) (cs' := [v139, v21, (.int .i64 y23), (.int .i64 y24)]) tf_29 rfl rfl (cells_one (hS144.own_ro (i := 0) rfl).one) rfl hB143 hS144 rfl rfl ⟨(hS144.own_ro (i := 0) rfl).one, trivial⟩ rfl ?_
              intro w146 hk149 hB147 hS148
              have hSW150 := hSW145.wr' hk149.1 hk149.2.1 (fun _ _ h => List.mem_append_right _ h)
              refine WL.nil (WH.ret hSW150 ?_)
              refine WH.done (by kernel_rfl) ?_
              exact fun a ha => hJ50 (u138) (v139) (F140) _ hF hB147 (hS148.sel [1, 0, 2, 3] rfl) a (ha.sub ⟨rfl, rfl, rfl, rfl, rfl, trivial⟩)
            ·
              obtain ⟨u151, hu151, hF⟩ := bindE hF
              refine wl_append (i := 0) (S := (· < w109.heap.size)) fl_116 Try.underlying69 rfl rfl rfl hB111 hS112 rfl (hv56.ro hB111) hu151 ?_
              intro v152 F153 w154 hk155 hB156 hS157
              have hSW158 := hSW116.wr' hk155.1 hk155.2.1 (fun b hlt hb => absurd hlt (Nat.not_lt.2 (hn115 b hb)))
              have hn159 : ∀ b ∈ F153, w57.heap.size ≤ b := fun b hb => (hk155.2.2 b hb).elim (hn115 b) fun h => Nat.le_trans hSW116.size h
              refine WL.nil (WH.ret hSW158 ?_)
              refine WH.many (is := [1, 5]) (by kernel_rfl) rfl ?_
              refine List.forall_mem_cons.2 ⟨⟨_, rfl, ?_⟩, List.forall_mem_cons.2 ⟨⟨_, rfl, ?_⟩, fun _ h => by cases h⟩⟩
              ·
                refine wl_load_blk (i := 4) (vs := [v33]) (v := v33) tf_29 rfl rfl hS157 rfl rfl rfl ?_
                refine WL.nil (WH.ret hSW158 ?_)
                refine WH.one (i := 5) (by kernel_rfl) rfl ?_
                have hq160 := hS157.sel [0, 1, 2, 3, 4] rfl
                have hq161 := hq160.head (r' := R.cel ty_69 F153 [v152] u151) (rfl) fun _ h0 => ⟨_, rfl, h0⟩
                refine wl_lit1 (e := ty_69) (vs := [v152]) Try.underlying29 rfl rfl (cells_one (hS157.own_ro (i := 0) rfl).one) rfl hB156 hq161 ?_
                intro v162 F163 w164 hb165 hf166 hB167 hS168
                have hn169 : ∀ b ∈ F163, w57.heap.size ≤ b := fun b hb => (hf166 b hb).elim (hn159 b) fun h => Nat.le_trans hSW158.size h
                have hSW170 := hSW158.ext hb165
                refine WL.nil (WH.ret hSW170 ?_)
                refine WH.one (i := 6) (by kernel_rfl) rfl ?_
                obtain ⟨u171, hu171, hF⟩ := bindE hF
                refine wl_appendn (e := ty_69) Try.underlying29 rfl rfl rfl hB167 (hS168.sel [2, 0, 1, 3, 4] rfl) hu171 ?_
                intro v172 F173 w174 hk175 hB176 hS177
                have hSW178 := hSW170.wr' hk175.1 hk175.2.1 (fun _ _ h => List.mem_append_left _ (h))
                refine WL.nil (WH.ret hSW178 ?_)
                refine WH.takex (i := 7) rfl (by kernel_rfl) (by kernel_rfl) (by kernel_rfl) hP hSW178 ?_
                refine pr_field (o := 0) (off' := 0) ff_31_0 rfl rfl rfl ?_
                refine WH.one (i := 8) (by kernel_rfl) rfl ?_
                refine wl_store_blk (i := 3) (vs := [v172]) (cs' := [v172, v21, (.int .i64 y23), (.int .i64 y24)]) tf_29 rfl rfl (cells_one (hS177.own_ro (i := 0) rfl).one) rfl hB176 hS177 rfl rfl ⟨(hS177.own_ro (i := 0) rfl).one, trivial⟩ rfl ?_
                intro w179 hk182 hB180 hS181
                have hSW183 := hSW178.wr' hk182.1 hk182.2.1 (fun _ _ h => List.mem_append_right _ h)
                refine WL.nil (WH.ret hSW183 ?_)
                refine WH.done (by kernel_rfl) ?_
                exact fun a ha => hJ50 (u171) (v172) (F173) _ hF hB180 (hS181.sel [1, 0, 2, 3] rfl) a (ha.sub ⟨rfl, rfl, rfl, rfl, rfl, trivial⟩)
              ·
                have hq184 := hS157.sel [0, 1, 2, 3, 4] rfl
                have hq185 := hq184.head (r' := R.cel ty_69 F153 [v152] u151) (rfl) fun _ h0 => ⟨_, rfl, h0⟩
                refine wl_lit1 (e := ty_69) (vs := [v152]) Try.underlying29 rfl rfl (cells_one (hS157.own_ro (i := 0) rfl).one) rfl hB156 hq185 ?_
                intro v186 F187 w188 hb189 hf190 hB191 hS192
                have hn193 : ∀ b ∈ F187, w57.heap.size ≤ b := fun b hb => (hf190 b hb).elim (hn159 b) fun h => Nat.le_trans hSW158.size h
                have hSW194 := hSW158.ext hb189
                refine WL.nil (WH.ret hSW194 ?_)
                refine WH.one (i := 1) (by kernel_rfl) rfl ?_
                refine wl_load_blk (i := 4) (vs := [v33]) (v := v33) tf_29 rfl rfl hS192 rfl rfl rfl ?_
                refine WL.nil (WH.ret hSW194 ?_)
                refine WH.one (i := 6) (by kernel_rfl) rfl ?_
                obtain ⟨u195, hu195, hF⟩ := bindE hF
                refine wl_appendn (e := ty_69) Try.underlying29 rfl rfl rfl hB191 (hS192.sel [2, 0, 1, 3, 4] rfl) hu195 ?_
                intro v196 F197 w198 hk199 hB200 hS201
                have hSW202 := hSW194.wr' hk199.1 hk199.2.1 (fun _ _ h => List.mem_append_left _ (h))
                refine WL.nil (WH.ret hSW202 ?_)
                refine WH.takex (i := 7) rfl (by kernel_rfl) (by kernel_rfl) (by kernel_rfl) hP hSW202 ?_
                refine pr_field (o := 0) (off' := 0) ff_31_0 rfl rfl rfl ?_
                refine WH.one (i := 8) (by kernel_rfl) rfl ?_
                refine wl_store_blk (i := 3) (vs := [v196]) (cs' := [v196, v21, (.int .i64 y23), (.int .i64 y24)]) tf_29 rfl rfl (cells_one (hS201.own_ro (i := 0) rfl).one) rfl hB200 hS201 rfl rfl ⟨(hS201.own_ro (i := 0) rfl).one, trivial⟩ rfl ?_
                intro w203 hk206 hB204 hS205
                have hSW207 := hSW202.wr' hk206.1 hk206.2.1 (fun _ _ h => List.mem_append_right _ h)
                refine WL.nil (WH.ret hSW207 ?_)
                refine WH.done (by kernel_rfl) ?_
                exact fun a ha => hJ50 (u195) (v196) (F197) _ hF hB204 (hS205.sel [1, 0, 2, 3] rfl) a (ha.sub ⟨rfl, rfl, rfl, rfl, rfl, trivial⟩)
        · replace hF := ifN h41 hF
          refine W.exit ?_
          refine fun a ha => hK27 _ _ ?_ a ha
          refine W.seq fun K208 hK208 => ?_
          refine W.region ?_
          refine wl_load_blk (i := 3) (vs := [v33, v21, (.int .i64 y23), (.int .i64 y24)]) (v := (.agg #[v33, v21, (.int .i64 y23), (.int .i64 y24)])) tf_31 rfl rfl hS31 rfl rfl rfl ?_
          refine wl_store_blk (i := 0) (vs := [v33, v21, (.int .i64 y23), (.int .i64 y24)]) (cs' := [v33, v21, (.int .i64 y23), (.int .i64 y24)]) tf_31 rfl rfl rfl rfl hB30 hS31 rfl rfl ⟨(hS31.own_ro (i := 1) rfl).one, (hS31.own_ro (i := 2) rfl).one, rfl, rfl, trivial⟩ rfl ?_
          intro w209 hk212 hB210 hS211
          refine WL.nil ?_
          refine fun a ha => hK208 _ _ ?_ a ha
          refine W.ret ?_
          have hr := Option.some.inj hF
          subst hr
          exact rets (vs := [(.agg #[v33, v21, (.int .i64 y23), (.int .i64 y24)])]) hQ rfl ⟨rv_cell (i := 0) tf_31 rfl hS211 rfl rfl rfl, trivial⟩ ⟨v33, F34, v21, F22, rfl, hB210, hS211.sel [1, 2] rfl⟩
  refine W.regionH mixed_ [] hB10 hS11 ?_
  intro w213 hb214 hB215 hS216
  have hSW217 := KeepX.refl w213 []
  refine WH.takex (i := 1) rfl (by kernel_rfl) (by kernel_rfl) (by kernel_rfl) hP hSW217 ?_
  refine pr_field (o := 1) (off' := 1) ff_31_1 rfl rfl rfl ?_
  refine WH.takex (i := 2) rfl (by kernel_rfl) (by kernel_rfl) (by kernel_rfl) hP hSW217 ?_
  refine pr_load_blk (i := 1) (vs := [v0_1]) (v := v0_1) tf_23 rfl rfl hS216 rfl rfl rfl (by simp) ?_
  refine WH.takex (i := 4) rfl (by kernel_rfl) (by kernel_rfl) (by kernel_rfl) hP hSW217 ?_
  refine pr_field (o := 2) (off' := 2) ff_31_2 rfl rfl rfl ?_
  refine WH.takex (i := 5) rfl (by kernel_rfl) (by kernel_rfl) (by kernel_rfl) hP hSW217 ?_
  refine pr_load_blk (i := 1) (vs := [(.int .i64 x0.2.2.1)]) (v := (.int .i64 x0.2.2.1)) tf_3 rfl rfl hS216 rfl rfl rfl (by simp) ?_
  refine WH.takex (i := 6) rfl (by kernel_rfl) (by kernel_rfl) (by kernel_rfl) hP hSW217 ?_
  refine pr_field (o := 3) (off' := 3) ff_31_3 rfl rfl rfl ?_
  refine WH.takex (i := 7) rfl (by kernel_rfl) (by kernel_rfl) (by kernel_rfl) hP hSW217 ?_
  refine pr_load_blk (i := 1) (vs := [(.int .i64 x0.2.2.2)]) (v := (.int .i64 x0.2.2.2)) tf_3 rfl rfl hS216 rfl rfl rfl (by simp) ?_
  refine WH.many (is := [0, 3, 9]) (by kernel_rfl) rfl ?_
  refine List.forall_mem_cons.2 ⟨⟨_, rfl, ?_⟩, List.forall_mem_cons.2 ⟨⟨_, rfl, ?_⟩, List.forall_mem_cons.2 ⟨⟨_, rfl, ?_⟩, fun _ h => by cases h⟩⟩⟩
  ·
    refine wl_lit0 (e := ty_69) Try.underlying29 rfl (Below.self w213) (Sep.nil _ _) ?_
    intro v218 F219 w220 hb221 hB224 hM225
    have hB222 := hB215.trans (hb221.mono hB215.size)
    have hS223 := hS216.join hb221 hM225 hB215.size
    have hn226 : ∀ b ∈ F219, w213.heap.size ≤ b := fun b hb => Nat.le_trans hSW217.size ((hM225.1 _ (List.mem_cons_self ..)).2.1 b hb).1
    have hSW227 := hSW217.ext hb221
    refine WL.nil (WH.ret hSW227 ?_)
    refine WH.many (is := [3, 9]) (by kernel_rfl) rfl ?_
    refine List.forall_mem_cons.2 ⟨⟨_, rfl, ?_⟩, List.forall_mem_cons.2 ⟨⟨_, rfl, ?_⟩, fun _ h => by cases h⟩⟩
    ·
      obtain ⟨u228, hu228, hF⟩ := bindE hF
      refine wl_call rfl Try.call137 (C_impl_copyInts w220 x0.2.1 v0_1 (h0_1.ro hB222) _ hu228) rfl ?_
      rintro _ w231 ⟨v229, F230, rfl, hb232, hM235⟩
      refine ⟨_, rfl, ?_⟩
      have hB233 := hB222.trans (hb232.mono hB222.size)
      have hn236 : ∀ b ∈ F230, w213.heap.size ≤ b := fun b hb => Nat.le_trans hSW227.size ((hM235.get (i := 0) rfl).2.1 b hb).1
      have hS234 := hS223.join hb232 hM235 hB222.size
      have hSW237 := hSW227.ext hb232
      refine WL.nil (WH.ret hSW237 ?_)
      refine WH.takex (i := 8) rfl (by kernel_rfl) (by kernel_rfl) (by kernel_rfl) hP hSW237 ?_
      refine pr_build (zs := [(.slice none 0 0), (.slice none 0 0), (.int .i64 0), (.int .i64 0)]) (out := [v218, v229, (.int .i64 x0.2.2.1), (.int .i64 x0.2.2.2)]) (vs := [v218, v229, (.int .i64 x0.2.2.1), (.int .i64 x0.2.2.2)]) (css := [[v218], [v229], [(.int .i64 x0.2.2.1)], [(.int .i64 x0.2.2.2)]]) tf_31 pl_31 rfl rfl (by simp only [List.map_cons, List.map_nil, cells_one ((hS234.own_ro (i := 1) rfl).one), cells_one ((hS234.own_ro (i := 0) rfl).one)]; rfl) rfl rfl ?_
      refine WH.one (i := 9) (by kernel_rfl) rfl ?_
      refine wl_alloc (cs := [(.slice none 0 0), (.slice none 0 0), (.int .i64 0), (.int .i64 0)]) tf_31 rfl rfl (Below.self w231) (Sep.nil _ _) ?_
      intro b238 w239 hb240 hB243 hM244
      have hB241 := hB233.trans (hb240.mono hB233.size)
      have hS242 := hS234.join hb240 hM244 hB233.size
      have hn245 : ∀ b ∈ [b238], w213.heap.size ≤ b := fun b hb => Nat.le_trans hSW237.size ((hM244.1 _ (List.mem_cons_self ..)).2.1 b hb).1
      have hSW246 := hSW237.ext hb240
      refine WL.nil (WH.ret hSW246 ?_)
      refine WH.one (i := 10) (by kernel_rfl) rfl ?_
      refine wl_store_blk (i := 0) (vs := [v218, v229, (.int .i64 x0.2.2.1), (.int .i64 x0.2.2.2)]) (cs' := [v218, v229, (.int .i64 x0.2.2.1), (.int .i64 x0.2.2.2)]) tf_31 rfl rfl rfl rfl hB241 hS242 rfl rfl ⟨(hS242.own_ro (i := 2) rfl).one, (hS242.own_ro (i := 1) rfl).one, rfl, rfl, trivial⟩ rfl ?_
      intro w247 hk250 hB248 hS249
      have hSW251 := hSW246.wr' hk250.1 hk250.2.1 (fun b hlt hb => absurd hlt (Nat.not_lt.2 (hn245 b hb)))
      have hn252 : ∀ b ∈ [b238], w213.heap.size ≤ b := fun b hb => (hk250.2.2 b hb).elim (hn245 b) fun h => Nat.le_trans hSW246.size h
      refine WL.nil (WH.ret hSW251 ?_)
      refine WH.done (by kernel_rfl) ?_
      exact fun a ha => hJ26 ([]) (u228) (x0.2.2.1) (x0.2.2.2) (v218) (F219) (v229) (F230) (b238) _ hF hB248 (hS249.sel [4, 3, 2, 1, 0] rfl) a (ha.sub ⟨rfl, rfl, rfl, trivial⟩)
    ·
      refine wl_alloc (cs := [(.slice none 0 0), (.slice none 0 0), (.int .i64 0), (.int .i64 0)]) tf_31 rfl rfl (Below.self w220) (Sep.nil _ _) ?_
      intro b253 w254 hb255 hB258 hM259
      have hB256 := hB222.trans (hb255.mono hB222.size)
      have hS257 := hS223.join hb255 hM259 hB222.size
      have hn260 : ∀ b ∈ [b253], w213.heap.size ≤ b := fun b hb => Nat.le_trans hSW227.size ((hM259.1 _ (List.mem_cons_self ..)).2.1 b hb).1
      have hSW261 := hSW227.ext hb255
      refine WL.nil (WH.ret hSW261 ?_)
      refine WH.one (i := 3) (by kernel_rfl) rfl ?_
      obtain ⟨u262, hu262, hF⟩ := bindE hF
      refine wl_call rfl Try.call137 (C_impl_copyInts w254 x0.2.1 v0_1 (h0_1.ro hB256) _ hu262) rfl ?_
      rintro _ w265 ⟨v263, F264, rfl, hb266, hM269⟩
      refine ⟨_, rfl, ?_⟩
      have hB267 := hB256.trans (hb266.mono hB256.size)
      have hn270 : ∀ b ∈ F264, w213.heap.size ≤ b := fun b hb => Nat.le_trans hSW261.size ((hM269.get (i := 0) rfl).2.1 b hb).1
      have hS268 := hS257.join hb266 hM269 hB256.size
      have hSW271 := hSW261.ext hb266
      refine WL.nil (WH.ret hSW271 ?_)
      refine WH.takex (i := 8) rfl (by kernel_rfl) (by kernel_rfl) (by kernel_rfl) hP hSW271 ?_
      refine pr_build (zs := [(.slice none 0 0), (.slice none 0 0), (.int .i64 0), (.int .i64 0)]) (out := [v218, v263, (.int .i64 x0.2.2.1), (.int .i64 x0.2.2.2)]) (vs := [v218, v263, (.int .i64 x0.2.2.1), (.int .i64 x0.2.2.2)]) (css := [[v218], [v263], [(.int .i64 x0.2.2.1)], [(.int .i64 x0.2.2.2)]]) tf_31 pl_31 rfl rfl (by simp only [List.map_cons, List.map_nil, cells_one ((hS268.own_ro (i := 2) rfl).one), cells_one ((hS268.own_ro (i := 0) rfl).one)]; rfl) rfl rfl ?_
      refine WH.one (i := 10) (by kernel_rfl) rfl ?_
      refine wl_store_blk (i := 1) (vs := [v218, v263, (.int .i64 x0.2.2.1), (.int .i64 x0.2.2.2)]) (cs' := [v218, v263, (.int .i64 x0.2.2.1), (.int .i64 x0.2.2.2)]) tf_31 rfl rfl rfl rfl hB267 hS268 rfl rfl ⟨(hS268.own_ro (i := 2) rfl).one, (hS268.own_ro (i := 0) rfl).one, rfl, rfl, trivial⟩ rfl ?_
      intro w272 hk275 hB273 hS274
      have hSW276 := hSW271.wr' hk275.1 hk275.2.1 (fun b hlt hb => absurd hlt (Nat.not_lt.2 (hn260 b hb)))
      have hn277 : ∀ b ∈ [b253], w213.heap.size ≤ b := fun b hb => (hk275.2.2 b hb).elim (hn260 b) fun h => Nat.le_trans hSW271.size h
      refine WL.nil (WH.ret hSW276 ?_)
      refine WH.done (by kernel_rfl) ?_
      exact fun a ha => hJ26 ([]) (u262) (x0.2.2.1) (x0.2.2.2) (v218) (F219) (v263) (F264) (b253) _ hF hB273 (hS274.sel [4, 3, 2, 0, 1] rfl) a (ha.sub ⟨rfl, rfl, rfl, trivial⟩)
  ·
    obtain ⟨u278, hu278, hF⟩ := bindE hF
    refine wl_call rfl Try.call137 (C_impl_copyInts w213 x0.2.1 v0_1 (h0_1.ro hB215) _ hu278) rfl ?_
    rintro _ w281 ⟨v279, F280, rfl, hb282, hM285⟩
    refine ⟨_, rfl, ?_⟩
    have hB283 := hB215.trans (hb282.mono hB215.size)
    have hn286 : ∀ b ∈ F280, w213.heap.size ≤ b := fun b hb => Nat.le_trans hSW217.size ((hM285.get (i := 0) rfl).2.1 b hb).1
    have hS284 := hS216.join hb282 hM285 hB215.size
    have hSW287 := hSW217.ext hb282
    refine WL.nil (WH.ret hSW287 ?_)
    refine WH.many (is := [0, 9]) (by kernel_rfl) rfl ?_
    refine List.forall_mem_cons.2 ⟨⟨_, rfl, ?_⟩, List.forall_mem_cons.2 ⟨⟨_, rfl, ?_⟩, fun _ h => by cases h⟩⟩
    ·
      refine wl_lit0 (e := ty_69) Try.underlying29 rfl (Below.self w281) (Sep.nil _ _) ?_
      intro v288 F289 w290 hb291 hB294 hM295
      have hB292 := hB283.trans (hb291.mono hB283.size)
      have hS293 := hS284.join hb291 hM295 hB283.size
      have hn296 : ∀ b ∈ F289, w213.heap.size ≤ b := fun b hb => Nat.le_trans hSW287.size ((hM295.1 _ (List.mem_cons_self ..)).2.1 b hb).1
      have hSW297 := hSW287.ext hb291
      refine WL.nil (WH.ret hSW297 ?_)
      refine WH.takex (i := 8) rfl (by kernel_rfl) (by kernel_rfl) (by kernel_rfl) hP hSW297 ?_
      refine pr_build (zs := [(.slice none 0 0), (.slice none 0 0), (.int .i64 0), (.int .i64 0)]) (out := [v288, v279, (.int .i64 x0.2.2.1), (.int .i64 x0.2.2.2)]) (vs := [v288, v279, (.int .i64 x0.2.2.1), (.int .i64 x0.2.2.2)]) (css := [[v288], [v279], [(.int .i64 x0.2.2.1)], [(.int .i64 x0.2.2.2)]]) tf_31 pl_31 rfl rfl (by simp only [List.map_cons, List.map_nil, cells_one ((hS293.own_ro (i := 0) rfl).one), cells_one ((hS293.own_ro (i := 1) rfl).one)]; rfl) rfl rfl ?_
      refine WH.one (i := 9) (by kernel_rfl) rfl ?_
      refine wl_alloc (cs := [(.slice none 0 0), (.slice none 0 0), (.int .i64 0), (.int .i64 0)]) tf_31 rfl rfl (Below.self w290) (Sep.nil _ _) ?_
      intro b298 w299 hb300 hB303 hM304
      have hB301 := hB292.trans (hb300.mono hB292.size)
      have hS302 := hS293.join hb300 hM304 hB292.size
      have hn305 : ∀ b ∈ [b298], w213.heap.size ≤ b := fun b hb => Nat.le_trans hSW297.size ((hM304.1 _ (List.mem_cons_self ..)).2.1 b hb).1
      have hSW306 := hSW297.ext hb300
      refine WL.nil (WH.ret hSW306 ?_)
      refine WH.one (i := 10) (by kernel_rfl) rfl ?_
      refine wl_store_blk (i := 0) (vs := [v288, v279, (.int .i64 x0.2.2.1), (.int .i64 x0.2.2.2)]) (cs' := [v288, v279, (.int .i64 x0.2.2.1), (.int .i64 x0.2.2.2)]) tf_31 rfl rfl rfl rfl hB301 hS302 rfl rfl ⟨(hS302.own_ro (i := 1) rfl).one, (hS302.own_ro (i := 2) rfl).one, rfl, rfl, trivial⟩ rfl ?_
      intro w307 hk310 hB308 hS309
      have hSW311 := hSW306.wr' hk310.1 hk310.2.1 (fun b hlt hb => absurd hlt (Nat.not_lt.2 (hn305 b hb)))
      have hn312 : ∀ b ∈ [b298], w213.heap.size ≤ b := fun b hb => (hk310.2.2 b hb).elim (hn305 b) fun h => Nat.le_trans hSW306.size h
      refine WL.nil (WH.ret hSW311 ?_)
      refine WH.done (by kernel_rfl) ?_
      exact fun a ha => hJ26 ([]) (u278) (x0.2.2.1) (x0.2.2.2) (v288) (F289) (v279) (F280) (b298) _ hF hB308 (hS309.sel [4, 3, 1, 2, 0] rfl) a (ha.sub ⟨rfl, rfl, rfl, trivial⟩)
    ·
      refine wl_alloc (cs := [(.slice none 0 0), (.slice none 0 0), (.int .i64 0), (.int .i64 0)]) tf_31 rfl rfl (Below.self w281) (Sep.nil _ _) ?_
      intro b313 w314 hb315 hB318 hM319
      have hB316 := hB283.trans (hb315.mono hB283.size)
      have hS317 := hS284.join hb315 hM319 hB283.size
      have hn320 : ∀ b ∈ [b313], w213.heap.size ≤ b := fun b hb => Nat.le_trans hSW287.size ((hM319.1 _ (List.mem_cons_self ..)).2.1 b hb).1
      have hSW321 := hSW287.ext hb315
      refine WL.nil (WH.ret hSW321 ?_)
      refine WH.one (i := 0) (by kernel_rfl) rfl ?_
      refine wl_lit0 (e := ty_69) Try.underlying29 rfl (Below.self w314) (Sep.nil _ _) ?_
      intro v322 F323 w324 hb325 hB328 hM329
      have hB326 := hB316.trans (hb325.mono hB316.size)
      have hS327 := hS317.join hb325 hM329 hB316.size
      have hn330 : ∀ b ∈ F323, w213.heap.size ≤ b := fun b hb => Nat.le_trans hSW321.size ((hM329.1 _ (List.mem_cons_self ..)).2.1 b hb).1
      have hSW331 := hSW321.ext hb325
      refine WL.nil (WH.ret hSW331 ?_)
      refine WH.takex (i := 8) rfl (by kernel_rfl) (by kernel_rfl) (by kernel_rfl) hP hSW331 ?_
      refine pr_build (zs := [(.slice none 0 0), (.slice none 0 0), (.int .i64 0), (.int .i64 0)]) (out := [v322, v279, (.int .i64 x0.2.2.1), (.int .i64 x0.2.2.2)]) (vs := [v322, v279, (.int .i64 x0.2.2.1), (.int .i64 x0.2.2.2)]) (css := [[v322], [v279], [(.int .i64 x0.2.2.1)], [(.int .i64 x0.2.2.2)]]) tf_31 pl_31 rfl rfl (by simp only [List.map_cons, List.map_nil, cells_one ((hS327.own_ro (i := 0) rfl).one), cells_one ((hS327.own_ro (i := 2) rfl).one)]; rfl) rfl rfl ?_
      refine WH.one (i := 10) (by kernel_rfl) rfl ?_
      refine wl_store_blk (i := 1) (vs := [v322, v279, (.int .i64 x0.2.2.1), (.int .i64 x0.2.2.2)]) (cs' := [v322, v279, (.int .i64 x0.2.2.1), (.int .i64 x0.2.2.2)]) tf_31 rfl rfl rfl rfl hB326 hS327 rfl rfl ⟨(hS327.own_ro (i := 0) rfl).one, (hS327.own_ro (i := 2) rfl).one, rfl, rfl, trivial⟩ rfl ?_
      intro w332 hk335 hB333 hS334
      have hSW336 := hSW331.wr' hk335.1 hk335.2.1 (fun b hlt hb => absurd hlt (Nat.not_lt.2 (hn320 b hb)))
      have hn337 : ∀ b ∈ [b313], w213.heap.size ≤ b := fun b hb => (hk335.2.2 b hb).elim (hn320 b) fun h => Nat.le_trans hSW331.size h
      refine WL.nil (WH.ret hSW336 ?_)
      refine WH.done (by kernel_rfl) ?_
      exact fun a ha => hJ26 ([]) (u278) (x0.2.2.1) (x0.2.2.2) (v322) (F323) (v279) (F280) (b313) _ hF hB333 (hS334.sel [4, 3, 0, 2, 1] rfl) a (ha.sub ⟨rfl, rfl, rfl, trivial⟩)
  ·
    refine wl_alloc (cs := [(.slice none 0 0), (.slice none 0 0), (.int .i64 0), (.int .i64 0)]) tf_31 rfl rfl (Below.self w213) (Sep.nil _ _) ?_
    intro b338 w339 hb340 hB343 hM344
    have hB341 := hB215.trans (hb340.mono hB215.size)
    have hS342 := hS216.join hb340 hM344 hB215.size
    have hn345 : ∀ b ∈ [b338], w213.heap.size ≤ b := fun b hb => Nat.le_trans hSW217.size ((hM344.1 _ (List.mem_cons_self ..)).2.1 b hb).1
    have hSW346 := hSW217.ext hb340
    refine WL.nil (WH.ret hSW346 ?_)
    refine WH.many (is := [0, 3]) (by kernel_rfl) rfl ?_
    refine List.forall_mem_cons.2 ⟨⟨_, rfl, ?_⟩, List.forall_mem_cons.2 ⟨⟨_, rfl, ?_⟩, fun _ h => by cases h⟩⟩
    ·
      refine wl_lit0 (e := ty_69) Try.underlying29 rfl (Below.self w339) (Sep.nil _ _) ?_
      intro v347 F348 w349 hb350 hB353 hM354
      have hB351 := hB341.trans (hb350.mono hB341.size)
      have hS352 := hS342.join hb350 hM354 hB341.size
      have hn355 : ∀ b ∈ F348, w213.heap.size ≤ b := fun b hb => Nat.le_trans hSW346.size ((hM354.1 _ (List.mem_cons_self ..)).2.1 b hb).1
      have hSW356 := hSW346.ext hb350
      refine WL.nil (WH.ret hSW356 ?_)
      refine WH.one (i := 3) (by kernel_rfl) rfl ?_
      obtain ⟨u357, hu357, hF⟩ := bindE hF
      refine wl_call rfl Try.call137 (C_impl_copyInts w349 x0.2.1 v0_1 (h0_1.ro hB351) _ hu357) rfl ?_
      rintro _ w360 ⟨v358, F359, rfl, hb361, hM364⟩
      refine ⟨_, rfl, ?_⟩
      have hB362 := hB351.trans (hb361.mono hB351.size)
      have hn365 : ∀ b ∈ F359, w213.heap.size ≤ b := fun b hb => Nat.le_trans hSW356.size ((hM364.get (i := 0) rfl).2.1 b hb).1
      have hS363 := hS352.join hb361 hM364 hB351.size
      have hSW366 := hSW356.ext hb361
      refine WL.nil (WH.ret hSW366 ?_)
      refine WH.takex (i := 8) rfl (by kernel_rfl) (by kernel_rfl) (by kernel_rfl) hP hSW366 ?_
      refine pr_build (zs := [(.slice none 0 0), (.slice none 0 0), (.int .i64 0), (.int .i64 0)]) (out := [v347, v358, (.int .i64 x0.2.2.1), (.int .i64 x0.2.2.2)]) (vs := [v347, v358, (.int .i64 x0.2.2.1), (.int .i64 x0.2.2.2)]) (css := [[v347], [v358], [(.int .i64 x0.2.2.1)], [(.int .i64 x0.2.2.2)]]) tf_31 pl_31 rfl rfl (by simp only [List.map_cons, List.map_nil, cells_one ((hS363.own_ro (i := 1) rfl).one), cells_one ((hS363.own_ro (i := 0) rfl).one)]; rfl) rfl rfl ?_
      refine WH.one (i := 10) (by kernel_rfl) rfl ?_
      refine wl_store_blk (i := 2) (vs := [v347, v358, (.int .i64 x0.2.2.1), (.int .i64 x0.2.2.2)]) (cs' := [v347, v358, (.int .i64 x0.2.2.1), (.int .i64 x0.2.2.2)]) tf_31 rfl rfl rfl rfl hB362 hS363 rfl rfl ⟨(hS363.own_ro (i := 1) rfl).one, (hS363.own_ro (i := 0) rfl).one, rfl, rfl, trivial⟩ rfl ?_
      intro w367 hk370 hB368 hS369
      have hSW371 := hSW366.wr' hk370.1 hk370.2.1 (fun b hlt hb => absurd hlt (Nat.not_lt.2 (hn345 b hb)))
      have hn372 : ∀ b ∈ [b338], w213.heap.size ≤ b := fun b hb => (hk370.2.2 b hb).elim (hn345 b) fun h => Nat.le_trans hSW366.size h
      refine WL.nil (WH.ret hSW371 ?_)
      refine WH.done (by kernel_rfl) ?_
      exact fun a ha => hJ26 ([]) (u357) (x0.2.2.1) (x0.2.2.2) (v347) (F348) (v358) (F359) (b338) _ hF hB368 (hS369.sel [4, 3, 1, 0, 2] rfl) a (ha.sub ⟨rfl, rfl, rfl, trivial⟩)
    ·
      obtain ⟨u373, hu373, hF⟩ := bindE hF
      refine wl_call rfl Try.call137 (C_impl_copyInts w339 x0.2.1 v0_1 (h0_1.ro hB341) _ hu373) rfl ?_
      rintro _ w376 ⟨v374, F375, rfl, hb377, hM380⟩
      refine ⟨_, rfl, ?_⟩
      have hB378 := hB341.trans (hb377.mono hB341.size)
      have hn381 : ∀ b ∈ F375, w213.heap.size ≤ b := fun b hb => Nat.le_trans hSW346.size ((hM380.get (i := 0) rfl).2.1 b hb).1
      have hS379 := hS342.join hb377 hM380 hB341.size
      have hSW382 := hSW346.ext hb377
      refine WL.nil (WH.ret hSW382 ?_)
      refine WH.one (i := 0) (by kernel_rfl) rfl ?_
      refine wl_lit0 (e := ty_69) Try.underlying29 rfl (Below.self w376) (Sep.nil _ _) ?_
      intro v383 F384 w385 hb386 hB389 hM390
      have hB387 := hB378.trans (hb386.mono hB378.size)
      have hS388 := hS379.join hb386 hM390 hB378.size
      have hn391 : ∀ b ∈ F384, w213.heap.size ≤ b := fun b hb => Nat.le_trans hSW382.size ((hM390.1 _ (List.mem_cons_self ..)).2.1 b hb).1
      have hSW392 := hSW382.ext hb386
      refine WL.nil (WH.ret hSW392 ?_)
      refine WH.takex (i := 8) rfl (by kernel_rfl) (by kernel_rfl) (by kernel_rfl) hP hSW392 ?_
      refine pr_build (zs := [(.slice none 0 0), (.slice none 0 0), (.int .i64 0), (.int .i64 0)]) (out := [v383, v374, (.int .i64 x0.2.2.1), (.int .i64 x0.2.2.2)]) (vs := [v383, v374, (.int .i64 x0.2.2.1), (.int .i64 x0.2.2.2)]) (css := [[v383], [v374], [(.int .i64 x0.2.2.1)], [(.int .i64 x0.2.2.2)]]) tf_31 pl_31 rfl rfl (by simp only [List.map_cons, List.map_nil, cells_one ((hS388.own_ro (i := 0) rfl).one), cells_one ((hS388.own_ro (i := 1) rfl).one)]; rfl) rfl rfl ?_
      refine WH.one (i := 10) (by kernel_rfl) rfl ?_
      refine wl_store_blk (i := 2) (vs := [v383, v374, (.int .i64 x0.2.2.1), (.int .i64 x0.2.2.2)]) (cs' := [v383, v374, (.int .i64 x0.2.2.1), (.int .i64 x0.2.2.2)]) tf_31 rfl rfl rfl rfl hB387 hS388 rfl rfl ⟨(hS388.own_ro (i := 0) rfl).one, (hS388.own_ro (i := 1) rfl).one, rfl, rfl, trivial⟩ rfl ?_
      intro w393 hk396 hB394 hS395
      have hSW397 := hSW392.wr' hk396.1 hk396.2.1 (fun b hlt hb => absurd hlt (Nat.not_lt.2 (hn345 b hb)))
      have hn398 : ∀ b ∈ [b338], w213.heap.size ≤ b := fun b hb => (hk396.2.2 b hb).elim (hn345 b) fun h => Nat.le_trans hSW392.size h
      refine WL.nil (WH.ret hSW397 ?_)
      refine WH.done (by kernel_rfl) ?_
      exact fun a ha => hJ26 ([]) (u373) (x0.2.2.1) (x0.2.2.2) (v383) (F384) (v374) (F375) (b338) _ hF hB394 (hS395.sel [4, 3, 0, 1, 2] rfl) a (ha.sub ⟨rfl, rfl, rfl, trivial⟩)
theorem C_slices_Reverse_impl_Spot_impl_Spot__mut__raw (w0 : World) (x0 : (List RawCell)) (v0_0 : Value) (B0_0 : List Nat) (hS0 : Sep 0 w0 [R.own ty_69raw B0_0 v0_0 x0]) (r : (List RawCell)) (hF : F_slices_Reverse_impl_Spot_impl_Spot__mut__raw x0 = some r) :
    Calls Try.prog 97 [v0_0].toArray w0 fun e w' => e = .returned (.tuple #[]) ∧ Below 0 (wE w0) w' ∧ Sep 0 w' [R.rest w0 (fps [R.own ty_69raw B0_0 v0_0 x0]), R.own ty_69raw B0_0 v0_0 r] := by
  refine calls_mkn' Try.func97 rfl Try.ntmps97 rfl rfl fun Q hQn hQ hP => ?_
  have hB : Below (wE w0).heap.size (wE w0) w0 := wE_below w0
  have hS : Sep (wE w0).heap.size w0 [R.rest w0 (fps [R.own ty_69raw B0_0 v0_0 x0]), R.own ty_69raw B0_0 v0_0 x0] := hS0.rest
  unfold F_slices_Reverse_impl_Spot_impl_Spot__mut__raw at hF
  refine W.seq fun K1 hK1 => ?_
  refine W.region ?_
  refine wl_move rfl rfl ?_
  refine wl_lenr (e := ty_69raw) (l := x0) Try.underlying29 rfl rfl (hS.own_ro (i := 1) rfl) ?_
  refine wl_sub rfl rfl rfl ?_
  refine wl_assign rfl rfl ?_
  refine wl_assign rfl rfl ?_
  refine WL.nil ?_
  refine fun a ha => hK1 _ _ ?_ a ha
  refine W.block ?_
  refine W.loopk (fun m a w2 => ∃ (l5 : (List RawCell)) (y6 : Int) (y7 : Int), St 28 [(0, v0_0), (2, (.int .i64 y6)), (3, (.int .i64 y7))] a ∧ Below (wE w0).heap.size (wE w0) w2 ∧ Sep (wE w0).heap.size w2 [R.rest w0 (fps [R.own ty_69raw B0_0 v0_0 x0]), R.own ty_69raw B0_0 v0_0 l5] ∧ F_slices_Reverse_impl_Spot_impl_Spot__mut__raw_L1 m l5 y6 y7 = some r) FU ?_ ?_
  ·
    exact fun a ha => ⟨x0, 0, (w64 ((List.length x0 : Int) - 1)), ha.sub ⟨rfl, rfl, rfl, trivial⟩, hB, (hS.sel [0, 1] rfl), hF⟩
  ·
    rintro m10 a w2 ⟨l5, y6, y7, ha, hB3, hS4, hF⟩ KL9 hKL9
    refine W.at ?_ ha
    cases m10 with
    | zero => exact noneE hF
    | succ m10 =>
      obtain ⟨nx8, hnx8⟩ : ∃ k, k = F_slices_Reverse_impl_Spot_impl_Spot__mut__raw_L1 m10 := ⟨_, rfl⟩
      rw [F_slices_Reverse_impl_Spot_impl_Spot__mut__raw_L1, ← hnx8] at hF
      refine W.seq fun K11 hK11 => ?_
      refine W.seq fun K12 hK12 => ?_
      refine W.region ?_
      refine wl_move rfl rfl ?_
      refine wl_move rfl rfl ?_
      refine wl_lss rfl rfl rfl ?_
      refine WL.nil ?_
      refine fun a ha => hK12 _ _ ?_ a ha
      refine W.cond rfl (fun h13 => ?_) (fun h13 => ?_)
      · replace hF := ifP h13 hF
        refine W.skip ?_
        refine fun a ha => hK11 _ _ ?_ a ha
        refine W.seq fun K14 hK14 => ?_
        obtain ⟨k19, hk19, hF⟩ := jE1 hF
        have hJ20 : ∀ (l18 : (List RawCell)) (w15 : World) (_ : k19 l18 = some r) (_ : Below (wE w0).heap.size (wE w0) w15) (_ : Sep (wE w0).heap.size w15 [R.rest w0 (fps [R.own ty_69raw B0_0 v0_0 x0]), R.own ty_69raw B0_0 v0_0 l18]), ∀ a, St 28 [(0, v0_0), (2, (.int .i64 y6)), (3, (.int .i64 y7))] a → K14 a w15 := by
          intro l18 w15 hF hB16 hS17
          subst hk19
          refine fun a ha => hK14 _ _ ?_ a ha
          refine W.region ?_
          refine wl_move rfl rfl ?_
          refine wl_add rfl rfl rfl ?_
          refine wl_move rfl rfl ?_
          refine wl_sub rfl rfl rfl ?_
          refine wl_assign rfl rfl ?_
          refine wl_assign rfl rfl ?_
          refine WL.nil ?_
          rw [hnx8] at hF
          exact fun a ha => hKL9 a _ m10 (Nat.lt_succ_self m10) ⟨l18, (w64 (y6 + 1)), (w64 (y7 - 1)), ha.sub ⟨rfl, rfl, rfl, trivial⟩, hB16, (hS17.sel [0, 1] rfl), hF⟩
        refine W.block ?_
        refine W.regionH mixed_ B0_0 hB3 hS4 ?_
        intro w21 hb22 hB23 hS24
        have hSW25 := KeepX.refl w21 B0_0
        refine WH.takex (i := 0) rfl (by kernel_rfl) (by kernel_rfl) (by kernel_rfl) hP hSW25 ?_
        refine pr_move rfl rfl ?_
        refine WH.takex (i := 1) rfl (by kernel_rfl) (by kernel_rfl) (by kernel_rfl) hP hSW25 ?_
        refine pr_move rfl rfl ?_
        refine WH.takex (i := 2) rfl (by kernel_rfl) (by kernel_rfl) (by kernel_rfl) hP hSW25 ?_
        refine pr_move rfl rfl ?_
        refine WH.takex (i := 3) rfl (by kernel_rfl) (by kernel_rfl) (by kernel_rfl) hP hSW25 ?_
        refine pr_move rfl rfl ?_
        refine WH.takex (i := 4) rfl (by kernel_rfl) (by kernel_rfl) (by kernel_rfl) hP hSW25 ?_
        refine pr_move rfl rfl ?_
        refine WH.takex (i := 5) rfl (by kernel_rfl) (by kernel_rfl) (by kernel_rfl) hP hSW25 ?_
        refine pr_move rfl rfl ?_
        obtain ⟨u26, hu26, hF⟩ := bindE hF
        refine WH.takex (i := 6) rfl (by kernel_rfl) (by kernel_rfl) (by kernel_rfl) hP hSW25 ?_
        refine pr_indexo (e := ty_69raw) (i := 1) Try.underlying29 rfl rfl rfl hS24 rfl hu26 ?_
        rintro p27 _ rfl hp28 ho29
        refine WH.takex (i := 8) rfl (by kernel_rfl) (by kernel_rfl) (by kernel_rfl) hP hSW25 ?_
        refine pr_move rfl rfl ?_
        refine WH.takex (i := 9) rfl (by kernel_rfl) (by kernel_rfl) (by kernel_rfl) hP hSW25 ?_
        refine pr_move rfl rfl ?_
        obtain ⟨u30, hu30, hF⟩ := bindE hF
        refine WH.takex (i := 10) rfl (by kernel_rfl) (by kernel_rfl) (by kernel_rfl) hP hSW25 ?_
        refine pr_indexo (e := ty_69raw) (i := 1) Try.underlying29 rfl rfl rfl hS24 rfl hu30 ?_
        rintro p31 _ rfl hp32 ho33
        refine WH.many (is := [7, 11]) (by kernel_rfl) rfl ?_
        refine List.forall_mem_cons.2 ⟨⟨_, rfl, ?_⟩, List.forall_mem_cons.2 ⟨⟨_, rfl, ?_⟩, fun _ h => by cases h⟩⟩
        ·
          refine wl_load_p (vs := [u26.1]) (v := u26.1) tf_69 rfl rfl hp28 rfl rfl ?_
          refine WL.nil (WH.ret hSW25 ?_)
          refine WH.one (i := 11) (by kernel_rfl) rfl ?_
          refine wl_load_p (vs := [u30.1]) (v := u30.1) tf_69 rfl rfl hp32 rfl rfl ?_
          refine WL.nil (WH.ret hSW25 ?_)
          obtain ⟨u34, hu34, hF⟩ := bindE hF
          refine WH.takex (i := 12) rfl (by kernel_rfl) (by kernel_rfl) (by kernel_rfl) hP hSW25 ?_
          refine pr_indexo (e := ty_69raw) (i := 1) Try.underlying29 rfl rfl rfl hS24 rfl hu34 ?_
          rintro p35 _ rfl hp36 ho37
          refine WH.one (i := 13) (by kernel_rfl) rfl ?_
          refine wl_storeo (i := 1) (o := 0) (vs := [u26.1]) (u' := u26) fl_69raw tf_69 rfl rfl (cells_one u26.2) rfl ho37 hu34 hB23 hS24 rfl rfl ⟨u26.2, trivial⟩ rfl ?_
          intro w38 hk41 hB39 hS40
          have hSW42 := hSW25.wr' hk41.1 hk41.2.1 (fun _ _ h => h)
          refine WL.nil (WH.ret hSW42 ?_)
          refine WH.one (i := 14) (by kernel_rfl) rfl ?_
          obtain ⟨u43, hu43, hF⟩ := bindE hF
          refine wl_indexo (e := ty_69raw) (i := 1) Try.underlying29 rfl rfl rfl hS40 rfl hu43 ?_
          rintro p44 _ rfl hp45 ho46
          refine WL.nil (WH.ret hSW42 ?_)
          refine WH.one (i := 15) (by kernel_rfl) rfl ?_
          refine wl_storeo (i := 1) (o := 0) (vs := [u30.1]) (u' := u30) fl_69raw tf_69 rfl rfl (cells_one u30.2) rfl ho46 hu43 hB39 hS40 rfl rfl ⟨u30.2, trivial⟩ rfl ?_
          intro w47 hk50 hB48 hS49
          have hSW51 := hSW42.wr' hk50.1 hk50.2.1 (fun b hlt hb => (hk41.2.2 b hb).elim ((fun _ _ h => h) b hlt) (fun h => absurd hlt (Nat.not_lt.2 (Nat.le_trans hSW25.size h))))
          refine WL.nil (WH.ret hSW51 ?_)
          refine WH.done (by kernel_rfl) ?_
          exact fun a ha => hJ20 ((seti (seti l5 y6 u26) y7 u30)) _ hF hB48 (hS49.sel [0, 1] rfl) a (ha.sub ⟨rfl, rfl, rfl, trivial⟩)
        ·
          refine wl_load_p (vs := [u30.1]) (v := u30.1) tf_69 rfl rfl hp32 rfl rfl ?_
          refine WL.nil (WH.ret hSW25 ?_)
          refine WH.one (i := 7) (by kernel_rfl) rfl ?_
          refine wl_load_p (vs := [u26.1]) (v := u26.1) tf_69 rfl rfl hp28 rfl rfl ?_
          refine WL.nil (WH.ret hSW25 ?_)
          obtain ⟨u52, hu52, hF⟩ := bindE hF
          refine WH.takex (i := 12) rfl (by kernel_rfl) (by kernel_rfl) (by kernel_rfl) hP hSW25 ?_
          refine pr_indexo (e := ty_69raw) (i := 1) Try.underlying29 rfl rfl rfl hS24 rfl hu52 ?_
          rintro p53 _ rfl hp54 ho55
          refine WH.one (i := 13) (by kernel_rfl) rfl ?_
          refine wl_storeo (i := 1) (o := 0) (vs := [u26.1]) (u' := u26) fl_69raw tf_69 rfl rfl (cells_one u26.2) rfl ho55 hu52 hB23 hS24 rfl rfl ⟨u26.2, trivial⟩ rfl ?_
          intro w56 hk59 hB57 hS58
          have hSW60 := hSW25.wr' hk59.1 hk59.2.1 (fun _ _ h => h)
          refine WL.nil (WH.ret hSW60 ?_)
          refine WH.one (i := 14) (by kernel_rfl) rfl ?_
          obtain ⟨u61, hu61, hF⟩ := bindE hF
          refine wl_indexo (e := ty_69raw) (i := 1) Try.underlying29 rfl rfl rfl hS58 rfl hu61 ?_
          rintro p62 _ rfl hp63 ho64
          refine WL.nil (WH.ret hSW60 ?_)
          refine WH.one (i := 15) (by kernel_rfl) rfl ?_
          refine wl_storeo (i := 1) (o := 0) (vs := [u30.1]) (u' := u30) fl_69raw tf_69 rfl rfl (cells_one u30.2) rfl ho64 hu61 hB57 hS58 rfl rfl ⟨u30.2, trivial⟩ rfl ?_
          intro w65 hk68 hB66 hS67
          have hSW69 := hSW60.wr' hk68.1 hk68.2.1 (fun b hlt hb => (hk59.2.2 b hb).elim ((fun _ _ h => h) b hlt) (fun h => absurd hlt (Nat.not_lt.2 (Nat.le_trans hSW25.size h))))
          refine WL.nil (WH.ret hSW69 ?_)
          refine WH.done (by kernel_rfl) ?_
          exact fun a ha => hJ20 ((seti (seti l5 y6 u26) y7 u30)) _ hF hB66 (hS67.sel [0, 1] rfl) a (ha.sub ⟨rfl, rfl, rfl, trivial⟩)
      · replace hF := ifN h13 hF
        refine W.exit ?_
        have hr := Option.some.inj hF
        subst hr
        exact retsn (vs := []) hQn rfl trivial ⟨rfl, hB3, hS4.sel [0, 1] rfl⟩
theorem rev_F_slices_Reverse_impl_Spot_impl_Spot__mut__raw (x0 : List RawCell) (h : x0.length ≤ 9223372036854775807) : F_slices_Reverse_impl_Spot_impl_Spot__mut__raw x0 = some x0.reverse := by
  unfold F_slices_Reverse_impl_Spot_impl_Spot__mut__raw
  exact rev_raw F_slices_Reverse_impl_Spot_impl_Spot__mut__raw_L1 x0 h (fun m l y z => by rw [F_slices_Reverse_impl_Spot_impl_Spot__mut__raw_L1]; rfl)
theorem C_slices_Reverse_int_int__mut (w0 : World) (x0 : (List Int)) (v0_0 : Value) (B0_0 : List Nat) (hS0 : Sep 0 w0 [R.own ty_3 B0_0 v0_0 x0]) (r : (List Int)) (hF : F_slices_Reverse_int_int__mut x0 = some r) :
    Calls Try.prog 98 [v0_0].toArray w0 fun e w' => e = .returned (.tuple #[]) ∧ Below 0 (wE w0) w' ∧ Sep 0 w' [R.rest w0 (fps [R.own ty_3 B0_0 v0_0 x0]), R.own ty_3 B0_0 v0_0 r] := by
  refine calls_mkn' Try.func98 rfl Try.ntmps98 rfl rfl fun Q hQn hQ hP => ?_
  have hB : Below (wE w0).heap.size (wE w0) w0 := wE_below w0
  have hS : Sep (wE w0).heap.size w0 [R.rest w0 (fps [R.own ty_3 B0_0 v0_0 x0]), R.own ty_3 B0_0 v0_0 x0] := hS0.rest
  unfold F_slices_Reverse_int_int__mut at hF
  refine W.seq fun K1 hK1 => ?_
  refine W.region ?_
  refine wl_move rfl rfl ?_
  refine wl_lenr (e := ty_3) (l := x0) Try.underlying23 rfl rfl (hS.own_ro (i := 1) rfl) ?_
  refine wl_sub rfl rfl rfl ?_
  refine wl_assign rfl rfl ?_
  refine wl_assign rfl rfl ?_
  refine WL.nil ?_
  refine fun a ha => hK1 _ _ ?_ a ha
  refine W.block ?_
  refine W.loopk (fun m a w2 => ∃ (l5 : (List Int)) (y6 : Int) (y7 : Int), St 28 [(0, v0_0), (2, (.int .i64 y6)), (3, (.int .i64 y7))] a ∧ Below (wE w0).heap.size (wE w0) w2 ∧ Sep (wE w0).heap.size w2 [R.rest w0 (fps [R.own ty_3 B0_0 v0_0 x0]), R.own ty_3 B0_0 v0_0 l5] ∧ F_slices_Reverse_int_int__mut_L1 m l5 y6 y7 = some r) FU ?_ ?_
  ·
    exact fun a ha => ⟨x0, 0, (w64 ((List.length x0 : Int) - 1)), ha.sub ⟨rfl, rfl, rfl, trivial⟩, hB, (hS.sel [0, 1] rfl), hF⟩
  ·
    rintro m10 a w2 ⟨l5, y6, y7, ha, hB3, hS4, hF⟩ KL9 hKL9
    refine W.at ?_ ha
    cases m10 with
    | zero => exact noneE hF
    | succ m10 =>
      obtain ⟨nx8, hnx8⟩ : ∃ k, k = F_slices_Reverse_int_int__mut_L1 m10 := ⟨_, rfl⟩
      rw [F_slices_Reverse_int_int__mut_L1, ← hnx8] at hF
      refine W.seq fun K11 hK11 => ?_
      refine W.seq fun K12 hK12 => ?_
      refine W.region ?_
      refine wl_move rfl rfl ?_
      refine wl_move rfl rfl ?_
      refine wl_lss rfl rfl rfl ?_
      refine WL.nil ?_
      refine fun a ha => hK12 _ _ ?_ a ha
      refine W.cond rfl (fun h13 => ?_) (fun h13 => ?_)
      · replace hF := ifP h13 hF
        refine W.skip ?_
        refine fun a ha => hK11 _ _ ?_ a ha
        refine W.seq fun K14 hK14 => ?_
        obtain ⟨k19, hk19, hF⟩ := jE1 hF
        have hJ20 : ∀ (l18 : (List Int)) (w15 : World) (_ : k19 l18 = some r) (_ : Below (wE w0).heap.size (wE w0) w15) (_ : Sep (wE w0).heap.size w15 [R.rest w0 (fps [R.own ty_3 B0_0 v0_0 x0]), R.own ty_3 B0_0 v0_0 l18]), ∀ a, St 28 [(0, v0_0), (2, (.int .i64 y6)), (3, (.int .i64 y7))] a → K14 a w15 := by
          intro l18 w15 hF hB16 hS17
          subst hk19
          refine fun a ha => hK14 _ _ ?_ a ha
          refine W.region ?_
          refine wl_move rfl rfl ?_
          refine wl_add rfl rfl rfl ?_
          refine wl_move rfl rfl ?_
          refine wl_sub rfl rfl rfl ?_
          refine wl_assign rfl rfl ?_
          refine wl_assign rfl rfl ?_
          refine WL.nil ?_
          rw [hnx8] at hF
          exact fun a ha => hKL9 a _ m10 (Nat.lt_succ_self m10) ⟨l18, (w64 (y6 + 1)), (w64 (y7 - 1)), ha.sub ⟨rfl, rfl, rfl, trivial⟩, hB16, (hS17.sel [0, 1] rfl), hF⟩
        refine W.block ?_
        refine W.regionH mixed_ B0_0 hB3 hS4 ?_
        intro w21 hb22 hB23 hS24
        have hSW25 := KeepX.refl w21 B0_0
        refine WH.takex (i := 0) rfl (by kernel_rfl) (by kernel_rfl) (by kernel_rfl) hP hSW25 ?_
        refine pr_move rfl rfl ?_
        refine WH.takex (i := 1) rfl (by kernel_rfl) (by kernel_rfl) (by kernel_rfl) hP hSW25 ?_
        refine pr_move rfl rfl ?_
        refine WH.takex (i := 2) rfl (by kernel_rfl) (by kernel_rfl) (by kernel_rfl) hP hSW25 ?_
        refine pr_move rfl rfl ?_
        refine WH.takex (i := 3) rfl (by kernel_rfl) (by kernel_rfl) (by kernel_rfl) hP hSW25 ?_
        refine pr_move rfl rfl ?_
        refine WH.takex (i := 4) rfl (by kernel_rfl) (by kernel_rfl) (by kernel_rfl) hP hSW25 ?_
        refine pr_move rfl rfl ?_
        refine WH.takex (i := 5) rfl (by kernel_rfl) (by kernel_rfl) (by kernel_rfl) hP hSW25 ?_
        refine pr_move rfl rfl ?_
        obtain ⟨u26, hu26, hF⟩ := bindE hF
        refine WH.takex (i := 6) rfl (by kernel_rfl) (by kernel_rfl) (by kernel_rfl) hP hSW25 ?_
        refine pr_indexo (e := ty_3) (i := 1) Try.underlying23 rfl rfl rfl hS24 rfl hu26 ?_
        rintro p27 _ rfl hp28 ho29
        refine WH.takex (i := 8) rfl (by kernel_rfl) (by kernel_rfl) (by kernel_rfl) hP hSW25 ?_
        refine pr_move rfl rfl ?_
        refine WH.takex (i := 9) rfl (by kernel_rfl) (by kernel_rfl) (by kernel_rfl) hP hSW25 ?_
        refine pr_move rfl rfl ?_
        obtain ⟨u30, hu30, hF⟩ := bindE hF
        refine WH.takex (i := 10) rfl (by kernel_rfl) (by kernel_rfl) (by kernel_rfl) hP hSW25 ?_
        refine pr_indexo (e := ty_3) (i := 1) Try.underlying23 rfl rfl rfl hS24 rfl hu30 ?_
        rintro p31 _ rfl hp32 ho33
        refine WH.many (is := [7, 11]) (by kernel_rfl) rfl ?_
        refine List.forall_mem_cons.2 ⟨⟨_, rfl, ?_⟩, List.forall_mem_cons.2 ⟨⟨_, rfl, ?_⟩, fun _ h => by cases h⟩⟩
        ·
          refine wl_load_p (vs := [(.int .i64 u26)]) (v := (.int .i64 u26)) tf_3 rfl rfl hp28 rfl rfl ?_
          refine WL.nil (WH.ret hSW25 ?_)
          refine WH.one (i := 11) (by kernel_rfl) rfl ?_
          refine wl_load_p (vs := [(.int .i64 u30)]) (v := (.int .i64 u30)) tf_3 rfl rfl hp32 rfl rfl ?_
          refine WL.nil (WH.ret hSW25 ?_)
          obtain ⟨u34, hu34, hF⟩ := bindE hF
          refine WH.takex (i := 12) rfl (by kernel_rfl) (by kernel_rfl) (by kernel_rfl) hP hSW25 ?_
          refine pr_indexo (e := ty_3) (i := 1) Try.underlying23 rfl rfl rfl hS24 rfl hu34 ?_
          rintro p35 _ rfl hp36 ho37
          refine WH.one (i := 13) (by kernel_rfl) rfl ?_
          refine wl_storeo (i := 1) (o := 0) (vs := [(.int .i64 u26)]) (u' := u26) fl_3 tf_3 rfl rfl rfl rfl ho37 hu34 hB23 hS24 rfl rfl ⟨rfl, trivial⟩ rfl ?_
          intro w38 hk41 hB39 hS40
          have hSW42 := hSW25.wr' hk41.1 hk41.2.1 (fun _ _ h => h)
          refine WL.nil (WH.ret hSW42 ?_)
          refine WH.one (i := 14) (by kernel_rfl) rfl ?_
          obtain ⟨u43, hu43, hF⟩ := bindE hF
          refine wl_indexo (e := ty_3) (i := 1) Try.underlying23 rfl rfl rfl hS40 rfl hu43 ?_
          rintro p44 _ rfl hp45 ho46
          refine WL.nil (WH.ret hSW42 ?_)
          refine WH.one (i := 15) (by kernel_rfl) rfl ?_
          refine wl_storeo (i := 1) (o := 0) (vs := [(.int .i64 u30)]) (u' := u30) fl_3 tf_3 rfl rfl rfl rfl ho46 hu43 hB39 hS40 rfl rfl ⟨rfl, trivial⟩ rfl ?_
          intro w47 hk50 hB48 hS49
          have hSW51 := hSW42.wr' hk50.1 hk50.2.1 (fun b hlt hb => (hk41.2.2 b hb).elim ((fun _ _ h => h) b hlt) (fun h => absurd hlt (Nat.not_lt.2 (Nat.le_trans hSW25.size h))))
          refine WL.nil (WH.ret hSW51 ?_)
          refine WH.done (by kernel_rfl) ?_
          exact fun a ha => hJ20 ((seti (seti l5 y6 u26) y7 u30)) _ hF hB48 (hS49.sel [0, 1] rfl) a (ha.sub ⟨rfl, rfl, rfl, trivial⟩)
        ·
          refine wl_load_p (vs := [(.int .i64 u30)]) (v := (.int .i64 u30)) tf_3 rfl rfl hp32 rfl rfl ?_
          refine WL.nil (WH.ret hSW25 ?_)
          refine WH.one (i := 7) (by kernel_rfl) rfl ?_
          refine wl_load_p (vs := [(.int .i64 u26)]) (v := (.int .i64 u26)) tf_3 rfl rfl hp28 rfl rfl ?_
          refine WL.nil (WH.ret hSW25 ?_)
          obtain ⟨u52, hu52, hF⟩ := bindE hF
          refine WH.takex (i := 12) rfl (by kernel_rfl) (by kernel_rfl) (by kernel_rfl) hP hSW25 ?_
          refine pr_indexo (e := ty_3) (i := 1) Try.underlying23 rfl rfl rfl hS24 rfl hu52 ?_
          rintro p53 _ rfl hp54 ho55
          refine WH.one (i := 13) (by kernel_rfl) rfl ?_
          refine wl_storeo (i := 1) (o := 0) (vs := [(.int .i64 u26)]) (u' := u26) fl_3 tf_3 rfl rfl rfl rfl ho55 hu52 hB23 hS24 rfl rfl ⟨rfl, trivial⟩ rfl ?_
          intro w56 hk59 hB57 hS58
          have hSW60 := hSW25.wr' hk59.1 hk59.2.1 (fun _ _ h => h)
          refine WL.nil (WH.ret hSW60 ?_)
          refine WH.one (i := 14) (by kernel_rfl) rfl ?_
          obtain ⟨u61, hu61, hF⟩ := bindE hF
          refine wl_indexo (e := ty_3) (i := 1) Try.underlying23 rfl rfl rfl hS58 rfl hu61 ?_
          rintro p62 _ rfl hp63 ho64
          refine WL.nil (WH.ret hSW60 ?_)
          refine WH.one (i := 15) (by kernel_rfl) rfl ?_
          refine wl_storeo (i := 1) (o := 0) (vs := [(.int .i64 u30)]) (u' := u30) fl_3 tf_3 rfl rfl rfl rfl ho64 hu61 hB57 hS58 rfl rfl ⟨rfl, trivial⟩ rfl ?_
          intro w65 hk68 hB66 hS67
          have hSW69 := hSW60.wr' hk68.1 hk68.2.1 (fun b hlt hb => (hk59.2.2 b hb).elim ((fun _ _ h => h) b hlt) (fun h => absurd hlt (Nat.not_lt.2 (Nat.le_trans hSW25.size h))))
          refine WL.nil (WH.ret hSW69 ?_)
          refine WH.done (by kernel_rfl) ?_
          exact fun a ha => hJ20 ((seti (seti l5 y6 u26) y7 u30)) _ hF hB66 (hS67.sel [0, 1] rfl) a (ha.sub ⟨rfl, rfl, rfl, trivial⟩)
      · replace hF := ifN h13 hF
        refine W.exit ?_
        have hr := Option.some.inj hF
        subst hr
        exact retsn (vs := []) hQn rfl trivial ⟨rfl, hB3, hS4.sel [0, 1] rfl⟩
theorem C_impl_ReverseShow (w0 : World) (x0 : ((List (List (Int × Int))) × (List Int) × Int × Int)) (v0_0 : Value) (h0_0 : rdS ty_69 (· < w0.heap.size) w0 v0_0 x0.1) (v0_1 : Value) (h0_1 : rdS ty_3 (· < w0.heap.size) w0 v0_1 x0.2.1) (r : (((List (List (Int × Int))) × (List Int) × Int × Int) × Bool)) (hF : F_impl_ReverseShow x0 = some r) :
    Calls Try.prog 42 [(.agg #[v0_0, v0_1, (.int .i64 x0.2.2.1), (.int .i64 x0.2.2.2)])].toArray w0 fun e w' => ∃ (q0 : Value) (G0 : List Nat) (q1 : Value) (G1 : List Nat), e = .returned (.tuple #[(.agg #[q0, q1, (.int .i64 r.1.2.2.1), (.int .i64 r.1.2.2.2)]), (.bool r.2)]) ∧ Below w0.heap.size w0 w' ∧ Sep w0.heap.size w' [R.own ty_69 G0 q0 r.1.1, R.own ty_3 G1 q1 r.1.2.1] := by
  refine calls_mk' Try.func42 rfl Try.ntmps42 rfl rfl fun Q hQ hP => ?_
  have hB : Below w0.heap.size w0 w0 := Below.refl _ _
  have hS : Sep w0.heap.size w0 [] := Sep.nil _ _
  unfold F_impl_ReverseShow at hF
  refine W.seq fun K1 hK1 => ?_
  refine W.region ?_
  refine wl_box (cs := [v0_0, v0_1, (.int .i64 x0.2.2.1), (.int .i64 x0.2.2.2)]) rfl rfl rfl hB hS ?_
  intro b2 w3 hb4 hB5 hS6
  refine wl_alloc (cs := [(.slice none 0 0), (.slice none 0 0), (.int .i64 0), (.int .i64 0)]) tf_31 rfl rfl hB5 hS6 ?_
  intro b7 w8 hb9 hB10 hS11
  refine wl_assign rfl rfl ?_
  refine WL.nil ?_
  refine fun a ha => hK1 _ _ ?_ a ha
  refine W.seq fun K12 hK12 => ?_
  refine W.seq fun K13 hK13 => ?_
  refine W.region ?_
  refine wl_load_blk (i := 1) (vs := [v0_0, v0_1, (.int .i64 x0.2.2.1), (.int .i64 x0.2.2.2)]) (v := (.agg #[v0_0, v0_1, (.int .i64 x0.2.2.1), (.int .i64 x0.2.2.2)])) tf_31 rfl rfl hS11 rfl rfl rfl ?_
  obtain ⟨u14, hu14, hF⟩ := bindE hF
  refine wl_call rfl Try.call73 (C_impl_IsShow w8 x0 v0_0 (h0_0.ro hB10) v0_1 (h0_1.ro hB10) _ hu14) rfl ?_
  rintro _ w15 ⟨rfl, hb16⟩
  refine ⟨_, rfl, ?_⟩
  have hB17 := hB10.trans (hb16.mono hB10.size)
  have hS18 := hS11.below hb16
  refine wl_not rfl rfl ?_
  refine WL.nil ?_
  refine fun a ha => hK13 _ _ ?_ a ha
  refine W.cond rfl (fun h20 => ?_) (fun h20 => ?_)
  · replace hF := ifP h20 hF
    refine W.seq fun K21 hK21 => ?_
    refine W.region ?_
    refine wl_build (zs := [(.slice none 0 0), (.slice none 0 0), (.int .i64 0), (.int .i64 0)]) (out := [(.slice none 0 0), (.slice none 0 0), (.int .i64 0), (.int .i64 0)]) (vs := []) (css := []) tf_31 pl_31 rfl rfl rfl rfl rfl ?_
    refine wl_store_blk (i := 0) (vs := [(.slice none 0 0), (.slice none 0 0), (.int .i64 0), (.int .i64 0)]) (cs' := [(.slice none 0 0), (.slice none 0 0), (.int .i64 0), (.int .i64 0)]) tf_31 rfl rfl rfl rfl hB17 hS18 rfl rfl ⟨rfl, rfl, rfl, rfl, trivial⟩ rfl ?_
    intro w22 hk25 hB23 hS24
    refine wl_assign rfl rfl ?_
    refine WL.nil ?_
    refine fun a ha => hK21 _ _ ?_ a ha
    refine W.ret ?_
    have hS26 := hS24.push0 (r := R.own ty_69 [] (.slice none 0 0) []) rfl fun _ => .inl ⟨rfl, rfl, rfl⟩
    have hS27 := hS26.push0 (r := R.own ty_3 [] (.slice none 0 0) []) rfl fun _ => .inl ⟨rfl, rfl, rfl⟩
    have hr := Option.some.inj hF
    subst hr
    exact rets (vs := [(.agg #[(.slice none 0 0), (.slice none 0 0), (.int .i64 0), (.int .i64 0)]), (.bool false)]) hQ rfl ⟨rv_cell (i := 0) tf_31 rfl hS24 rfl rfl rfl, rv_tmp rfl, trivial⟩ ⟨(.slice none 0 0), [], (.slice none 0 0), [], rfl, hB23, hS27.sel [1, 0] rfl⟩
  · replace hF := ifN h20 hF
    refine W.skip ?_
    refine fun a ha => hK12 _ _ ?_ a ha
    refine W.seq fun K28 hK28 => ?_
    refine W.region ?_
    refine wl_load_blk (i := 1) (vs := [v0_0, v0_1, (.int .i64 x0.2.2.1), (.int .i64 x0.2.2.2)]) (v := (.agg #[v0_0, v0_1, (.int .i64 x0.2.2.1), (.int .i64 x0.2.2.2)])) tf_31 rfl rfl hS18 rfl rfl rfl ?_
    obtain ⟨u29, hu29, hF⟩ := bindE hF
    refine wl_call rfl Try.call96 (C_impl_copyShow w15 x0 v0_0 (h0_0.ro hB17) v0_1 (h0_1.ro hB17) _ hu29) rfl ?_
    rintro _ w34 ⟨v30, F31, v32, F33, rfl, hb35, hM38⟩
    refine ⟨_, rfl, ?_⟩
    have hB36 := hB17.trans (hb35.mono hB17.size)
    have hS37 := hS18.join hb35 hM38 hB17.size
    refine wl_alloc (cs := [(.slice none 0 0), (.slice none 0 0), (.int .i64 0), (.int .i64 0)]) tf_31 rfl rfl hB36 hS37 ?_
    intro b39 w40 hb41 hB42 hS43
    refine wl_store_blk (i := 0) (vs := [v30, v32, (.int .i64 u29.2.2.1), (.int .i64 u29.2.2.2)]) (cs' := [v30, v32, (.int .i64 u29.2.2.1), (.int .i64 u29.2.2.2)]) tf_31 rfl rfl rfl rfl hB42 hS43 rfl rfl ⟨(hS43.own_ro (i := 1) rfl).one, (hS43.own_ro (i := 2) rfl).one, rfl, rfl, trivial⟩ rfl ?_
    intro w44 hk47 hB45 hS46
    refine WL.nil ?_
    refine fun a ha => hK28 _ _ ?_ a ha
    refine W.seq fun K48 hK48 => ?_
    refine W.region ?_
    refine wl_field (o := 0) (off' := 0) ff_31_0 rfl rfl rfl ?_
    refine wl_load_blk (i := 0) (vs := [v30]) (v := v30) tf_29 rfl rfl hS46 rfl rfl rfl ?_
    obtain ⟨F49, l50, F51, hq52, hq53, hq54, hq55⟩ := Sep.toRaw (e := ty_69) (er := ty_69raw) fl_69raw rfl rfl rfl (hS46.sel [1, 0, 2, 3, 4] rfl)
    have hq56 := rev_F_slices_Reverse_impl_Spot_impl_Spot__mut__raw l50 (by rw [hq52]; exact Nat.le_trans hq53 (by decide))
    refine wl_call rfl Try.call97 (C_slices_Reverse_impl_Spot_impl_Spot__mut__raw w44 l50 v30 F49 (hq54.sel [0] rfl).base0 _ hq56) rfl ?_
    rintro _ w57 ⟨rfl, hE58, hM59⟩
    refine ⟨_, rfl, ?_⟩
    have hB60 := hq54.mutB [0] rfl (M := [R.own ty_69raw F49 v30 l50]) rfl (M' := [R.own ty_69raw F49 v30 (List.reverse l50)]) rfl hB45 hB45.size hE58 hM59
    have hS61 : Sep w0.heap.size w57 ([R.own ty_69raw F49 v30 (List.reverse l50)] ++ F51 :: [R.blk b39 31 [v30, v32, (.int .i64 u29.2.2.1), (.int .i64 u29.2.2.2)], R.own ty_3 F33 v32 u29.2.1, R.blk b7 31 [(.slice none 0 0), (.slice none 0 0), (.int .i64 0), (.int .i64 0)], R.blk b2 31 [v0_0, v0_1, (.int .i64 x0.2.2.1), (.int .i64 x0.2.2.2)]]) := hq54.mut [0] [1, 2, 3, 4, 5] rfl (M := [R.own ty_69raw F49 v30 l50]) rfl (M' := [R.own ty_69raw F49 v30 (List.reverse l50)]) rfl hM59
    obtain ⟨F63, hS62⟩ := hq55 hS61
    refine WL.nil ?_
    refine fun a ha => hK48 _ _ ?_ a ha
    refine W.seq fun K64 hK64 => ?_
    refine W.region ?_
    refine wl_field (o := 1) (off' := 1) ff_31_1 rfl rfl rfl ?_
    refine wl_load_blk (i := 1) (vs := [v32]) (v := v32) tf_23 rfl rfl hS62 rfl rfl rfl ?_
    obtain ⟨u65, hu65, hF⟩ := bindE hF
    refine wl_call rfl Try.call98 (C_slices_Reverse_int_int__mut w57 u29.2.1 v32 F33 (hS62.sel [2] rfl).base0 _ hu65) rfl ?_
    rintro _ w66 ⟨rfl, hE67, hM68⟩
    refine ⟨_, rfl, ?_⟩
    have hB69 := hS62.mutB [2] rfl (M := [R.own ty_3 F33 v32 u29.2.1]) rfl (M' := [R.own ty_3 F33 v32 u65]) rfl hB60 hB60.size hE67 hM68
    have hS70 : Sep w0.heap.size w66 [R.own ty_3 F33 v32 u65, R.own ty_69 F63 v30 (List.reverse u29.1), R.blk b39 31 [v30, v32, (.int .i64 u29.2.2.1), (.int .i64 u29.2.2.2)], R.blk b7 31 [(.slice none 0 0), (.slice none 0 0), (.int .i64 0), (.int .i64 0)], R.blk b2 31 [v0_0, v0_1, (.int .i64 x0.2.2.1), (.int .i64 x0.2.2.2)]] := hS62.mut [2] [0, 1, 3, 4] rfl (M := [R.own ty_3 F33 v32 u29.2.1]) rfl (M' := [R.own ty_3 F33 v32 u65]) rfl hM68
    refine WL.nil ?_
    refine fun a ha => hK64 _ _ ?_ a ha
    refine W.seq fun K71 hK71 => ?_
    refine W.region ?_
    refine wl_load_blk (i := 2) (vs := [v30, v32, (.int .i64 u29.2.2.1), (.int .i64 u29.2.2.2)]) (v := (.agg #[v30, v32, (.int .i64 u29.2.2.1), (.int .i64 u29.2.2.2)])) tf_31 rfl rfl hS70 rfl rfl rfl ?_
    refine wl_store_blk (i := 3) (vs := [v30, v32, (.int .i64 u29.2.2.1), (.int .i64 u29.2.2.2)]) (cs' := [v30, v32, (.int .i64 u29.2.2.1), (.int .i64 u29.2.2.2)]) tf_31 rfl rfl rfl rfl hB69 hS70 rfl rfl ⟨(hS70.own_ro (i := 1) rfl).one, (hS70.own_ro (i := 0) rfl).one, rfl, rfl, trivial⟩ rfl ?_
    intro w72 hk75 hB73 hS74
    refine wl_assign rfl rfl ?_
    refine WL.nil ?_
    refine fun a ha => hK71 _ _ ?_ a ha
    refine W.ret ?_
    have hr := Option.some.inj hF
    subst hr
    exact rets (vs := [(.agg #[v30, v32, (.int .i64 u29.2.2.1), (.int .i64 u29.2.2.2)]), (.bool true)]) hQ rfl ⟨rv_cell (i := 3) tf_31 rfl hS74 rfl rfl rfl, rv_tmp rfl, trivial⟩ ⟨v30, F63, v32, F33, rfl, hB73, hS74.sel [1, 0] rfl⟩
theorem C_laws_heldSpotS (w0 : World) (x0 : (List (Int × Int))) (v0_0 : Value) (h0_0 : rdS ty_116 (· < w0.heap.size) w0 v0_0 x0) (x1 : Int) (r : Int) (hF : F_laws_heldSpotS x0 x1 = some r) :
    Calls Try.prog 138 [v0_0, (.int .i64 x1)].toArray w0 fun e w' => e = .returned (.int .i64 r) ∧ Below w0.heap.size w0 w' := by
  refine calls_mk' Try.func138 rfl Try.ntmps138 rfl rfl fun Q hQ hP => ?_
  have hB : Below w0.heap.size w0 w0 := Below.refl _ _
  have hS : Sep w0.heap.size w0 [] := Sep.nil _ _
  unfold F_laws_heldSpotS at hF
  refine W.seq fun K1 hK1 => ?_
  refine W.region ?_
  refine wl_assign rfl rfl ?_
  refine WL.nil ?_
  refine fun a ha => hK1 _ _ ?_ a ha
  refine W.seq fun K2 hK2 => ?_
  refine W.seq fun K3 hK3 => ?_
  refine W.region ?_
  refine wl_assign rfl rfl ?_
  refine WL.nil ?_
  refine fun a ha => hK3 _ _ ?_ a ha
  refine W.block ?_
  refine W.loopk (fun m a w4 => ∃ (y7 : Int) (y8 : Int), St 31 [(0, v0_0), (1, (.int .i64 y7)), (5, (.int .i64 y8))] a ∧ Below w0.heap.size w0 w4 ∧ Sep w0.heap.size w4 [] ∧ F_laws_heldSpotS_L1 x0 m y7 y8 = some r) FU ?_ ?_
  ·
    exact fun a ha => ⟨x1, 0, ha.sub ⟨rfl, rfl, rfl, trivial⟩, hB, (hS.sel [] rfl), hF⟩
  ·
    rintro m11 a w4 ⟨y7, y8, ha, hB5, hS6, hF⟩ KL10 hKL10
    refine W.at ?_ ha
    cases m11 with
    | zero => exact noneE hF
    | succ m11 =>
      obtain ⟨nx9, hnx9⟩ : ∃ k, k = F_laws_heldSpotS_L1 x0 m11 := ⟨_, rfl⟩
      rw [F_laws_heldSpotS_L1, ← hnx9] at hF
      refine W.seq fun K12 hK12 => ?_
      refine W.seq fun K13 hK13 => ?_
      refine W.region ?_
      refine wl_move rfl rfl ?_
      refine wl_move rfl rfl ?_
      refine wl_lenr (e := ty_116) (l := x0) Try.underlying69 rfl rfl h0_0 ?_
      refine wl_lss rfl rfl rfl ?_
      refine WL.nil ?_
      refine fun a ha => hK13 _ _ ?_ a ha
      refine W.cond rfl (fun h14 => ?_) (fun h14 => ?_)
      · replace hF := ifP h14 hF
        refine W.skip ?_
        refine fun a ha => hK12 _ _ ?_ a ha
        refine W.seq fun K15 hK15 => ?_
        refine W.block ?_
        refine W.seq fun K16 hK16 => ?_
        refine W.seq fun K17 hK17 => ?_
        refine W.region ?_
        refine wl_move rfl rfl ?_
        refine wl_move rfl rfl ?_
        obtain ⟨u18, hu18, hF⟩ := bindE hF
        refine wl_index (e := ty_116) Try.underlying69 rfl rfl rfl h0_0 hu18 ?_
        rintro p19 _ rfl hp20
        refine wl_fieldp (o := 0) ff_116_0 rfl rfl ?_
        refine wl_load_p (vs := [(.int .i64 u18.1)]) (v := (.int .i64 u18.1)) tf_3 rfl rfl ((hp20.ro hB5).add 0) rfl rfl ?_
        refine wl_move rfl rfl ?_
        refine wl_neq rfl rfl rfl ?_
        refine WL.nil ?_
        refine fun a ha => hK17 _ _ ?_ a ha
        refine W.cond rfl (fun h21 => ?_) (fun h21 => ?_)
        · replace hF := ifP h21 hF
          refine W.seq fun K22 hK22 => ?_
          refine W.region ?_
          refine wl_assign rfl rfl ?_
          refine WL.nil ?_
          refine fun a ha => hK22 _ _ ?_ a ha
          refine W.ret ?_
          have hr := Option.some.inj hF
          subst hr
          exact rets (vs := [(.int .i64 (-1))]) hQ rfl ⟨rv_tmp rfl, trivial⟩ ⟨rfl, hB5⟩
        · replace hF := ifN h21 hF
          refine W.skip ?_
          refine fun a ha => hK16 _ _ ?_ a ha
          refine W.seq fun K23 hK23 => ?_
          refine W.region ?_
          refine wl_move rfl rfl ?_
          refine wl_add rfl rfl rfl ?_
          refine wl_assign rfl rfl ?_
          refine WL.nil ?_
          refine fun a ha => hK23 _ _ ?_ a ha
          refine W.seq fun K24 hK24 => ?_
          refine W.seq fun K25 hK25 => ?_
          refine W.region ?_
          refine wl_move rfl rfl ?_
          refine wl_move rfl rfl ?_
          obtain ⟨u26, hu26, hF⟩ := bindE hF
          refine wl_index (e := ty_116) Try.underlying69 rfl rfl rfl h0_0 hu26 ?_
          rintro p27 _ rfl hp28
          refine wl_fieldp (o := 1) ff_116_1 rfl rfl ?_
          refine wl_load_p (vs := [(.int .i64 u26.2)]) (v := (.int .i64 u26.2)) tf_3 rfl rfl ((hp28.ro hB5).add 1) rfl rfl ?_
          refine wl_move rfl rfl ?_
          refine wl_neq rfl rfl rfl ?_
          refine WL.nil ?_
          refine fun a ha => hK25 _ _ ?_ a ha
          refine W.cond rfl (fun h29 => ?_) (fun h29 => ?_)
          · replace hF := ifP h29 hF
            refine W.seq fun K30 hK30 => ?_
            refine W.region ?_
            refine wl_assign rfl rfl ?_
            refine WL.nil ?_
            refine fun a ha => hK30 _ _ ?_ a ha
            refine W.ret ?_
            have hr := Option.some.inj hF
            subst hr
            exact rets (vs := [(.int .i64 (-1))]) hQ rfl ⟨rv_tmp rfl, trivial⟩ ⟨rfl, hB5⟩
          · replace hF := ifN h29 hF
            refine W.skip ?_
            refine fun a ha => hK24 _ _ ?_ a ha
            refine W.region ?_
            refine wl_move rfl rfl ?_
            refine wl_add rfl rfl rfl ?_
            refine wl_assign rfl rfl ?_
            refine WL.nil ?_
            refine fun a ha => hK15 _ _ ?_ a ha
            refine W.region ?_
            refine wl_move rfl rfl ?_
            refine wl_add rfl rfl rfl ?_
            refine wl_assign rfl rfl ?_
            refine WL.nil ?_
            rw [hnx9] at hF
            exact fun a ha => hKL10 a _ m11 (Nat.lt_succ_self m11) ⟨(w64 ((w64 (y7 + 1)) + 1)), (w64 (y8 + 1)), ha.sub ⟨rfl, rfl, rfl, trivial⟩, hB5, (hS6.sel [] rfl), hF⟩
      · replace hF := ifN h14 hF
        refine W.exit ?_
        refine fun a ha => hK2 _ _ ?_ a ha
        refine W.seq fun K31 hK31 => ?_
        refine W.region ?_
        refine wl_move rfl rfl ?_
        refine wl_assign rfl rfl ?_
        refine WL.nil ?_
        refine fun a ha => hK31 _ _ ?_ a ha
        refine W.ret ?_
        have hr := Option.some.inj hF
        subst hr
        exact rets (vs := [(.int .i64 y7)]) hQ rfl ⟨rv_tmp rfl, trivial⟩ ⟨rfl, hB5⟩
theorem C_laws_heldSpotSS (w0 : World) (x0 : (List (List (Int × Int)))) (v0_0 : Value) (h0_0 : rdS ty_69 (· < w0.heap.size) w0 v0_0 x0) (x1 : Int) (r : Int) (hF : F_laws_heldSpotSS x0 x1 = some r) :
    Calls Try.prog 99 [v0_0, (.int .i64 x1)].toArray w0 fun e w' => e = .returned (.int .i64 r) ∧ Below w0.heap.size w0 w' := by
  refine calls_mk' Try.func99 rfl Try.ntmps99 rfl rfl fun Q hQ hP => ?_
  have hB : Below w0.heap.size w0 w0 := Below.refl _ _
  have hS : Sep w0.heap.size w0 [] := Sep.nil _ _
  unfold F_laws_heldSpotSS at hF
  refine W.seq fun K1 hK1 => ?_
  refine W.region ?_
  refine wl_assign rfl rfl ?_
  refine WL.nil ?_
  refine fun a ha => hK1 _ _ ?_ a ha
  refine W.seq fun K2 hK2 => ?_
  refine W.seq fun K3 hK3 => ?_
  refine W.region ?_
  refine wl_assign rfl rfl ?_
  refine WL.nil ?_
  refine fun a ha => hK3 _ _ ?_ a ha
  refine W.block ?_
  refine W.loopk (fun m a w4 => ∃ (y7 : Int) (y8 : Int), St 21 [(0, v0_0), (1, (.int .i64 y7)), (5, (.int .i64 y8))] a ∧ Below w0.heap.size w0 w4 ∧ Sep w0.heap.size w4 [] ∧ F_laws_heldSpotSS_L1 x0 m y7 y8 = some r) FU ?_ ?_
  ·
    exact fun a ha => ⟨x1, 0, ha.sub ⟨rfl, rfl, rfl, trivial⟩, hB, (hS.sel [] rfl), hF⟩
  ·
    rintro m11 a w4 ⟨y7, y8, ha, hB5, hS6, hF⟩ KL10 hKL10
    refine W.at ?_ ha
    cases m11 with
    | zero => exact noneE hF
    | succ m11 =>
      obtain ⟨nx9, hnx9⟩ : ∃ k, k = F_laws_heldSpotSS_L1 x0 m11 := ⟨_, rfl⟩
      rw [F_laws_heldSpotSS_L1, ← hnx9] at hF
      refine W.seq fun K12 hK12 => ?_
      refine W.seq fun K13 hK13 => ?_
      refine W.region ?_
      refine wl_move rfl rfl ?_
      refine wl_move rfl rfl ?_
      refine wl_lenr (e := ty_69) (l := x0) Try.underlying29 rfl rfl h0_0 ?_
      refine wl_lss rfl rfl rfl ?_
      refine WL.nil ?_
      refine fun a ha => hK13 _ _ ?_ a ha
      refine W.cond rfl (fun h14 => ?_) (fun h14 => ?_)
      · replace hF := ifP h14 hF
        refine W.skip ?_
        refine fun a ha => hK12 _ _ ?_ a ha
        refine W.seq fun K15 hK15 => ?_
        refine W.block ?_
        refine W.seq fun K16 hK16 => ?_
        refine W.region ?_
        refine wl_move rfl rfl ?_
        refine wl_move rfl rfl ?_
        obtain ⟨u17, hu17, hF⟩ := bindE hF
        refine wl_index (e := ty_69) Try.underlying29 rfl rfl rfl h0_0 hu17 ?_
        rintro p18 _ ⟨v20, rfl, hv21⟩ hp19
        refine wl_load_p (vs := [v20]) (v := v20) tf_69 rfl rfl (hp19.ro hB5) rfl rfl ?_
        refine wl_move rfl rfl ?_
        obtain ⟨u22, hu22, hF⟩ := bindE hF
        refine wl_call rfl Try.call138 (C_laws_heldSpotS w4 u17 v20 (hv21.ro hB5) y7 _ hu22) rfl ?_
        rintro _ w23 ⟨rfl, hb24⟩
        refine ⟨_, rfl, ?_⟩
        have hB25 := hB5.trans (hb24.mono hB5.size)
        have hS26 := hS6.below hb24
        refine wl_assign rfl rfl ?_
        refine WL.nil ?_
        refine fun a ha => hK16 _ _ ?_ a ha
        refine W.seq fun K28 hK28 => ?_
        refine W.region ?_
        refine wl_move rfl rfl ?_
        refine wl_lss rfl rfl rfl ?_
        refine WL.nil ?_
        refine fun a ha => hK28 _ _ ?_ a ha
        refine W.cond rfl (fun h29 => ?_) (fun h29 => ?_)
        · replace hF := ifP h29 hF
          refine W.seq fun K30 hK30 => ?_
          refine W.region ?_
          refine wl_assign rfl rfl ?_
          refine WL.nil ?_
          refine fun a ha => hK30 _ _ ?_ a ha
          refine W.ret ?_
          have hr := Option.some.inj hF
          subst hr
          exact rets (vs := [(.int .i64 (-1))]) hQ rfl ⟨rv_tmp rfl, trivial⟩ ⟨rfl, hB25⟩
        · replace hF := ifN h29 hF
          refine W.skip ?_
          refine fun a ha => hK15 _ _ ?_ a ha
          refine W.region ?_
          refine wl_move rfl rfl ?_
          refine wl_add rfl rfl rfl ?_
          refine wl_assign rfl rfl ?_
          refine WL.nil ?_
          rw [hnx9] at hF
          exact fun a ha => hKL10 a _ m11 (Nat.lt_succ_self m11) ⟨u22, (w64 (y8 + 1)), ha.sub ⟨rfl, rfl, rfl, trivial⟩, hB25, (hS26.sel [] rfl), hF⟩
      · replace hF := ifN h14 hF
        refine W.exit ?_
        refine fun a ha => hK2 _ _ ?_ a ha
        refine W.seq fun K31 hK31 => ?_
        refine W.region ?_
        refine wl_move rfl rfl ?_
        refine wl_assign rfl rfl ?_
        refine WL.nil ?_
        refine fun a ha => hK31 _ _ ?_ a ha
        refine W.ret ?_
        have hr := Option.some.inj hF
        subst hr
        exact rets (vs := [(.int .i64 y7)]) hQ rfl ⟨rv_tmp rfl, trivial⟩ ⟨rfl, hB5⟩
theorem C_laws_heldShow (w0 : World) (x0 : ((List (List (Int × Int))) × (List Int) × Int × Int)) (v0_0 : Value) (h0_0 : rdS ty_69 (· < w0.heap.size) w0 v0_0 x0.1) (v0_1 : Value) (h0_1 : rdS ty_3 (· < w0.heap.size) w0 v0_1 x0.2.1) (x1 : Int) (r : Int) (hF : F_laws_heldShow x0 x1 = some r) :
    Calls Try.prog 43 [(.agg #[v0_0, v0_1, (.int .i64 x0.2.2.1), (.int .i64 x0.2.2.2)]), (.int .i64 x1)].toArray w0 fun e w' => e = .returned (.int .i64 r) ∧ Below w0.heap.size w0 w' := by
  refine calls_mk' Try.func43 rfl Try.ntmps43 rfl rfl fun Q hQ hP => ?_
  have hB : Below w0.heap.size w0 w0 := Below.refl _ _
  have hS : Sep w0.heap.size w0 [] := Sep.nil _ _
  unfold F_laws_heldShow at hF
  refine W.seq fun K1 hK1 => ?_
  refine W.region ?_
  refine wl_box (cs := [v0_0, v0_1, (.int .i64 x0.2.2.1), (.int .i64 x0.2.2.2)]) rfl rfl rfl hB hS ?_
  intro b2 w3 hb4 hB5 hS6
  refine wl_assign rfl rfl ?_
  refine WL.nil ?_
  refine fun a ha => hK1 _ _ ?_ a ha
  refine W.seq fun K7 hK7 => ?_
  refine W.region ?_
  refine wl_field (o := 0) (off' := 0) ff_31_0 rfl rfl rfl ?_
  refine wl_load_blk (i := 0) (vs := [v0_0]) (v := v0_0) tf_29 rfl rfl hS6 rfl rfl rfl ?_
  refine wl_move rfl rfl ?_
  obtain ⟨u8, hu8, hF⟩ := bindE hF
  refine wl_call rfl Try.call99 (C_laws_heldSpotSS w3 x0.1 v0_0 (h0_0.ro hB5) x1 _ hu8) rfl ?_
  rintro _ w9 ⟨rfl, hb10⟩
  refine ⟨_, rfl, ?_⟩
  have hB11 := hB5.trans (hb10.mono hB5.size)
  have hS12 := hS6.below hb10
  refine wl_assign rfl rfl ?_
  refine WL.nil ?_
  refine fun a ha => hK7 _ _ ?_ a ha
  refine W.seq fun K14 hK14 => ?_
  refine W.seq fun K15 hK15 => ?_
  refine W.region ?_
  refine wl_move rfl rfl ?_
  refine wl_lss rfl rfl rfl ?_
  refine WL.nil ?_
  refine fun a ha => hK15 _ _ ?_ a ha
  refine W.cond rfl (fun h16 => ?_) (fun h16 => ?_)
  · replace hF := ifP h16 hF
    refine W.seq fun K17 hK17 => ?_
    refine W.region ?_
    refine wl_assign rfl rfl ?_
    refine WL.nil ?_
    refine fun a ha => hK17 _ _ ?_ a ha
    refine W.ret ?_
    have hr := Option.some.inj hF
    subst hr
    exact rets (vs := [(.int .i64 (-1))]) hQ rfl ⟨rv_tmp rfl, trivial⟩ ⟨rfl, hB11⟩
  · replace hF := ifN h16 hF
    refine W.skip ?_
    refine fun a ha => hK14 _ _ ?_ a ha
    refine W.seq fun K18 hK18 => ?_
    refine W.region ?_
    refine wl_field (o := 1) (off' := 1) ff_31_1 rfl rfl rfl ?_
    refine wl_load_blk (i := 0) (vs := [v0_1]) (v := v0_1) tf_23 rfl rfl hS12 rfl rfl rfl ?_
    refine wl_move rfl rfl ?_
    obtain ⟨u19, hu19, hF⟩ := bindE hF
    refine wl_call rfl Try.call23 (C_laws_heldIntS w9 x0.2.1 v0_1 (h0_1.ro hB11) u8 _ hu19) rfl ?_
    rintro _ w20 ⟨rfl, hb21⟩
    refine ⟨_, rfl, ?_⟩
    have hB22 := hB11.trans (hb21.mono hB11.size)
    have hS23 := hS12.below hb21
    refine wl_assign rfl rfl ?_
    refine WL.nil ?_
    refine fun a ha => hK18 _ _ ?_ a ha
    refine W.seq fun K25 hK25 => ?_
    refine W.seq fun K26 hK26 => ?_
    refine W.region ?_
    refine wl_move rfl rfl ?_
    refine wl_lss rfl rfl rfl ?_
    refine WL.nil ?_
    refine fun a ha => hK26 _ _ ?_ a ha
    refine W.cond rfl (fun h27 => ?_) (fun h27 => ?_)
    · replace hF := ifP h27 hF
      refine W.seq fun K28 hK28 => ?_
      refine W.region ?_
      refine wl_assign rfl rfl ?_
      refine WL.nil ?_
      refine fun a ha => hK28 _ _ ?_ a ha
      refine W.ret ?_
      have hr := Option.some.inj hF
      subst hr
      exact rets (vs := [(.int .i64 (-1))]) hQ rfl ⟨rv_tmp rfl, trivial⟩ ⟨rfl, hB22⟩
    · replace hF := ifN h27 hF
      refine W.skip ?_
      refine fun a ha => hK25 _ _ ?_ a ha
      refine W.seq fun K29 hK29 => ?_
      refine W.region ?_
      refine wl_move rfl rfl ?_
      refine wl_assign rfl rfl ?_
      refine WL.nil ?_
      refine fun a ha => hK29 _ _ ?_ a ha
      refine W.ret ?_
      have hr := Option.some.inj hF
      subst hr
      exact rets (vs := [(.int .i64 u19)]) hQ rfl ⟨rv_tmp rfl, trivial⟩ ⟨rfl, hB22⟩
theorem C_laws_FnExactReverseShow (w0 : World) (x0 : ((List (List (Int × Int))) × (List Int) × Int × Int)) (v0_0 : Value) (h0_0 : rdS ty_66 (· < w0.heap.size) w0 v0_0 x0.1) (v0_1 : Value) (h0_1 : rdS ty_3 (· < w0.heap.size) w0 v0_1 x0.2.1) (r : Bool) (hF : F_laws_FnExactReverseShow x0 = some r) :
    Calls Try.prog 7 [(.agg #[v0_0, v0_1, (.int .i64 x0.2.2.1), (.int .i64 x0.2.2.2)])].toArray w0 fun e w' => e = .returned (.bool r) ∧ Below w0.heap.size w0 w' := by
  refine calls_mk' Try.func7 rfl Try.ntmps7 rfl rfl fun Q hQ hP => ?_
  have hB : Below w0.heap.size w0 w0 := Below.refl _ _
  have hS : Sep w0.heap.size w0 [] := Sep.nil _ _
  unfold F_laws_FnExactReverseShow at hF
  refine W.seq fun K1 hK1 => ?_
  refine W.region ?_
  refine wl_box (cs := [v0_0, v0_1, (.int .i64 x0.2.2.1), (.int .i64 x0.2.2.2)]) rfl rfl rfl hB hS ?_
  intro b2 w3 hb4 hB5 hS6
  refine wl_assign rfl rfl ?_
  refine WL.nil ?_
  refine fun a ha => hK1 _ _ ?_ a ha
  refine W.seq fun K7 hK7 => ?_
  refine W.region ?_
  refine wl_assign rfl rfl ?_
  refine WL.nil ?_
  refine fun a ha => hK7 _ _ ?_ a ha
  refine W.seq fun K8 hK8 => ?_
  refine W.region ?_
  refine wl_load_blk (i := 0) (vs := [v0_0, v0_1, (.int .i64 x0.2.2.1), (.int .i64 x0.2.2.2)]) (v := (.agg #[v0_0, v0_1, (.int .i64 x0.2.2.1), (.int .i64 x0.2.2.2)])) tf_25 rfl rfl hS6 rfl rfl rfl ?_
  refine wl_move rfl rfl ?_
  obtain ⟨u9, hu9, hF⟩ := bindE hF
  refine wl_call rfl Try.call15 (C_laws_szShow w3 x0 v0_0 (h0_0.ro hB5) v0_1 (h0_1.ro hB5) 1048576 _ hu9) rfl ?_
  rintro _ w10 ⟨rfl, hb11⟩
  refine ⟨_, rfl, ?_⟩
  have hB12 := hB5.trans (hb11.mono hB5.size)
  have hS13 := hS6.below hb11
  refine wl_assign rfl rfl ?_
  refine WL.nil ?_
  refine fun a ha => hK8 _ _ ?_ a ha
  refine W.seq fun K15 hK15 => ?_
  refine W.seq fun K16 hK16 => ?_
  refine W.region ?_
  refine wl_move rfl rfl ?_
  refine wl_lss rfl rfl rfl ?_
  refine WL.nil ?_
  refine fun a ha => hK16 _ _ ?_ a ha
  refine W.cond rfl (fun h17 => ?_) (fun h17 => ?_)
  · replace hF := ifP h17 hF
    refine W.seq fun K18 hK18 => ?_
    refine W.region ?_
    refine wl_assign rfl rfl ?_
    refine WL.nil ?_
    refine fun a ha => hK18 _ _ ?_ a ha
    refine W.ret ?_
    have hr := Option.some.inj hF
    subst hr
    exact rets (vs := [(.bool true)]) hQ rfl ⟨rv_tmp rfl, trivial⟩ ⟨rfl, hB12⟩
  · replace hF := ifN h17 hF
    refine W.skip ?_
    refine fun a ha => hK15 _ _ ?_ a ha
    refine W.seq fun K19 hK19 => ?_
    refine W.region ?_
    refine wl_load_blk (i := 0) (vs := [v0_0, v0_1, (.int .i64 x0.2.2.1), (.int .i64 x0.2.2.2)]) (v := (.agg #[v0_0, v0_1, (.int .i64 x0.2.2.1), (.int .i64 x0.2.2.2)])) tf_25 rfl rfl hS13 rfl rfl rfl ?_
    obtain ⟨u20, hu20, hF⟩ := bindE hF
    refine wl_call rfl Try.call17 (C_laws_toShow w10 x0 v0_0 (h0_0.ro hB12) v0_1 (h0_1.ro hB12) _ hu20) rfl ?_
    rintro _ w25 ⟨v21, F22, v23, F24, rfl, hb26, hM29⟩
    refine ⟨_, rfl, ?_⟩
    have hB27 := hB12.trans (hb26.mono hB12.size)
    have hS28 := hS13.join hb26 hM29 hB12.size
    obtain ⟨u30, hu30, hF⟩ := bindE hF
    refine wl_call rfl Try.call41 (C_spec_ReverseShow w25 u20 v21 (hS28.own_ro (i := 0) rfl) v23 (hS28.own_ro (i := 1) rfl) _ hu30) rfl ?_
    rintro _ w35 ⟨v31, F32, v33, F34, rfl, hb36, hM39⟩
    refine ⟨_, rfl, ?_⟩
    have hB37 := hB27.trans (hb36.mono hB27.size)
    have hS38 := hS28.join hb36 hM39 hB27.size
    refine wl_move rfl rfl ?_
    refine wl_extract rfl rfl rfl ?_
    refine wl_extract rfl rfl rfl ?_
    refine wl_alloc (cs := [(.slice none 0 0), (.slice none 0 0), (.int .i64 0), (.int .i64 0)]) tf_31 rfl rfl hB37 hS38 ?_
    intro b40 w41 hb42 hB43 hS44
    refine wl_store_blk (i := 0) (vs := [v31, v33, (.int .i64 u30.1.2.2.1), (.int .i64 u30.1.2.2.2)]) (cs' := [v31, v33, (.int .i64 u30.1.2.2.1), (.int .i64 u30.1.2.2.2)]) tf_31 rfl rfl rfl rfl hB43 hS44 rfl rfl ⟨(hS44.own_ro (i := 1) rfl).one, (hS44.own_ro (i := 2) rfl).one, rfl, rfl, trivial⟩ rfl ?_
    intro w45 hk48 hB46 hS47
    refine wl_assign rfl rfl ?_
    refine WL.nil ?_
    refine fun a ha => hK19 _ _ ?_ a ha
    refine W.seq fun K49 hK49 => ?_
    refine W.region ?_
    refine wl_load_blk (i := 5) (vs := [v0_0, v0_1, (.int .i64 x0.2.2.1), (.int .i64 x0.2.2.2)]) (v := (.agg #[v0_0, v0_1, (.int .i64 x0.2.2.1), (.int .i64 x0.2.2.2)])) tf_25 rfl rfl hS47 rfl rfl rfl ?_
    obtain ⟨u50, hu50, hF⟩ := bindE hF
    refine wl_call rfl Try.call17 (C_laws_toShow w45 x0 v0_0 (h0_0.ro hB46) v0_1 (h0_1.ro hB46) _ hu50) rfl ?_
    rintro _ w55 ⟨v51, F52, v53, F54, rfl, hb56, hM59⟩
    refine ⟨_, rfl, ?_⟩
    have hB57 := hB46.trans (hb56.mono hB46.size)
    have hS58 := hS47.join hb56 hM59 hB46.size
    refine wl_alloc (cs := [(.slice none 0 0), (.slice none 0 0), (.int .i64 0), (.int .i64 0)]) tf_31 rfl rfl hB57 hS58 ?_
    intro b60 w61 hb62 hB63 hS64
    refine wl_store_blk (i := 0) (vs := [v51, v53, (.int .i64 u50.2.2.1), (.int .i64 u50.2.2.2)]) (cs' := [v51, v53, (.int .i64 u50.2.2.1), (.int .i64 u50.2.2.2)]) tf_31 rfl rfl rfl rfl hB63 hS64 rfl rfl ⟨(hS64.own_ro (i := 1) rfl).one, (hS64.own_ro (i := 2) rfl).one, rfl, rfl, trivial⟩ rfl ?_
    intro w65 hk68 hB66 hS67
    refine WL.nil ?_
    refine fun a ha => hK49 _ _ ?_ a ha
    refine W.seq fun K69 hK69 => ?_
    refine W.region ?_
    refine wl_load_blk (i := 0) (vs := [v51, v53, (.int .i64 u50.2.2.1), (.int .i64 u50.2.2.2)]) (v := (.agg #[v51, v53, (.int .i64 u50.2.2.1), (.int .i64 u50.2.2.2)])) tf_31 rfl rfl hS67 rfl rfl rfl ?_
    obtain ⟨u70, hu70, hF⟩ := bindE hF
    refine wl_call rfl Try.call42 (C_impl_ReverseShow w65 u50 v51 (hS67.own_ro (i := 1) rfl) v53 (hS67.own_ro (i := 2) rfl) _ hu70) rfl ?_
    rintro _ w75 ⟨v71, F72, v73, F74, rfl, hb76, hM79⟩
    refine ⟨_, rfl, ?_⟩
    have hB77 := hB66.trans (hb76.mono hB66.size)
    have hS78 := hS67.join hb76 hM79 hB66.size
    refine wl_move rfl rfl ?_
    refine wl_extract rfl rfl rfl ?_
    refine wl_extract rfl rfl rfl ?_
    refine wl_alloc (cs := [(.slice none 0 0), (.slice none 0 0), (.int .i64 0), (.int .i64 0)]) tf_31 rfl rfl hB77 hS78 ?_
    intro b80 w81 hb82 hB83 hS84
    refine wl_store_blk (i := 0) (vs := [v71, v73, (.int .i64 u70.1.2.2.1), (.int .i64 u70.1.2.2.2)]) (cs' := [v71, v73, (.int .i64 u70.1.2.2.1), (.int .i64 u70.1.2.2.2)]) tf_31 rfl rfl rfl rfl hB83 hS84 rfl rfl ⟨(hS84.own_ro (i := 1) rfl).one, (hS84.own_ro (i := 2) rfl).one, rfl, rfl, trivial⟩ rfl ?_
    intro w85 hk88 hB86 hS87
    refine wl_assign rfl rfl ?_
    refine WL.nil ?_
    refine fun a ha => hK69 _ _ ?_ a ha
    refine W.seq fun K89 hK89 => ?_
    refine W.seq fun K90 hK90 => ?_
    obtain ⟨k95, hk95, hF⟩ := jE1 hF
    have hJ96 : ∀ (y94 : Bool) (w91 : World) (_ : k95 y94 = some r) (_ : Below w0.heap.size w0 w91) (_ : Sep w0.heap.size w91 [R.blk b2 25 [v0_0, v0_1, (.int .i64 x0.2.2.1), (.int .i64 x0.2.2.2)], R.own ty_69 F32 v31 u30.1.1, R.own ty_3 F34 v33 u30.1.2.1, R.blk b40 31 [v31, v33, (.int .i64 u30.1.2.2.1), (.int .i64 u30.1.2.2.2)], R.own ty_69 F52 v51 u50.1, R.own ty_3 F54 v53 u50.2.1, R.blk b60 31 [v51, v53, (.int .i64 u50.2.2.1), (.int .i64 u50.2.2.2)], R.own ty_69 F72 v71 u70.1.1, R.own ty_3 F74 v73 u70.1.2.1, R.blk b80 31 [v71, v73, (.int .i64 u70.1.2.2.1), (.int .i64 u70.1.2.2.2)]]), ∀ a, St 96 [(1, (.pointer (some ⟨b2, 0, none⟩))), (4, (.pointer (some ⟨b40, 0, none⟩))), (5, (.bool u30.2)), (6, (.pointer (some ⟨b60, 0, none⟩))), (7, (.pointer (some ⟨b80, 0, none⟩))), (8, (.bool u70.2)), (40, (.bool y94))] a → K90 a w91 := by
      intro y94 w91 hF hB92 hS93
      subst hk95
      refine fun a ha => hK90 _ _ ?_ a ha
      refine W.cond rfl (fun h97 => ?_) (fun h97 => ?_)
      · replace hF := ifP h97 hF
        refine W.seq fun K98 hK98 => ?_
        refine W.region ?_
        refine wl_assign rfl rfl ?_
        refine WL.nil ?_
        refine fun a ha => hK98 _ _ ?_ a ha
        refine W.ret ?_
        have hr := Option.some.inj hF
        subst hr
        exact rets (vs := [(.bool false)]) hQ rfl ⟨rv_tmp rfl, trivial⟩ ⟨rfl, hB92⟩
      · replace hF := ifN h97 hF
        refine W.skip ?_
        refine fun a ha => hK89 _ _ ?_ a ha
        refine W.seq fun K99 hK99 => ?_
        refine W.seq fun K100 hK100 => ?_
        refine W.regionH mixed_ [] hB92 hS93 ?_
        intro w101 hb102 hB103 hS104
        have hSW105 := KeepX.refl w101 []
        refine WH.takex (i := 0) rfl (by kernel_rfl) (by kernel_rfl) (by kernel_rfl) hP hSW105 ?_
        refine pr_load_blk (i := 6) (vs := [v51, v53, (.int .i64 u50.2.2.1), (.int .i64 u50.2.2.2)]) (v := (.agg #[v51, v53, (.int .i64 u50.2.2.1), (.int .i64 u50.2.2.2)])) tf_31 rfl rfl hS104 rfl rfl rfl (by simp) ?_
        refine WH.takex (i := 1) rfl (by kernel_rfl) (by kernel_rfl) (by kernel_rfl) hP hSW105 ?_
        refine pr_load_blk (i := 0) (vs := [v0_0, v0_1, (.int .i64 x0.2.2.1), (.int .i64 x0.2.2.2)]) (v := (.agg #[v0_0, v0_1, (.int .i64 x0.2.2.1), (.int .i64 x0.2.2.2)])) tf_25 rfl rfl hS104 rfl rfl rfl (by simp) ?_
        refine WH.one (i := 2) (by kernel_rfl) rfl ?_
        obtain ⟨u106, hu106, hF⟩ := bindE hF
        refine wl_call rfl Try.call17 (C_laws_toShow w101 x0 v0_0 (h0_0.ro hB103) v0_1 (h0_1.ro hB103) _ hu106) rfl ?_
        rintro _ w111 ⟨v107, F108, v109, F110, rfl, hb112, hM115⟩
        refine ⟨_, rfl, ?_⟩
        have hB113 := hB103.trans (hb112.mono hB103.size)
        have hn116 : ∀ b ∈ F108, w101.heap.size ≤ b := fun b hb => Nat.le_trans hSW105.size ((hM115.get (i := 0) rfl).2.1 b hb).1
        have hn117 : ∀ b ∈ F110, w101.heap.size ≤ b := fun b hb => Nat.le_trans hSW105.size ((hM115.get (i := 1) rfl).2.1 b hb).1
        have hS114 := hS104.join hb112 hM115 hB103.size
        have hSW118 := hSW105.ext hb112
        refine WL.nil (WH.ret hSW118 ?_)
        refine WH.one (i := 3) (by kernel_rfl) rfl ?_
        obtain ⟨u119, hu119, hF⟩ := bindE hF
        refine wl_call rfl Try.call20 (C_laws_eqShow w111 u50 v51 (hS114.own_ro (i := 6) rfl) v53 (hS114.own_ro (i := 7) rfl) u106 v107 (hS114.own_ro (i := 0) rfl) v109 (hS114.own_ro (i := 1) rfl) _ hu119) rfl ?_
        rintro _ w120 ⟨rfl, hb121⟩
        refine ⟨_, rfl, ?_⟩
        have hB122 := hB113.trans (hb121.mono hB113.size)
        have hS123 := hS114.below hb121
        have hSW125 := hSW118.ext hb121
        refine WL.nil (WH.ret hSW125 ?_)
        refine WH.takex (i := 4) rfl (by kernel_rfl) (by kernel_rfl) (by kernel_rfl) hP hSW125 ?_
        refine pr_not rfl rfl ?_
        refine WH.done (by kernel_rfl) ?_
        refine fun a ha => hK100 _ _ ?_ a ha
        refine W.cond rfl (fun h126 => ?_) (fun h126 => ?_)
        · replace hF := ifP h126 hF
          refine W.seq fun K127 hK127 => ?_
          refine W.region ?_
          refine wl_assign rfl rfl ?_
          refine WL.nil ?_
          refine fun a ha => hK127 _ _ ?_ a ha
          refine W.ret ?_
          have hr := Option.some.inj hF
          subst hr
          exact rets (vs := [(.bool false)]) hQ rfl ⟨rv_tmp rfl, trivial⟩ ⟨rfl, hB122⟩
        · replace hF := ifN h126 hF
          refine W.skip ?_
          refine fun a ha => hK99 _ _ ?_ a ha
          refine W.seq fun K128 hK128 => ?_
          refine W.region ?_
          refine wl_assign rfl rfl ?_
          refine WL.nil ?_
          refine fun a ha => hK128 _ _ ?_ a ha
          refine W.seq fun K129 hK129 => ?_
          refine W.region ?_
          refine wl_load_blk (i := 8) (vs := [v51, v53, (.int .i64 u50.2.2.1), (.int .i64 u50.2.2.2)]) (v := (.agg #[v51, v53, (.int .i64 u50.2.2.1), (.int .i64 u50.2.2.2)])) tf_31 rfl rfl hS123 rfl rfl rfl ?_
          refine wl_move rfl rfl ?_
          obtain ⟨u130, hu130, hF⟩ := bindE hF
          refine wl_call rfl Try.call21 (C_laws_markShow w120 u50 v51 F52 v53 F54 1 (hS123.sel [6, 7] rfl).base0 _ hu130) rfl ?_
          rintro _ w131 ⟨rfl, hE132, hM133⟩
          refine ⟨_, rfl, ?_⟩
          have hB134 := hS123.mutB [6, 7] rfl (M := [R.own ty_69 F52 v51 u50.1, R.own ty_3 F54 v53 u50.2.1]) rfl (M' := [R.own ty_69 F52 v51 u130.2.1, R.own ty_3 F54 v53 u130.2.2.1]) rfl hB122 hB122.size hE132 hM133
          have hS135 : Sep w0.heap.size w131 [R.own ty_69 F52 v51 u130.2.1, R.own ty_3 F54 v53 u130.2.2.1, R.own ty_69 F108 v107 u106.1, R.own ty_3 F110 v109 u106.2.1, R.blk b2 25 [v0_0, v0_1, (.int .i64 x0.2.2.1), (.int .i64 x0.2.2.2)], R.own ty_69 F32 v31 u30.1.1, R.own ty_3 F34 v33 u30.1.2.1, R.blk b40 31 [v31, v33, (.int .i64 u30.1.2.2.1), (.int .i64 u30.1.2.2.2)], R.blk b60 31 [v51, v53, (.int .i64 u50.2.2.1), (.int .i64 u50.2.2.2)], R.own ty_69 F72 v71 u70.1.1, R.own ty_3 F74 v73 u70.1.2.1, R.blk b80 31 [v71, v73, (.int .i64 u70.1.2.2.1), (.int .i64 u70.1.2.2.2)]] := hS123.mut [6, 7] [0, 1, 2, 3, 4, 5, 8, 9, 10, 11] rfl (M := [R.own ty_69 F52 v51 u50.1, R.own ty_3 F54 v53 u50.2.1]) rfl (M' := [R.own ty_69 F52 v51 u130.2.1, R.own ty_3 F54 v53 u130.2.2.1]) rfl hM133
          refine wl_assign rfl rfl ?_
          refine WL.nil ?_
          refine fun a ha => hK129 _ _ ?_ a ha
          refine W.seq fun K136 hK136 => ?_
          refine W.seq fun K137 hK137 => ?_
          obtain ⟨k142, hk142, hF⟩ := jE1 hF
          have hJ143 : ∀ (y141 : Bool) (w138 : World) (_ : k142 y141 = some r) (_ : Below w0.heap.size w0 w138) (_ : Sep w0.heap.size w138 [R.blk b2 25 [v0_0, v0_1, (.int .i64 x0.2.2.1), (.int .i64 x0.2.2.2)], R.own ty_69 F32 v31 u30.1.1, R.own ty_3 F34 v33 u30.1.2.1, R.blk b40 31 [v31, v33, (.int .i64 u30.1.2.2.1), (.int .i64 u30.1.2.2.2)], R.own ty_69 F72 v71 u70.1.1, R.own ty_3 F74 v73 u70.1.2.1, R.blk b80 31 [v71, v73, (.int .i64 u70.1.2.2.1), (.int .i64 u70.1.2.2.2)]]), ∀ a, St 96 [(1, (.pointer (some ⟨b2, 0, none⟩))), (4, (.pointer (some ⟨b40, 0, none⟩))), (5, (.bool u30.2)), (7, (.pointer (some ⟨b80, 0, none⟩))), (61, (.bool y141))] a → K137 a w138 := by
            intro y141 w138 hF hB139 hS140
            subst hk142
            refine fun a ha => hK137 _ _ ?_ a ha
            refine W.cond rfl (fun h144 => ?_) (fun h144 => ?_)
            · replace hF := ifP h144 hF
              refine W.seq fun K145 hK145 => ?_
              refine W.region ?_
              refine wl_assign rfl rfl ?_
              refine WL.nil ?_
              refine fun a ha => hK145 _ _ ?_ a ha
              refine W.ret ?_
              have hr := Option.some.inj hF
              subst hr
              exact rets (vs := [(.bool false)]) hQ rfl ⟨rv_tmp rfl, trivial⟩ ⟨rfl, hB139⟩
            · replace hF := ifN h144 hF
              refine W.skip ?_
              refine fun a ha => hK136 _ _ ?_ a ha
              refine W.seq fun K146 hK146 => ?_
              refine W.region ?_
              refine wl_assign rfl rfl ?_
              refine WL.nil ?_
              refine fun a ha => hK146 _ _ ?_ a ha
              refine W.seq fun K147 hK147 => ?_
              refine W.region ?_
              refine wl_load_blk (i := 6) (vs := [v71, v73, (.int .i64 u70.1.2.2.1), (.int .i64 u70.1.2.2.2)]) (v := (.agg #[v71, v73, (.int .i64 u70.1.2.2.1), (.int .i64 u70.1.2.2.2)])) tf_31 rfl rfl hS140 rfl rfl rfl ?_
              refine wl_move rfl rfl ?_
              obtain ⟨u148, hu148, hF⟩ := bindE hF
              refine wl_call rfl Try.call21 (C_laws_markShow w138 u70.1 v71 F72 v73 F74 1 (hS140.sel [4, 5] rfl).base0 _ hu148) rfl ?_
              rintro _ w149 ⟨rfl, hE150, hM151⟩
              refine ⟨_, rfl, ?_⟩
              have hB152 := hS140.mutB [4, 5] rfl (M := [R.own ty_69 F72 v71 u70.1.1, R.own ty_3 F74 v73 u70.1.2.1]) rfl (M' := [R.own ty_69 F72 v71 u148.2.1, R.own ty_3 F74 v73 u148.2.2.1]) rfl hB139 hB139.size hE150 hM151
              have hS153 : Sep w0.heap.size w149 [R.own ty_69 F72 v71 u148.2.1, R.own ty_3 F74 v73 u148.2.2.1, R.blk b2 25 [v0_0, v0_1, (.int .i64 x0.2.2.1), (.int .i64 x0.2.2.2)], R.own ty_69 F32 v31 u30.1.1, R.own ty_3 F34 v33 u30.1.2.1, R.blk b40 31 [v31, v33, (.int .i64 u30.1.2.2.1), (.int .i64 u30.1.2.2.2)], R.blk b80 31 [v71, v73, (.int .i64 u70.1.2.2.1), (.int .i64 u70.1.2.2.2)]] := hS140.mut [4, 5] [0, 1, 2, 3, 6] rfl (M := [R.own ty_69 F72 v71 u70.1.1, R.own ty_3 F74 v73 u70.1.2.1]) rfl (M' := [R.own ty_69 F72 v71 u148.2.1, R.own ty_3 F74 v73 u148.2.2.1]) rfl hM151
              refine wl_assign rfl rfl ?_
              refine WL.nil ?_
              refine fun a ha => hK147 _ _ ?_ a ha
              refine W.seq fun K154 hK154 => ?_
              refine W.region ?_
              refine wl_assign rfl rfl ?_
              refine WL.nil ?_
              refine fun a ha => hK154 _ _ ?_ a ha
              refine W.seq fun K155 hK155 => ?_
              refine W.region ?_
              refine wl_load_blk (i := 6) (vs := [v71, v73, (.int .i64 u70.1.2.2.1), (.int .i64 u70.1.2.2.2)]) (v := (.agg #[v71, v73, (.int .i64 u70.1.2.2.1), (.int .i64 u70.1.2.2.2)])) tf_31 rfl rfl hS153 rfl rfl rfl ?_
              refine wl_move rfl rfl ?_
              obtain ⟨u156, hu156, hF⟩ := bindE hF
              refine wl_call rfl Try.call43 (C_laws_heldShow w149 (u148.2.1, u148.2.2.1, u70.1.2.2.1, u70.1.2.2.2) v71 (hS153.own_ro (i := 0) rfl) v73 (hS153.own_ro (i := 1) rfl) 1 _ hu156) rfl ?_
              rintro _ w157 ⟨rfl, hb158⟩
              refine ⟨_, rfl, ?_⟩
              have hB159 := hB152.trans (hb158.mono hB152.size)
              have hS160 := hS153.below hb158
              refine wl_assign rfl rfl ?_
              refine WL.nil ?_
              refine fun a ha => hK155 _ _ ?_ a ha
              refine W.seq fun K162 hK162 => ?_
              refine W.seq fun K163 hK163 => ?_
              refine W.region ?_
              refine wl_move rfl rfl ?_
              refine wl_lss rfl rfl rfl ?_
              refine WL.nil ?_
              refine fun a ha => hK163 _ _ ?_ a ha
              refine W.cond rfl (fun h164 => ?_) (fun h164 => ?_)
              · replace hF := ifP h164 hF
                refine W.seq fun K165 hK165 => ?_
                refine W.region ?_
                refine wl_assign rfl rfl ?_
                refine WL.nil ?_
                refine fun a ha => hK165 _ _ ?_ a ha
                refine W.ret ?_
                have hr := Option.some.inj hF
                subst hr
                exact rets (vs := [(.bool false)]) hQ rfl ⟨rv_tmp rfl, trivial⟩ ⟨rfl, hB159⟩
              · replace hF := ifN h164 hF
                refine W.skip ?_
                refine fun a ha => hK162 _ _ ?_ a ha
                refine W.seq fun K166 hK166 => ?_
                refine W.seq fun K167 hK167 => ?_
                refine W.region ?_
                refine wl_move rfl rfl ?_
                refine wl_move rfl rfl ?_
                refine wl_neq rfl rfl rfl ?_
                refine WL.nil ?_
                refine fun a ha => hK167 _ _ ?_ a ha
                refine W.cond rfl (fun h168 => ?_) (fun h168 => ?_)
                · replace hF := ifP h168 hF
                  refine W.seq fun K169 hK169 => ?_
                  refine W.region ?_
                  refine wl_assign rfl rfl ?_
                  refine WL.nil ?_
                  refine fun a ha => hK169 _ _ ?_ a ha
                  refine W.ret ?_
                  have hr := Option.some.inj hF
                  subst hr
                  exact rets (vs := [(.bool false)]) hQ rfl ⟨rv_tmp rfl, trivial⟩ ⟨rfl, hB159⟩
                · replace hF := ifN h168 hF
                  refine W.skip ?_
                  refine fun a ha => hK166 _ _ ?_ a ha
                  refine W.seq fun K170 hK170 => ?_
                  refine W.region ?_
                  refine wl_load_blk (i := 2) (vs := [v0_0, v0_1, (.int .i64 x0.2.2.1), (.int .i64 x0.2.2.2)]) (v := (.agg #[v0_0, v0_1, (.int .i64 x0.2.2.1), (.int .i64 x0.2.2.2)])) tf_25 rfl rfl hS160 rfl rfl rfl ?_
                  obtain ⟨u171, hu171, hF⟩ := bindE hF
                  refine wl_call rfl Try.call17 (C_laws_toShow w157 x0 v0_0 (h0_0.ro hB159) v0_1 (h0_1.ro hB159) _ hu171) rfl ?_
                  rintro _ w176 ⟨v172, F173, v174, F175, rfl, hb177, hM180⟩
                  refine ⟨_, rfl, ?_⟩
                  have hB178 := hB159.trans (hb177.mono hB159.size)
                  have hS179 := hS160.join hb177 hM180 hB159.size
                  obtain ⟨u181, hu181, hF⟩ := bindE hF
                  refine wl_call rfl Try.call42 (C_impl_ReverseShow w176 u171 v172 (hS179.own_ro (i := 0) rfl) v174 (hS179.own_ro (i := 1) rfl) _ hu181) rfl ?_
                  rintro _ w186 ⟨v182, F183, v184, F185, rfl, hb187, hM190⟩
                  refine ⟨_, rfl, ?_⟩
                  have hB188 := hB178.trans (hb187.mono hB178.size)
                  have hS189 := hS179.join hb187 hM190 hB178.size
                  refine wl_move rfl rfl ?_
                  refine wl_extract rfl rfl rfl ?_
                  refine wl_extract rfl rfl rfl ?_
                  refine wl_alloc (cs := [(.slice none 0 0), (.slice none 0 0), (.int .i64 0), (.int .i64 0)]) tf_31 rfl rfl hB188 hS189 ?_
                  intro b191 w192 hb193 hB194 hS195
                  refine wl_store_blk (i := 0) (vs := [v182, v184, (.int .i64 u181.1.2.2.1), (.int .i64 u181.1.2.2.2)]) (cs' := [v182, v184, (.int .i64 u181.1.2.2.1), (.int .i64 u181.1.2.2.2)]) tf_31 rfl rfl rfl rfl hB194 hS195 rfl rfl ⟨(hS195.own_ro (i := 1) rfl).one, (hS195.own_ro (i := 2) rfl).one, rfl, rfl, trivial⟩ rfl ?_
                  intro w196 hk199 hB197 hS198
                  refine wl_assign rfl rfl ?_
                  refine WL.nil ?_
                  refine fun a ha => hK170 _ _ ?_ a ha
                  refine W.seq fun K200 hK200 => ?_
                  refine W.seq fun K201 hK201 => ?_
                  obtain ⟨k206, hk206, hF⟩ := jE1 hF
                  have hJ207 : ∀ (y205 : Bool) (w202 : World) (_ : k206 y205 = some r) (_ : Below w0.heap.size w0 w202) (_ : Sep w0.heap.size w202 [R.own ty_69 F72 v71 u148.2.1, R.own ty_3 F74 v73 u148.2.2.1, R.blk b80 31 [v71, v73, (.int .i64 u70.1.2.2.1), (.int .i64 u70.1.2.2.2)]]), ∀ a, St 96 [(7, (.pointer (some ⟨b80, 0, none⟩))), (10, (.int .i64 u148.1)), (87, (.bool y205))] a → K201 a w202 := by
                    intro y205 w202 hF hB203 hS204
                    subst hk206
                    refine fun a ha => hK201 _ _ ?_ a ha
                    refine W.cond rfl (fun h208 => ?_) (fun h208 => ?_)
                    · replace hF := ifP h208 hF
                      refine W.seq fun K209 hK209 => ?_
                      refine W.region ?_
                      refine wl_assign rfl rfl ?_
                      refine WL.nil ?_
                      refine fun a ha => hK209 _ _ ?_ a ha
                      refine W.ret ?_
                      have hr := Option.some.inj hF
                      subst hr
                      exact rets (vs := [(.bool false)]) hQ rfl ⟨rv_tmp rfl, trivial⟩ ⟨rfl, hB203⟩
                    · replace hF := ifN h208 hF
                      refine W.skip ?_
                      refine fun a ha => hK200 _ _ ?_ a ha
                      refine W.seq fun K210 hK210 => ?_
                      refine W.region ?_
                      refine wl_assign rfl rfl ?_
                      refine WL.nil ?_
                      refine fun a ha => hK210 _ _ ?_ a ha
                      refine W.seq fun K211 hK211 => ?_
                      refine W.region ?_
                      refine wl_load_blk (i := 2) (vs := [v71, v73, (.int .i64 u70.1.2.2.1), (.int .i64 u70.1.2.2.2)]) (v := (.agg #[v71, v73, (.int .i64 u70.1.2.2.1), (.int .i64 u70.1.2.2.2)])) tf_31 rfl rfl hS204 rfl rfl rfl ?_
                      refine wl_move rfl rfl ?_
                      obtain ⟨u212, hu212, hF⟩ := bindE hF
                      refine wl_call rfl Try.call43 (C_laws_heldShow w202 (u148.2.1, u148.2.2.1, u70.1.2.2.1, u70.1.2.2.2) v71 (hS204.own_ro (i := 0) rfl) v73 (hS204.own_ro (i := 1) rfl) 1 _ hu212) rfl ?_
                      rintro _ w213 ⟨rfl, hb214⟩
                      refine ⟨_, rfl, ?_⟩
                      have hB215 := hB203.trans (hb214.mono hB203.size)
                      have hS216 := hS204.below hb214
                      refine wl_assign rfl rfl ?_
                      refine WL.nil ?_
                      refine fun a ha => hK211 _ _ ?_ a ha
                      refine W.seq fun K218 hK218 => ?_
                      refine W.seq fun K219 hK219 => ?_
                      refine W.region ?_
                      refine wl_move rfl rfl ?_
                      refine wl_lss rfl rfl rfl ?_
                      refine WL.nil ?_
                      refine fun a ha => hK219 _ _ ?_ a ha
                      refine W.cond rfl (fun h220 => ?_) (fun h220 => ?_)
                      · replace hF := ifP h220 hF
                        refine W.seq fun K221 hK221 => ?_
                        refine W.region ?_
                        refine wl_assign rfl rfl ?_
                        refine WL.nil ?_
                        refine fun a ha => hK221 _ _ ?_ a ha
                        refine W.ret ?_
                        have hr := Option.some.inj hF
                        subst hr
                        exact rets (vs := [(.bool false)]) hQ rfl ⟨rv_tmp rfl, trivial⟩ ⟨rfl, hB215⟩
                      · replace hF := ifN h220 hF
                        refine W.skip ?_
                        refine fun a ha => hK218 _ _ ?_ a ha
                        refine W.seq fun K222 hK222 => ?_
                        refine W.seq fun K223 hK223 => ?_
                        refine W.region ?_
                        refine wl_move rfl rfl ?_
                        refine wl_move rfl rfl ?_
                        refine wl_neq rfl rfl rfl ?_
                        refine WL.nil ?_
                        refine fun a ha => hK223 _ _ ?_ a ha
                        refine W.cond rfl (fun h224 => ?_) (fun h224 => ?_)
                        · replace hF := ifP h224 hF
                          refine W.seq fun K225 hK225 => ?_
                          refine W.region ?_
                          refine wl_assign rfl rfl ?_
                          refine WL.nil ?_
                          refine fun a ha => hK225 _ _ ?_ a ha
                          refine W.ret ?_
                          have hr := Option.some.inj hF
                          subst hr
                          exact rets (vs := [(.bool false)]) hQ rfl ⟨rv_tmp rfl, trivial⟩ ⟨rfl, hB215⟩
                        · replace hF := ifN h224 hF
                          refine W.skip ?_
                          refine fun a ha => hK222 _ _ ?_ a ha
                          refine W.seq fun K226 hK226 => ?_
                          refine W.region ?_
                          refine wl_assign rfl rfl ?_
                          refine WL.nil ?_
                          refine fun a ha => hK226 _ _ ?_ a ha
                          refine W.ret ?_
                          have hr := Option.some.inj hF
                          subst hr
                          exact rets (vs := [(.bool true)]) hQ rfl ⟨rv_tmp rfl, trivial⟩ ⟨rfl, hB215⟩
                  refine W.region ?_
                  refine wl_load_blk (i := 0) (vs := [v182, v184, (.int .i64 u181.1.2.2.1), (.int .i64 u181.1.2.2.2)]) (v := (.agg #[v182, v184, (.int .i64 u181.1.2.2.1), (.int .i64 u181.1.2.2.2)])) tf_31 rfl rfl hS198 rfl rfl rfl ?_
                  refine wl_load_blk (i := 10) (vs := [v31, v33, (.int .i64 u30.1.2.2.1), (.int .i64 u30.1.2.2.2)]) (v := (.agg #[v31, v33, (.int .i64 u30.1.2.2.1), (.int .i64 u30.1.2.2.2)])) tf_31 rfl rfl hS198 rfl rfl rfl ?_
                  obtain ⟨u227, hu227, hF⟩ := bindE hF
                  refine wl_call rfl Try.call20 (C_laws_eqShow w196 u181.1 v182 (hS198.own_ro (i := 1) rfl) v184 (hS198.own_ro (i := 2) rfl) u30.1 v31 (hS198.own_ro (i := 8) rfl) v33 (hS198.own_ro (i := 9) rfl) _ hu227) rfl ?_
                  rintro _ w228 ⟨rfl, hb229⟩
                  refine ⟨_, rfl, ?_⟩
                  have hB230 := hB197.trans (hb229.mono hB197.size)
                  have hS231 := hS198.below hb229
                  refine wl_not rfl rfl ?_
                  refine wl_move rfl rfl ?_
                  rcases bE (!u227) with h233 | h233
                  · replace hF := ifP h233 hF
                    refine wl_off rfl rfl rfl h233 ?_
                    refine wl_off rfl rfl rfl h233 ?_
                    refine wl_off rfl rfl rfl h233 ?_
                    refine wl_pick_t rfl rfl h233 rfl ?_
                    refine WL.nil ?_
                    exact fun a ha => hJ207 (true) _ hF hB230 (hS231.sel [5, 6, 11] rfl) a (ha.sub ⟨rfl, rfl, rfl, trivial⟩)
                  · replace hF := ifN h233 hF
                    refine wl_on rfl rfl h233 ?_
                    refine wl_move rfl rfl ?_
                    refine wl_on rfl rfl h233 ?_
                    refine wl_move rfl rfl ?_
                    refine wl_on rfl rfl h233 ?_
                    refine wl_neqb Try.underlying4 rfl rfl rfl ?_
                    refine wl_pick_f rfl rfl h233 rfl ?_
                    refine WL.nil ?_
                    exact fun a ha => hJ207 ((u181.2 != u30.2)) _ hF hB230 (hS231.sel [5, 6, 11] rfl) a (ha.sub ⟨rfl, rfl, rfl, trivial⟩)
          refine W.region ?_
          refine wl_move rfl rfl ?_
          refine wl_lss rfl rfl rfl ?_
          refine wl_move rfl rfl ?_
          rcases bE (decide (u130.1 < 0)) with h234 | h234
          · replace hF := ifP h234 hF
            refine wl_off rfl rfl rfl h234 ?_
            refine wl_off rfl rfl rfl h234 ?_
            refine wl_off rfl rfl rfl h234 ?_
            refine wl_off rfl rfl rfl h234 ?_
            refine wl_pick_t rfl rfl h234 rfl ?_
            refine wl_move rfl rfl ?_
            refine wl_off rfl rfl rfl rfl ?_
            refine wl_off rfl rfl rfl rfl ?_
            refine wl_off rfl rfl rfl rfl ?_
            refine wl_pick_t rfl rfl rfl rfl ?_
            refine WL.nil ?_
            exact fun a ha => hJ143 (true) _ hF hB134 (hS135.sel [4, 5, 6, 7, 9, 10, 11] rfl) a (ha.sub ⟨rfl, rfl, rfl, rfl, rfl, trivial⟩)
          · replace hF := ifN h234 hF
            refine wl_on rfl rfl h234 ?_
            refine wl_load_blk (i := 11) (vs := [v71, v73, (.int .i64 u70.1.2.2.1), (.int .i64 u70.1.2.2.2)]) (v := (.agg #[v71, v73, (.int .i64 u70.1.2.2.1), (.int .i64 u70.1.2.2.2)])) tf_31 rfl rfl hS135 rfl rfl rfl ?_
            refine wl_on rfl rfl h234 ?_
            refine wl_load_blk (i := 7) (vs := [v31, v33, (.int .i64 u30.1.2.2.1), (.int .i64 u30.1.2.2.2)]) (v := (.agg #[v31, v33, (.int .i64 u30.1.2.2.1), (.int .i64 u30.1.2.2.2)])) tf_31 rfl rfl hS135 rfl rfl rfl ?_
            refine wl_on rfl rfl h234 ?_
            obtain ⟨u235, hu235, hF⟩ := bindE hF
            refine wl_call rfl Try.call20 (C_laws_eqShow w131 u70.1 v71 (hS135.own_ro (i := 9) rfl) v73 (hS135.own_ro (i := 10) rfl) u30.1 v31 (hS135.own_ro (i := 5) rfl) v33 (hS135.own_ro (i := 6) rfl) _ hu235) rfl ?_
            rintro _ w236 ⟨rfl, hb237⟩
            refine ⟨_, rfl, ?_⟩
            have hB238 := hB134.trans (hb237.mono hB134.size)
            have hS239 := hS135.below hb237
            refine wl_on rfl rfl h234 ?_
            refine wl_not rfl rfl ?_
            refine wl_pick_f rfl rfl h234 rfl ?_
            refine wl_move rfl rfl ?_
            rcases bE (!u235) with h241 | h241
            · replace hF := ifP h241 hF
              refine wl_off rfl rfl rfl h241 ?_
              refine wl_off rfl rfl rfl h241 ?_
              refine wl_off rfl rfl rfl h241 ?_
              refine wl_pick_t rfl rfl h241 rfl ?_
              refine WL.nil ?_
              exact fun a ha => hJ143 (true) _ hF hB238 (hS239.sel [4, 5, 6, 7, 9, 10, 11] rfl) a (ha.sub ⟨rfl, rfl, rfl, rfl, rfl, trivial⟩)
            · replace hF := ifN h241 hF
              refine wl_on rfl rfl h241 ?_
              refine wl_move rfl rfl ?_
              refine wl_on rfl rfl h241 ?_
              refine wl_move rfl rfl ?_
              refine wl_on rfl rfl h241 ?_
              refine wl_neqb Try.underlying4 rfl rfl rfl ?_
              refine wl_pick_f rfl rfl h241 rfl ?_
              refine WL.nil ?_
              exact fun a ha => hJ143 ((u70.2 != u30.2)) _ hF hB238 (hS239.sel [4, 5, 6, 7, 9, 10, 11] rfl) a (ha.sub ⟨rfl, rfl, rfl, rfl, rfl, trivial⟩)
    refine W.region ?_
    refine wl_load_blk (i := 0) (vs := [v71, v73, (.int .i64 u70.1.2.2.1), (.int .i64 u70.1.2.2.2)]) (v := (.agg #[v71, v73, (.int .i64 u70.1.2.2.1), (.int .i64 u70.1.2.2.2)])) tf_31 rfl rfl hS87 rfl rfl rfl ?_
    refine wl_load_blk (i := 6) (vs := [v31, v33, (.int .i64 u30.1.2.2.1), (.int .i64 u30.1.2.2.2)]) (v := (.agg #[v31, v33, (.int .i64 u30.1.2.2.1), (.int .i64 u30.1.2.2.2)])) tf_31 rfl rfl hS87 rfl rfl rfl ?_
    obtain ⟨u242, hu242, hF⟩ := bindE hF
    refine wl_call rfl Try.call20 (C_laws_eqShow w85 u70.1 v71 (hS87.own_ro (i := 1) rfl) v73 (hS87.own_ro (i := 2) rfl) u30.1 v31 (hS87.own_ro (i := 7) rfl) v33 (hS87.own_ro (i := 8) rfl) _ hu242) rfl ?_
    rintro _ w243 ⟨rfl, hb244⟩
    refine ⟨_, rfl, ?_⟩
    have hB245 := hB86.trans (hb244.mono hB86.size)
    have hS246 := hS87.below hb244
    refine wl_not rfl rfl ?_
    refine wl_move rfl rfl ?_
    rcases bE (!u242) with h248 | h248
    · replace hF := ifP h248 hF
      refine wl_off rfl rfl rfl h248 ?_
      refine wl_off rfl rfl rfl h248 ?_
      refine wl_off rfl rfl rfl h248 ?_
      refine wl_pick_t rfl rfl h248 rfl ?_
      refine WL.nil ?_
      exact fun a ha => hJ96 (true) _ hF hB245 (hS246.sel [11, 7, 8, 6, 4, 5, 3, 1, 2, 0] rfl) a (ha.sub ⟨rfl, rfl, rfl, rfl, rfl, rfl, rfl, trivial⟩)
    · replace hF := ifN h248 hF
      refine wl_on rfl rfl h248 ?_
      refine wl_move rfl rfl ?_
      refine wl_on rfl rfl h248 ?_
      refine wl_move rfl rfl ?_
      refine wl_on rfl rfl h248 ?_
      refine wl_neqb Try.underlying4 rfl rfl rfl ?_
      refine wl_pick_f rfl rfl h248 rfl ?_
      refine WL.nil ?_
      exact fun a ha => hJ96 ((u70.2 != u30.2)) _ hF hB245 (hS246.sel [11, 7, 8, 6, 4, 5, 3, 1, 2, 0] rfl) a (ha.sub ⟨rfl, rfl, rfl, rfl, rfl, rfl, rfl, trivial⟩)
end Go.Proofs.Ytadklddedeoniaa
