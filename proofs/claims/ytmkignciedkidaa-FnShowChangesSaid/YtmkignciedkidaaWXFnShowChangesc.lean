/-
  THE WALKS of functions of this seat, by program (gen.py, prune.py).
-/
import Derived.Test.YtmkignciedkidaaWXFnShowChangesb
set_option linter.unusedSimpArgs false
set_option linter.unusedVariables false
set_option maxRecDepth 100000
set_option maxHeartbeats 1600000
namespace Go.Proofs.Ytmkignciedkidaa
open Go Go.RowKit
theorem C_impl_between (w0 : World) (x0 : ((Int × Int) × (Int × Int) × Int)) (x1 : ((Int × Int) × (Int × Int) × Int)) (r : ((Int × Int) × (Int × Int) × Int × Int)) (hF : F_impl_between x0 x1 = some r) :
    Calls Try.prog 232 [(.agg #[(.int .i64 x0.1.1), (.int .i64 x0.1.2), (.int .i64 x0.2.1.1), (.int .i64 x0.2.1.2), (.int .i64 x0.2.2)]), (.agg #[(.int .i64 x1.1.1), (.int .i64 x1.1.2), (.int .i64 x1.2.1.1), (.int .i64 x1.2.1.2), (.int .i64 x1.2.2)])].toArray w0 fun e w' => e = .returned (.tuple #[(.agg #[(.int .i64 r.1.1), (.int .i64 r.1.2)]), (.agg #[(.int .i64 r.2.1.1), (.int .i64 r.2.1.2)]), (.int .i64 r.2.2.1), (.int .i64 r.2.2.2)]) ∧ Below w0.heap.size w0 w' := by
  refine calls_mk' Try.func232 rfl Try.ntmps232 rfl rfl fun Q hQ hP => ?_
  have hB : Below w0.heap.size w0 w0 := Below.refl _ _
  have hS : Sep w0.heap.size w0 [] := Sep.nil _ _
  unfold F_impl_between at hF
  refine W.seq fun K1 hK1 => ?_
  refine W.region ?_
  refine wl_box (cs := [(.int .i64 x0.1.1), (.int .i64 x0.1.2), (.int .i64 x0.2.1.1), (.int .i64 x0.2.1.2), (.int .i64 x0.2.2)]) rfl rfl rfl hB hS ?_
  intro b2 w3 hb4 hB5 hS6
  refine wl_box (cs := [(.int .i64 x1.1.1), (.int .i64 x1.1.2), (.int .i64 x1.2.1.1), (.int .i64 x1.2.1.2), (.int .i64 x1.2.2)]) rfl rfl rfl hB5 hS6 ?_
  intro b7 w8 hb9 hB10 hS11
  refine wl_alloc (cs := [(.int .i64 0), (.int .i64 0)]) tf_68 rfl rfl hB10 hS11 ?_
  intro b12 w13 hb14 hB15 hS16
  refine wl_alloc (cs := [(.int .i64 0), (.int .i64 0)]) tf_68 rfl rfl hB15 hS16 ?_
  intro b17 w18 hb19 hB20 hS21
  refine wl_assign rfl rfl ?_
  refine wl_assign rfl rfl ?_
  refine WL.nil ?_
  refine fun a ha => hK1 _ _ ?_ a ha
  refine W.seq fun K22 hK22 => ?_
  refine W.region ?_
  refine wl_field (o := 0) (off' := 0) ff_70_0 rfl rfl rfl ?_
  refine wl_field (o := 0) (off' := 0) ff_68_0 rfl rfl rfl ?_
  refine wl_load_blk (i := 3) (vs := [(.int .i64 x0.1.1)]) (v := (.int .i64 x0.1.1)) tf_3 rfl rfl hS21 rfl rfl rfl ?_
  refine wl_field (o := 0) (off' := 0) ff_70_0 rfl rfl rfl ?_
  refine wl_field (o := 0) (off' := 0) ff_68_0 rfl rfl rfl ?_
  refine wl_load_blk (i := 2) (vs := [(.int .i64 x1.1.1)]) (v := (.int .i64 x1.1.1)) tf_3 rfl rfl hS21 rfl rfl rfl ?_
  refine wl_sub rfl rfl rfl ?_
  refine wl_field (o := 0) (off' := 0) ff_70_0 rfl rfl rfl ?_
  refine wl_field (o := 1) (off' := 1) ff_68_1 rfl rfl rfl ?_
  refine wl_load_blk (i := 3) (vs := [(.int .i64 x0.1.2)]) (v := (.int .i64 x0.1.2)) tf_3 rfl rfl hS21 rfl rfl rfl ?_
  refine wl_field (o := 0) (off' := 0) ff_70_0 rfl rfl rfl ?_
  refine wl_field (o := 1) (off' := 1) ff_68_1 rfl rfl rfl ?_
  refine wl_load_blk (i := 2) (vs := [(.int .i64 x1.1.2)]) (v := (.int .i64 x1.1.2)) tf_3 rfl rfl hS21 rfl rfl rfl ?_
  refine wl_sub rfl rfl rfl ?_
  refine wl_build (zs := [(.int .i64 0), (.int .i64 0)]) (out := [(.int .i64 (w64 (x0.1.1 - x1.1.1))), (.int .i64 (w64 (x0.1.2 - x1.1.2)))]) (vs := [(.int .i64 (w64 (x0.1.1 - x1.1.1))), (.int .i64 (w64 (x0.1.2 - x1.1.2)))]) (css := [[(.int .i64 (w64 (x0.1.1 - x1.1.1)))], [(.int .i64 (w64 (x0.1.2 - x1.1.2)))]]) tf_68 pl_68 rfl rfl rfl rfl rfl ?_
  refine wl_alloc (cs := [(.int .i64 0), (.int .i64 0)]) tf_68 rfl rfl hB20 hS21 ?_
  intro b23 w24 hb25 hB26 hS27
  refine wl_store_blk (i := 0) (vs := [(.int .i64 (w64 (x0.1.1 - x1.1.1))), (.int .i64 (w64 (x0.1.2 - x1.1.2)))]) (cs' := [(.int .i64 (w64 (x0.1.1 - x1.1.1))), (.int .i64 (w64 (x0.1.2 - x1.1.2)))]) tf_68 rfl rfl rfl rfl hB26 hS27 rfl rfl ⟨rfl, rfl, trivial⟩ rfl ?_
  intro w28 hk31 hB29 hS30
  refine WL.nil ?_
  refine fun a ha => hK22 _ _ ?_ a ha
  refine W.seq fun K32 hK32 => ?_
  refine W.region ?_
  refine wl_field (o := 2) (off' := 2) ff_70_1 rfl rfl rfl ?_
  refine wl_field (o := 0) (off' := 2) ff_68_0 rfl rfl rfl ?_
  refine wl_load_blk (i := 4) (vs := [(.int .i64 x0.2.1.1)]) (v := (.int .i64 x0.2.1.1)) tf_3 rfl rfl hS30 rfl rfl rfl ?_
  refine wl_field (o := 2) (off' := 2) ff_70_1 rfl rfl rfl ?_
  refine wl_field (o := 0) (off' := 2) ff_68_0 rfl rfl rfl ?_
  refine wl_load_blk (i := 3) (vs := [(.int .i64 x1.2.1.1)]) (v := (.int .i64 x1.2.1.1)) tf_3 rfl rfl hS30 rfl rfl rfl ?_
  refine wl_sub rfl rfl rfl ?_
  refine wl_field (o := 0) (off' := 0) ff_68_0 rfl rfl rfl ?_
  refine wl_load_blk (i := 0) (vs := [(.int .i64 (w64 (x0.1.1 - x1.1.1)))]) (v := (.int .i64 (w64 (x0.1.1 - x1.1.1)))) tf_3 rfl rfl hS30 rfl rfl rfl ?_
  refine wl_sub rfl rfl rfl ?_
  refine wl_field (o := 2) (off' := 2) ff_70_1 rfl rfl rfl ?_
  refine wl_field (o := 1) (off' := 3) ff_68_1 rfl rfl rfl ?_
  refine wl_load_blk (i := 4) (vs := [(.int .i64 x0.2.1.2)]) (v := (.int .i64 x0.2.1.2)) tf_3 rfl rfl hS30 rfl rfl rfl ?_
  refine wl_field (o := 2) (off' := 2) ff_70_1 rfl rfl rfl ?_
  refine wl_field (o := 1) (off' := 3) ff_68_1 rfl rfl rfl ?_
  refine wl_load_blk (i := 3) (vs := [(.int .i64 x1.2.1.2)]) (v := (.int .i64 x1.2.1.2)) tf_3 rfl rfl hS30 rfl rfl rfl ?_
  refine wl_sub rfl rfl rfl ?_
  refine wl_field (o := 1) (off' := 1) ff_68_1 rfl rfl rfl ?_
  refine wl_load_blk (i := 0) (vs := [(.int .i64 (w64 (x0.1.2 - x1.1.2)))]) (v := (.int .i64 (w64 (x0.1.2 - x1.1.2)))) tf_3 rfl rfl hS30 rfl rfl rfl ?_
  refine wl_sub rfl rfl rfl ?_
  refine wl_build (zs := [(.int .i64 0), (.int .i64 0)]) (out := [(.int .i64 (w64 ((w64 (x0.2.1.1 - x1.2.1.1)) - (w64 (x0.1.1 - x1.1.1))))), (.int .i64 (w64 ((w64 (x0.2.1.2 - x1.2.1.2)) - (w64 (x0.1.2 - x1.1.2)))))]) (vs := [(.int .i64 (w64 ((w64 (x0.2.1.1 - x1.2.1.1)) - (w64 (x0.1.1 - x1.1.1))))), (.int .i64 (w64 ((w64 (x0.2.1.2 - x1.2.1.2)) - (w64 (x0.1.2 - x1.1.2)))))]) (css := [[(.int .i64 (w64 ((w64 (x0.2.1.1 - x1.2.1.1)) - (w64 (x0.1.1 - x1.1.1)))))], [(.int .i64 (w64 ((w64 (x0.2.1.2 - x1.2.1.2)) - (w64 (x0.1.2 - x1.1.2)))))]]) tf_68 pl_68 rfl rfl rfl rfl rfl ?_
  refine wl_alloc (cs := [(.int .i64 0), (.int .i64 0)]) tf_68 rfl rfl hB29 hS30 ?_
  intro b33 w34 hb35 hB36 hS37
  refine wl_store_blk (i := 0) (vs := [(.int .i64 (w64 ((w64 (x0.2.1.1 - x1.2.1.1)) - (w64 (x0.1.1 - x1.1.1))))), (.int .i64 (w64 ((w64 (x0.2.1.2 - x1.2.1.2)) - (w64 (x0.1.2 - x1.1.2)))))]) (cs' := [(.int .i64 (w64 ((w64 (x0.2.1.1 - x1.2.1.1)) - (w64 (x0.1.1 - x1.1.1))))), (.int .i64 (w64 ((w64 (x0.2.1.2 - x1.2.1.2)) - (w64 (x0.1.2 - x1.1.2)))))]) tf_68 rfl rfl rfl rfl hB36 hS37 rfl rfl ⟨rfl, rfl, trivial⟩ rfl ?_
  intro w38 hk41 hB39 hS40
  refine WL.nil ?_
  refine fun a ha => hK32 _ _ ?_ a ha
  refine W.seq fun K42 hK42 => ?_
  refine W.regionH mixed_ ([b17] ++ [b12]) hB39 hS40 ?_
  intro w43 hb44 hB45 hS46
  have hSW47 := KeepX.refl w43 ([b17] ++ [b12])
  refine WH.takex (i := 0) rfl (by kernel_rfl) (by kernel_rfl) (by kernel_rfl) hP hSW47 ?_
  refine pr_load_blk (i := 1) (vs := [(.int .i64 (w64 (x0.1.1 - x1.1.1))), (.int .i64 (w64 (x0.1.2 - x1.1.2)))]) (v := (.agg #[(.int .i64 (w64 (x0.1.1 - x1.1.1))), (.int .i64 (w64 (x0.1.2 - x1.1.2)))])) tf_68 rfl rfl hS46 rfl rfl rfl (fun hb => (List.mem_append.1 hb).elim (hS46.disj (i := 1) (j := 2) rfl rfl rfl b23 (by simp [R.blk])) (hS46.disj (i := 1) (j := 3) rfl rfl rfl b23 (by simp [R.blk]))) ?_
  refine WH.takex (i := 1) rfl (by kernel_rfl) (by kernel_rfl) (by kernel_rfl) hP hSW47 ?_
  refine pr_load_blk (i := 0) (vs := [(.int .i64 (w64 ((w64 (x0.2.1.1 - x1.2.1.1)) - (w64 (x0.1.1 - x1.1.1))))), (.int .i64 (w64 ((w64 (x0.2.1.2 - x1.2.1.2)) - (w64 (x0.1.2 - x1.1.2)))))]) (v := (.agg #[(.int .i64 (w64 ((w64 (x0.2.1.1 - x1.2.1.1)) - (w64 (x0.1.1 - x1.1.1))))), (.int .i64 (w64 ((w64 (x0.2.1.2 - x1.2.1.2)) - (w64 (x0.1.2 - x1.1.2)))))])) tf_68 rfl rfl hS46 rfl rfl rfl (fun hb => (List.mem_append.1 hb).elim (hS46.disj (i := 0) (j := 2) rfl rfl rfl b33 (by simp [R.blk])) (hS46.disj (i := 0) (j := 3) rfl rfl rfl b33 (by simp [R.blk]))) ?_
  refine WH.takex (i := 2) rfl (by kernel_rfl) (by kernel_rfl) (by kernel_rfl) hP hSW47 ?_
  refine pr_field (o := 0) (off' := 0) ff_68_0 rfl rfl rfl ?_
  refine WH.takex (i := 3) rfl (by kernel_rfl) (by kernel_rfl) (by kernel_rfl) hP hSW47 ?_
  refine pr_load_blk (i := 1) (vs := [(.int .i64 (w64 (x0.1.1 - x1.1.1)))]) (v := (.int .i64 (w64 (x0.1.1 - x1.1.1)))) tf_3 rfl rfl hS46 rfl rfl rfl (fun hb => (List.mem_append.1 hb).elim (hS46.disj (i := 1) (j := 2) rfl rfl rfl b23 (by simp [R.blk])) (hS46.disj (i := 1) (j := 3) rfl rfl rfl b23 (by simp [R.blk]))) ?_
  refine WH.takex (i := 4) rfl (by kernel_rfl) (by kernel_rfl) (by kernel_rfl) hP hSW47 ?_
  refine pr_field (o := 0) (off' := 0) ff_68_0 rfl rfl rfl ?_
  refine WH.takex (i := 5) rfl (by kernel_rfl) (by kernel_rfl) (by kernel_rfl) hP hSW47 ?_
  refine pr_load_blk (i := 0) (vs := [(.int .i64 (w64 ((w64 (x0.2.1.1 - x1.2.1.1)) - (w64 (x0.1.1 - x1.1.1)))))]) (v := (.int .i64 (w64 ((w64 (x0.2.1.1 - x1.2.1.1)) - (w64 (x0.1.1 - x1.1.1)))))) tf_3 rfl rfl hS46 rfl rfl rfl (fun hb => (List.mem_append.1 hb).elim (hS46.disj (i := 0) (j := 2) rfl rfl rfl b33 (by simp [R.blk])) (hS46.disj (i := 0) (j := 3) rfl rfl rfl b33 (by simp [R.blk]))) ?_
  refine WH.takex (i := 6) rfl (by kernel_rfl) (by kernel_rfl) (by kernel_rfl) hP hSW47 ?_
  refine pr_mul rfl rfl rfl ?_
  refine WH.takex (i := 7) rfl (by kernel_rfl) (by kernel_rfl) (by kernel_rfl) hP hSW47 ?_
  refine pr_field (o := 1) (off' := 1) ff_68_1 rfl rfl rfl ?_
  refine WH.takex (i := 8) rfl (by kernel_rfl) (by kernel_rfl) (by kernel_rfl) hP hSW47 ?_
  refine pr_load_blk (i := 1) (vs := [(.int .i64 (w64 (x0.1.2 - x1.1.2)))]) (v := (.int .i64 (w64 (x0.1.2 - x1.1.2)))) tf_3 rfl rfl hS46 rfl rfl rfl (fun hb => (List.mem_append.1 hb).elim (hS46.disj (i := 1) (j := 2) rfl rfl rfl b23 (by simp [R.blk])) (hS46.disj (i := 1) (j := 3) rfl rfl rfl b23 (by simp [R.blk]))) ?_
  refine WH.takex (i := 9) rfl (by kernel_rfl) (by kernel_rfl) (by kernel_rfl) hP hSW47 ?_
  refine pr_field (o := 1) (off' := 1) ff_68_1 rfl rfl rfl ?_
  refine WH.takex (i := 10) rfl (by kernel_rfl) (by kernel_rfl) (by kernel_rfl) hP hSW47 ?_
  refine pr_load_blk (i := 0) (vs := [(.int .i64 (w64 ((w64 (x0.2.1.2 - x1.2.1.2)) - (w64 (x0.1.2 - x1.1.2)))))]) (v := (.int .i64 (w64 ((w64 (x0.2.1.2 - x1.2.1.2)) - (w64 (x0.1.2 - x1.1.2)))))) tf_3 rfl rfl hS46 rfl rfl rfl (fun hb => (List.mem_append.1 hb).elim (hS46.disj (i := 0) (j := 2) rfl rfl rfl b33 (by simp [R.blk])) (hS46.disj (i := 0) (j := 3) rfl rfl rfl b33 (by simp [R.blk]))) ?_
  refine WH.takex (i := 11) rfl (by kernel_rfl) (by kernel_rfl) (by kernel_rfl) hP hSW47 ?_
  refine pr_mul rfl rfl rfl ?_
  refine WH.takex (i := 12) rfl (by kernel_rfl) (by kernel_rfl) (by kernel_rfl) hP hSW47 ?_
  refine pr_add rfl rfl rfl ?_
  refine WH.takex (i := 13) rfl (by kernel_rfl) (by kernel_rfl) (by kernel_rfl) hP hSW47 ?_
  refine pr_field (o := 0) (off' := 0) ff_68_0 rfl rfl rfl ?_
  refine WH.takex (i := 14) rfl (by kernel_rfl) (by kernel_rfl) (by kernel_rfl) hP hSW47 ?_
  refine pr_load_blk (i := 0) (vs := [(.int .i64 (w64 ((w64 (x0.2.1.1 - x1.2.1.1)) - (w64 (x0.1.1 - x1.1.1)))))]) (v := (.int .i64 (w64 ((w64 (x0.2.1.1 - x1.2.1.1)) - (w64 (x0.1.1 - x1.1.1)))))) tf_3 rfl rfl hS46 rfl rfl rfl (fun hb => (List.mem_append.1 hb).elim (hS46.disj (i := 0) (j := 2) rfl rfl rfl b33 (by simp [R.blk])) (hS46.disj (i := 0) (j := 3) rfl rfl rfl b33 (by simp [R.blk]))) ?_
  refine WH.takex (i := 15) rfl (by kernel_rfl) (by kernel_rfl) (by kernel_rfl) hP hSW47 ?_
  refine pr_field (o := 0) (off' := 0) ff_68_0 rfl rfl rfl ?_
  refine WH.takex (i := 16) rfl (by kernel_rfl) (by kernel_rfl) (by kernel_rfl) hP hSW47 ?_
  refine pr_load_blk (i := 0) (vs := [(.int .i64 (w64 ((w64 (x0.2.1.1 - x1.2.1.1)) - (w64 (x0.1.1 - x1.1.1)))))]) (v := (.int .i64 (w64 ((w64 (x0.2.1.1 - x1.2.1.1)) - (w64 (x0.1.1 - x1.1.1)))))) tf_3 rfl rfl hS46 rfl rfl rfl (fun hb => (List.mem_append.1 hb).elim (hS46.disj (i := 0) (j := 2) rfl rfl rfl b33 (by simp [R.blk])) (hS46.disj (i := 0) (j := 3) rfl rfl rfl b33 (by simp [R.blk]))) ?_
  refine WH.takex (i := 17) rfl (by kernel_rfl) (by kernel_rfl) (by kernel_rfl) hP hSW47 ?_
  refine pr_mul rfl rfl rfl ?_
  refine WH.takex (i := 18) rfl (by kernel_rfl) (by kernel_rfl) (by kernel_rfl) hP hSW47 ?_
  refine pr_field (o := 1) (off' := 1) ff_68_1 rfl rfl rfl ?_
  refine WH.takex (i := 19) rfl (by kernel_rfl) (by kernel_rfl) (by kernel_rfl) hP hSW47 ?_
  refine pr_load_blk (i := 0) (vs := [(.int .i64 (w64 ((w64 (x0.2.1.2 - x1.2.1.2)) - (w64 (x0.1.2 - x1.1.2)))))]) (v := (.int .i64 (w64 ((w64 (x0.2.1.2 - x1.2.1.2)) - (w64 (x0.1.2 - x1.1.2)))))) tf_3 rfl rfl hS46 rfl rfl rfl (fun hb => (List.mem_append.1 hb).elim (hS46.disj (i := 0) (j := 2) rfl rfl rfl b33 (by simp [R.blk])) (hS46.disj (i := 0) (j := 3) rfl rfl rfl b33 (by simp [R.blk]))) ?_
  refine WH.takex (i := 20) rfl (by kernel_rfl) (by kernel_rfl) (by kernel_rfl) hP hSW47 ?_
  refine pr_field (o := 1) (off' := 1) ff_68_1 rfl rfl rfl ?_
  refine WH.takex (i := 21) rfl (by kernel_rfl) (by kernel_rfl) (by kernel_rfl) hP hSW47 ?_
  refine pr_load_blk (i := 0) (vs := [(.int .i64 (w64 ((w64 (x0.2.1.2 - x1.2.1.2)) - (w64 (x0.1.2 - x1.1.2)))))]) (v := (.int .i64 (w64 ((w64 (x0.2.1.2 - x1.2.1.2)) - (w64 (x0.1.2 - x1.1.2)))))) tf_3 rfl rfl hS46 rfl rfl rfl (fun hb => (List.mem_append.1 hb).elim (hS46.disj (i := 0) (j := 2) rfl rfl rfl b33 (by simp [R.blk])) (hS46.disj (i := 0) (j := 3) rfl rfl rfl b33 (by simp [R.blk]))) ?_
  refine WH.takex (i := 22) rfl (by kernel_rfl) (by kernel_rfl) (by kernel_rfl) hP hSW47 ?_
  refine pr_mul rfl rfl rfl ?_
  refine WH.takex (i := 23) rfl (by kernel_rfl) (by kernel_rfl) (by kernel_rfl) hP hSW47 ?_
  refine pr_add rfl rfl rfl ?_
  refine WH.one (i := 24) (by kernel_rfl) rfl ?_
  refine wl_store_blk (i := 3) (vs := [(.int .i64 (w64 (x0.1.1 - x1.1.1))), (.int .i64 (w64 (x0.1.2 - x1.1.2)))]) (cs' := [(.int .i64 (w64 (x0.1.1 - x1.1.1))), (.int .i64 (w64 (x0.1.2 - x1.1.2)))]) tf_68 rfl rfl rfl rfl hB45 hS46 rfl rfl ⟨rfl, rfl, trivial⟩ rfl ?_
  intro w48 hk51 hB49 hS50
  have hSW52 := hSW47.wr' hk51.1 hk51.2.1 (fun _ _ h => List.mem_append_right _ h)
  have hbs53 : ∀ b, b < w43.heap.size → b ∈ [b12] → b ∈ ([b17] ++ [b12]) := fun b hlt hb => (hk51.2.2 b hb).elim ((fun _ _ h => List.mem_append_right _ h) b hlt) (fun h => absurd hlt (Nat.not_lt.2 (Nat.le_trans hSW47.size h)))
  refine WL.nil (WH.ret hSW52 ?_)
  refine WH.one (i := 25) (by kernel_rfl) rfl ?_
  refine wl_store_blk (i := 2) (vs := [(.int .i64 (w64 ((w64 (x0.2.1.1 - x1.2.1.1)) - (w64 (x0.1.1 - x1.1.1))))), (.int .i64 (w64 ((w64 (x0.2.1.2 - x1.2.1.2)) - (w64 (x0.1.2 - x1.1.2)))))]) (cs' := [(.int .i64 (w64 ((w64 (x0.2.1.1 - x1.2.1.1)) - (w64 (x0.1.1 - x1.1.1))))), (.int .i64 (w64 ((w64 (x0.2.1.2 - x1.2.1.2)) - (w64 (x0.1.2 - x1.1.2)))))]) tf_68 rfl rfl rfl rfl hB49 hS50 rfl rfl ⟨rfl, rfl, trivial⟩ rfl ?_
  intro w54 hk57 hB55 hS56
  have hSW58 := hSW52.wr' hk57.1 hk57.2.1 (fun _ _ h => List.mem_append_left _ (h))
  have hbs59 : ∀ b, b < w43.heap.size → b ∈ [b17] → b ∈ ([b17] ++ [b12]) := fun b hlt hb => (hk57.2.2 b hb).elim ((fun _ _ h => List.mem_append_left _ (h)) b hlt) (fun h => absurd hlt (Nat.not_lt.2 (Nat.le_trans hSW52.size h)))
  refine WL.nil (WH.ret hSW58 ?_)
  refine WH.takex (i := 26) rfl (by kernel_rfl) (by kernel_rfl) (by kernel_rfl) hP hSW58 ?_
  refine pr_assign rfl rfl ?_
  refine WH.takex (i := 27) rfl (by kernel_rfl) (by kernel_rfl) (by kernel_rfl) hP hSW58 ?_
  refine pr_assign rfl rfl ?_
  refine WH.done (by kernel_rfl) ?_
  refine fun a ha => hK42 _ _ ?_ a ha
  refine W.ret ?_
  have hr := Option.some.inj hF
  subst hr
  exact rets (vs := [(.agg #[(.int .i64 (w64 (x0.1.1 - x1.1.1))), (.int .i64 (w64 (x0.1.2 - x1.1.2)))]), (.agg #[(.int .i64 (w64 ((w64 (x0.2.1.1 - x1.2.1.1)) - (w64 (x0.1.1 - x1.1.1))))), (.int .i64 (w64 ((w64 (x0.2.1.2 - x1.2.1.2)) - (w64 (x0.1.2 - x1.1.2)))))]), (.int .i64 (w64 ((w64 ((w64 (x0.1.1 - x1.1.1)) * (w64 ((w64 (x0.2.1.1 - x1.2.1.1)) - (w64 (x0.1.1 - x1.1.1)))))) + (w64 ((w64 (x0.1.2 - x1.1.2)) * (w64 ((w64 (x0.2.1.2 - x1.2.1.2)) - (w64 (x0.1.2 - x1.1.2))))))))), (.int .i64 (w64 ((w64 ((w64 ((w64 (x0.2.1.1 - x1.2.1.1)) - (w64 (x0.1.1 - x1.1.1)))) * (w64 ((w64 (x0.2.1.1 - x1.2.1.1)) - (w64 (x0.1.1 - x1.1.1)))))) + (w64 ((w64 ((w64 (x0.2.1.2 - x1.2.1.2)) - (w64 (x0.1.2 - x1.1.2)))) * (w64 ((w64 (x0.2.1.2 - x1.2.1.2)) - (w64 (x0.1.2 - x1.1.2)))))))))]) hQ rfl ⟨rv_cell (i := 3) tf_68 rfl hS56 rfl rfl rfl, rv_cell (i := 2) tf_68 rfl hS56 rfl rfl rfl, rv_tmp rfl, rv_tmp rfl, trivial⟩ ⟨rfl, hB55⟩
theorem C_impl_gcdOf (w0 : World) (x0 : Int) (x1 : Int) (r : Int) (hF : F_impl_gcdOf x0 x1 = some r) :
    Calls Try.prog 259 [(.int .i64 x0), (.int .i64 x1)].toArray w0 fun e w' => e = .returned (.int .i64 r) ∧ Below w0.heap.size w0 w' := by
  refine calls_mk' Try.func259 rfl Try.ntmps259 rfl rfl fun Q hQ hP => ?_
  have hB : Below w0.heap.size w0 w0 := Below.refl _ _
  have hS : Sep w0.heap.size w0 [] := Sep.nil _ _
  unfold F_impl_gcdOf at hF
  refine W.seq fun K1 hK1 => ?_
  refine W.region ?_
  refine wl_assign rfl rfl ?_
  refine WL.nil ?_
  refine fun a ha => hK1 _ _ ?_ a ha
  refine W.seq fun K2 hK2 => ?_
  refine W.region ?_
  refine wl_move rfl rfl ?_
  refine wl_move rfl rfl ?_
  refine wl_neg rfl rfl ?_
  refine wl_max rfl rfl rfl ?_
  refine wl_move rfl rfl ?_
  refine wl_move rfl rfl ?_
  refine wl_neg rfl rfl ?_
  refine wl_max rfl rfl rfl ?_
  refine wl_assign rfl rfl ?_
  refine wl_assign rfl rfl ?_
  refine WL.nil ?_
  refine fun a ha => hK2 _ _ ?_ a ha
  refine W.seq fun K3 hK3 => ?_
  refine W.block ?_
  refine W.loopk (fun m a w4 => ∃ (y7 : Int) (y8 : Int), St 20 [(0, (.int .i64 y7)), (1, (.int .i64 y8))] a ∧ Below w0.heap.size w0 w4 ∧ Sep w0.heap.size w4 [] ∧ F_impl_gcdOf_L1 m y7 y8 = some r) FU ?_ ?_
  ·
    exact fun a ha => ⟨(maxI x0 (w64 (0 - x0))), (maxI x1 (w64 (0 - x1))), ha.sub ⟨rfl, rfl, trivial⟩, hB, (hS.sel [] rfl), hF⟩
  ·
    rintro m11 a w4 ⟨y7, y8, ha, hB5, hS6, hF⟩ KL10 hKL10
    refine W.at ?_ ha
    cases m11 with
    | zero => exact noneE hF
    | succ m11 =>
      obtain ⟨nx9, hnx9⟩ : ∃ k, k = F_impl_gcdOf_L1 m11 := ⟨_, rfl⟩
      rw [F_impl_gcdOf_L1, ← hnx9] at hF
      refine W.seq fun K12 hK12 => ?_
      refine W.seq fun K13 hK13 => ?_
      refine W.region ?_
      refine wl_move rfl rfl ?_
      refine wl_neq rfl rfl rfl ?_
      refine WL.nil ?_
      refine fun a ha => hK13 _ _ ?_ a ha
      refine W.cond rfl (fun h14 => ?_) (fun h14 => ?_)
      · replace hF := ifP h14 hF
        refine W.skip ?_
        refine fun a ha => hK12 _ _ ?_ a ha
        refine W.block ?_
        refine W.regionH mixed_ [] hB5 hS6 ?_
        intro w15 hb16 hB17 hS18
        have hSW19 := KeepX.refl w15 []
        refine WH.takex (i := 0) rfl (by kernel_rfl) (by kernel_rfl) (by kernel_rfl) hP hSW19 ?_
        refine pr_move rfl rfl ?_
        refine WH.takex (i := 1) rfl (by kernel_rfl) (by kernel_rfl) (by kernel_rfl) hP hSW19 ?_
        refine pr_move rfl rfl ?_
        refine WH.takex (i := 2) rfl (by kernel_rfl) (by kernel_rfl) (by kernel_rfl) hP hSW19 ?_
        refine pr_move rfl rfl ?_
        have h20 : y8 ≠ 0 := fun h20 => noneE (ifP h20 hF)
        replace hF := ifNP h20 hF
        refine WH.takex (i := 3) rfl (by kernel_rfl) (by kernel_rfl) (by kernel_rfl) hP hSW19 ?_
        refine pr_rem rfl rfl rfl h20 ?_
        refine WH.takex (i := 4) rfl (by kernel_rfl) (by kernel_rfl) (by kernel_rfl) hP hSW19 ?_
        refine pr_assign rfl rfl ?_
        refine WH.takex (i := 5) rfl (by kernel_rfl) (by kernel_rfl) (by kernel_rfl) hP hSW19 ?_
        refine pr_assign rfl rfl ?_
        refine WH.done (by kernel_rfl) ?_
        rw [hnx9] at hF
        exact fun a ha => hKL10 a _ m11 (Nat.lt_succ_self m11) ⟨y8, (Int.tmod y7 y8), ha.sub ⟨rfl, rfl, trivial⟩, hB17, (hS18.sel [] rfl), hF⟩
      · replace hF := ifN h14 hF
        refine W.exit ?_
        refine fun a ha => hK3 _ _ ?_ a ha
        refine W.seq fun K21 hK21 => ?_
        refine W.region ?_
        refine wl_move rfl rfl ?_
        refine wl_assign rfl rfl ?_
        refine WL.nil ?_
        refine fun a ha => hK21 _ _ ?_ a ha
        refine W.ret ?_
        have hr := Option.some.inj hF
        subst hr
        exact rets (vs := [(.int .i64 y7)]) hQ rfl ⟨rv_tmp rfl, trivial⟩ ⟨rfl, hB5⟩
theorem C_impl_lowestTerms (w0 : World) (x0 : Int) (x1 : Int) (r : (Int × Int)) (hF : F_impl_lowestTerms x0 x1 = some r) :
    Calls Try.prog 233 [(.int .i64 x0), (.int .i64 x1)].toArray w0 fun e w' => e = .returned (.tuple #[(.int .i64 r.1), (.int .i64 r.2)]) ∧ Below w0.heap.size w0 w' := by
  refine calls_mk' Try.func233 rfl Try.ntmps233 rfl rfl fun Q hQ hP => ?_
  have hB : Below w0.heap.size w0 w0 := Below.refl _ _
  have hS : Sep w0.heap.size w0 [] := Sep.nil _ _
  unfold F_impl_lowestTerms at hF
  refine W.seq fun K1 hK1 => ?_
  refine W.region ?_
  refine wl_assign rfl rfl ?_
  refine wl_assign rfl rfl ?_
  refine WL.nil ?_
  refine fun a ha => hK1 _ _ ?_ a ha
  refine W.seq fun K2 hK2 => ?_
  refine W.region ?_
  refine wl_move rfl rfl ?_
  refine wl_move rfl rfl ?_
  obtain ⟨u3, hu3, hF⟩ := bindE hF
  refine wl_call rfl Try.call259 (C_impl_gcdOf w0 x0 x1 _ hu3) rfl ?_
  rintro _ w4 ⟨rfl, hb5⟩
  refine ⟨_, rfl, ?_⟩
  have hB6 := hB.trans (hb5.mono hB.size)
  have hS7 := hS.below hb5
  refine wl_assign rfl rfl ?_
  refine WL.nil ?_
  refine fun a ha => hK2 _ _ ?_ a ha
  refine W.seq fun K9 hK9 => ?_
  refine W.regionH mixed_ [] hB6 hS7 ?_
  intro w10 hb11 hB12 hS13
  have hSW14 := KeepX.refl w10 []
  refine WH.takex (i := 0) rfl (by kernel_rfl) (by kernel_rfl) (by kernel_rfl) hP hSW14 ?_
  refine pr_move rfl rfl ?_
  refine WH.takex (i := 1) rfl (by kernel_rfl) (by kernel_rfl) (by kernel_rfl) hP hSW14 ?_
  refine pr_move rfl rfl ?_
  have h15 : u3 ≠ 0 := fun h15 => noneE (ifP h15 hF)
  replace hF := ifNP h15 hF
  refine WH.takex (i := 2) rfl (by kernel_rfl) (by kernel_rfl) (by kernel_rfl) hP hSW14 ?_
  refine pr_quo rfl rfl rfl h15 ?_
  refine WH.takex (i := 3) rfl (by kernel_rfl) (by kernel_rfl) (by kernel_rfl) hP hSW14 ?_
  refine pr_move rfl rfl ?_
  refine WH.takex (i := 4) rfl (by kernel_rfl) (by kernel_rfl) (by kernel_rfl) hP hSW14 ?_
  refine pr_move rfl rfl ?_
  have h16 : u3 ≠ 0 := fun h16 => noneE (ifP h16 hF)
  replace hF := ifNP h16 hF
  refine WH.takex (i := 5) rfl (by kernel_rfl) (by kernel_rfl) (by kernel_rfl) hP hSW14 ?_
  refine pr_quo rfl rfl rfl h16 ?_
  refine WH.takex (i := 6) rfl (by kernel_rfl) (by kernel_rfl) (by kernel_rfl) hP hSW14 ?_
  refine pr_assign rfl rfl ?_
  refine WH.takex (i := 7) rfl (by kernel_rfl) (by kernel_rfl) (by kernel_rfl) hP hSW14 ?_
  refine pr_assign rfl rfl ?_
  refine WH.done (by kernel_rfl) ?_
  refine fun a ha => hK9 _ _ ?_ a ha
  refine W.ret ?_
  have hr := Option.some.inj hF
  subst hr
  exact rets (vs := [(.int .i64 (w64 (Int.tdiv x0 u3))), (.int .i64 (w64 (Int.tdiv x1 u3)))]) hQ rfl ⟨rv_tmp rfl, rv_tmp rfl, trivial⟩ ⟨rfl, hB12⟩
theorem C_impl_leastApart (w0 : World) (x0 : ((Int × Int) × (Int × Int) × Int)) (x1 : ((Int × Int) × (Int × Int) × Int)) (r : (Int × Int)) (hF : F_impl_leastApart x0 x1 = some r) :
    Calls Try.prog 157 [(.agg #[(.int .i64 x0.1.1), (.int .i64 x0.1.2), (.int .i64 x0.2.1.1), (.int .i64 x0.2.1.2), (.int .i64 x0.2.2)]), (.agg #[(.int .i64 x1.1.1), (.int .i64 x1.1.2), (.int .i64 x1.2.1.1), (.int .i64 x1.2.1.2), (.int .i64 x1.2.2)])].toArray w0 fun e w' => e = .returned (.tuple #[(.int .i64 r.1), (.int .i64 r.2)]) ∧ Below w0.heap.size w0 w' := by
  refine calls_mk' Try.func157 rfl Try.ntmps157 rfl rfl fun Q hQ hP => ?_
  have hB : Below w0.heap.size w0 w0 := Below.refl _ _
  have hS : Sep w0.heap.size w0 [] := Sep.nil _ _
  unfold F_impl_leastApart at hF
  refine W.seq fun K1 hK1 => ?_
  refine W.region ?_
  refine wl_box (cs := [(.int .i64 x0.1.1), (.int .i64 x0.1.2), (.int .i64 x0.2.1.1), (.int .i64 x0.2.1.2), (.int .i64 x0.2.2)]) rfl rfl rfl hB hS ?_
  intro b2 w3 hb4 hB5 hS6
  refine wl_box (cs := [(.int .i64 x1.1.1), (.int .i64 x1.1.2), (.int .i64 x1.2.1.1), (.int .i64 x1.2.1.2), (.int .i64 x1.2.2)]) rfl rfl rfl hB5 hS6 ?_
  intro b7 w8 hb9 hB10 hS11
  refine wl_assign rfl rfl ?_
  refine wl_assign rfl rfl ?_
  refine WL.nil ?_
  refine fun a ha => hK1 _ _ ?_ a ha
  refine W.seq fun K12 hK12 => ?_
  refine W.region ?_
  refine wl_load_blk (i := 1) (vs := [(.int .i64 x0.1.1), (.int .i64 x0.1.2), (.int .i64 x0.2.1.1), (.int .i64 x0.2.1.2), (.int .i64 x0.2.2)]) (v := (.agg #[(.int .i64 x0.1.1), (.int .i64 x0.1.2), (.int .i64 x0.2.1.1), (.int .i64 x0.2.1.2), (.int .i64 x0.2.2)])) tf_70 rfl rfl hS11 rfl rfl rfl ?_
  refine wl_load_blk (i := 0) (vs := [(.int .i64 x1.1.1), (.int .i64 x1.1.2), (.int .i64 x1.2.1.1), (.int .i64 x1.2.1.2), (.int .i64 x1.2.2)]) (v := (.agg #[(.int .i64 x1.1.1), (.int .i64 x1.1.2), (.int .i64 x1.2.1.1), (.int .i64 x1.2.1.2), (.int .i64 x1.2.2)])) tf_70 rfl rfl hS11 rfl rfl rfl ?_
  obtain ⟨u13, hu13, hF⟩ := bindE hF
  refine wl_call rfl Try.call232 (C_impl_between w8 x0 x1 _ hu13) rfl ?_
  rintro _ w14 ⟨rfl, hb15⟩
  refine ⟨_, rfl, ?_⟩
  have hB16 := hB10.trans (hb15.mono hB10.size)
  have hS17 := hS11.below hb15
  refine wl_move rfl rfl ?_
  refine wl_extract rfl rfl rfl ?_
  refine wl_extract rfl rfl rfl ?_
  refine wl_extract rfl rfl rfl ?_
  refine wl_extract rfl rfl rfl ?_
  refine wl_alloc (cs := [(.int .i64 0), (.int .i64 0)]) tf_68 rfl rfl hB16 hS17 ?_
  intro b19 w20 hb21 hB22 hS23
  refine wl_alloc (cs := [(.int .i64 0), (.int .i64 0)]) tf_68 rfl rfl hB22 hS23 ?_
  intro b24 w25 hb26 hB27 hS28
  refine wl_store_blk (i := 1) (vs := [(.int .i64 u13.1.1), (.int .i64 u13.1.2)]) (cs' := [(.int .i64 u13.1.1), (.int .i64 u13.1.2)]) tf_68 rfl rfl rfl rfl hB27 hS28 rfl rfl ⟨rfl, rfl, trivial⟩ rfl ?_
  intro w29 hk32 hB30 hS31
  refine wl_store_blk (i := 0) (vs := [(.int .i64 u13.2.1.1), (.int .i64 u13.2.1.2)]) (cs' := [(.int .i64 u13.2.1.1), (.int .i64 u13.2.1.2)]) tf_68 rfl rfl rfl rfl hB30 hS31 rfl rfl ⟨rfl, rfl, trivial⟩ rfl ?_
  intro w33 hk36 hB34 hS35
  refine wl_assign rfl rfl ?_
  refine wl_assign rfl rfl ?_
  refine WL.nil ?_
  refine fun a ha => hK12 _ _ ?_ a ha
  refine W.seq fun K37 hK37 => ?_
  refine W.block ?_
  refine W.seq fun K38 hK38 => ?_
  refine W.region ?_
  refine wl_move rfl rfl ?_
  refine wl_geq rfl rfl rfl ?_
  refine wl_assign rfl rfl ?_
  refine WL.nil ?_
  refine fun a ha => hK38 _ _ ?_ a ha
  refine W.cond rfl (fun h39 => ?_) (fun h39 => ?_)
  · replace hF := ifP h39 hF
    refine W.seq fun K40 hK40 => ?_
    refine W.region ?_
    refine wl_field (o := 0) (off' := 0) ff_68_0 rfl rfl rfl ?_
    refine wl_load_blk (i := 1) (vs := [(.int .i64 u13.1.1)]) (v := (.int .i64 u13.1.1)) tf_3 rfl rfl hS35 rfl rfl rfl ?_
    refine wl_field (o := 0) (off' := 0) ff_68_0 rfl rfl rfl ?_
    refine wl_load_blk (i := 1) (vs := [(.int .i64 u13.1.1)]) (v := (.int .i64 u13.1.1)) tf_3 rfl rfl hS35 rfl rfl rfl ?_
    refine wl_mul rfl rfl rfl ?_
    refine wl_field (o := 1) (off' := 1) ff_68_1 rfl rfl rfl ?_
    refine wl_load_blk (i := 1) (vs := [(.int .i64 u13.1.2)]) (v := (.int .i64 u13.1.2)) tf_3 rfl rfl hS35 rfl rfl rfl ?_
    refine wl_field (o := 1) (off' := 1) ff_68_1 rfl rfl rfl ?_
    refine wl_load_blk (i := 1) (vs := [(.int .i64 u13.1.2)]) (v := (.int .i64 u13.1.2)) tf_3 rfl rfl hS35 rfl rfl rfl ?_
    refine wl_mul rfl rfl rfl ?_
    refine wl_add rfl rfl rfl ?_
    refine wl_assign rfl rfl ?_
    refine wl_assign rfl rfl ?_
    refine WL.nil ?_
    refine fun a ha => hK40 _ _ ?_ a ha
    refine W.ret ?_
    have hr := Option.some.inj hF
    subst hr
    exact rets (vs := [(.int .i64 (w64 ((w64 (u13.1.1 * u13.1.1)) + (w64 (u13.1.2 * u13.1.2))))), (.int .i64 1)]) hQ rfl ⟨rv_tmp rfl, rv_tmp rfl, trivial⟩ ⟨rfl, hB34⟩
  · replace hF := ifN h39 hF
    refine W.seq fun K41 hK41 => ?_
    refine W.region ?_
    refine wl_move rfl rfl ?_
    refine wl_neg rfl rfl ?_
    refine wl_move rfl rfl ?_
    refine wl_geq rfl rfl rfl ?_
    refine wl_assign rfl rfl ?_
    refine WL.nil ?_
    refine fun a ha => hK41 _ _ ?_ a ha
    refine W.cond rfl (fun h42 => ?_) (fun h42 => ?_)
    · replace hF := ifP h42 hF
      refine W.seq fun K43 hK43 => ?_
      refine W.region ?_
      refine wl_field (o := 2) (off' := 2) ff_70_1 rfl rfl rfl ?_
      refine wl_load_blk (i := 3) (vs := [(.int .i64 x0.2.1.1), (.int .i64 x0.2.1.2)]) (v := (.agg #[(.int .i64 x0.2.1.1), (.int .i64 x0.2.1.2)])) tf_68 rfl rfl hS35 rfl rfl rfl ?_
      refine wl_field (o := 2) (off' := 2) ff_70_1 rfl rfl rfl ?_
      refine wl_load_blk (i := 2) (vs := [(.int .i64 x1.2.1.1), (.int .i64 x1.2.1.2)]) (v := (.agg #[(.int .i64 x1.2.1.1), (.int .i64 x1.2.1.2)])) tf_68 rfl rfl hS35 rfl rfl rfl ?_
      obtain ⟨u44, hu44, hF⟩ := bindE hF
      refine wl_call rfl Try.call153 (C_impl_squareOf w33 x0.2.1 x1.2.1 _ hu44) rfl ?_
      rintro _ w45 ⟨rfl, hb46⟩
      refine ⟨_, rfl, ?_⟩
      have hB47 := hB34.trans (hb46.mono hB34.size)
      have hS48 := hS35.below hb46
      refine wl_assign rfl rfl ?_
      refine wl_assign rfl rfl ?_
      refine WL.nil ?_
      refine fun a ha => hK43 _ _ ?_ a ha
      refine W.ret ?_
      have hr := Option.some.inj hF
      subst hr
      exact rets (vs := [(.int .i64 u44), (.int .i64 1)]) hQ rfl ⟨rv_tmp rfl, rv_tmp rfl, trivial⟩ ⟨rfl, hB47⟩
    · replace hF := ifN h42 hF
      refine W.skip ?_
      refine fun a ha => hK37 _ _ ?_ a ha
      refine W.seq fun K50 hK50 => ?_
      refine W.region ?_
      refine wl_field (o := 0) (off' := 0) ff_68_0 rfl rfl rfl ?_
      refine wl_load_blk (i := 1) (vs := [(.int .i64 u13.1.1)]) (v := (.int .i64 u13.1.1)) tf_3 rfl rfl hS35 rfl rfl rfl ?_
      refine wl_field (o := 1) (off' := 1) ff_68_1 rfl rfl rfl ?_
      refine wl_load_blk (i := 0) (vs := [(.int .i64 u13.2.1.2)]) (v := (.int .i64 u13.2.1.2)) tf_3 rfl rfl hS35 rfl rfl rfl ?_
      refine wl_mul rfl rfl rfl ?_
      refine wl_field (o := 1) (off' := 1) ff_68_1 rfl rfl rfl ?_
      refine wl_load_blk (i := 1) (vs := [(.int .i64 u13.1.2)]) (v := (.int .i64 u13.1.2)) tf_3 rfl rfl hS35 rfl rfl rfl ?_
      refine wl_field (o := 0) (off' := 0) ff_68_0 rfl rfl rfl ?_
      refine wl_load_blk (i := 0) (vs := [(.int .i64 u13.2.1.1)]) (v := (.int .i64 u13.2.1.1)) tf_3 rfl rfl hS35 rfl rfl rfl ?_
      refine wl_mul rfl rfl rfl ?_
      refine wl_sub rfl rfl rfl ?_
      refine wl_assign rfl rfl ?_
      refine WL.nil ?_
      refine fun a ha => hK50 _ _ ?_ a ha
      refine W.seq fun K51 hK51 => ?_
      refine W.region ?_
      refine wl_move rfl rfl ?_
      refine wl_move rfl rfl ?_
      refine wl_mul rfl rfl rfl ?_
      refine wl_move rfl rfl ?_
      obtain ⟨u52, hu52, hF⟩ := bindE hF
      refine wl_call rfl Try.call233 (C_impl_lowestTerms w33 (w64 ((w64 ((w64 (u13.1.1 * u13.2.1.2)) - (w64 (u13.1.2 * u13.2.1.1)))) * (w64 ((w64 (u13.1.1 * u13.2.1.2)) - (w64 (u13.1.2 * u13.2.1.1)))))) u13.2.2.2 _ hu52) rfl ?_
      rintro _ w53 ⟨rfl, hb54⟩
      refine ⟨_, rfl, ?_⟩
      have hB55 := hB34.trans (hb54.mono hB34.size)
      have hS56 := hS35.below hb54
      refine wl_extract rfl rfl rfl ?_
      refine wl_extract rfl rfl rfl ?_
      refine wl_assign rfl rfl ?_
      refine wl_assign rfl rfl ?_
      refine WL.nil ?_
      refine fun a ha => hK51 _ _ ?_ a ha
      refine W.ret ?_
      have hr := Option.some.inj hF
      subst hr
      exact rets (vs := [(.int .i64 u52.1), (.int .i64 u52.2)]) hQ rfl ⟨rv_tmp rfl, rv_tmp rfl, trivial⟩ ⟨rfl, hB55⟩
theorem C_spec_apEnds (w0 : World) (x0 : ((Int × Int) × (Int × Int) × Int)) (x1 : ((Int × Int) × (Int × Int) × Int)) (r : (Int × Int × Int × Int)) (hF : F_spec_apEnds x0 x1 = some r) :
    Calls Try.prog 261 [(.agg #[(.int .i64 x0.1.1), (.int .i64 x0.1.2), (.int .i64 x0.2.1.1), (.int .i64 x0.2.1.2), (.int .i64 x0.2.2)]), (.agg #[(.int .i64 x1.1.1), (.int .i64 x1.1.2), (.int .i64 x1.2.1.1), (.int .i64 x1.2.1.2), (.int .i64 x1.2.2)])].toArray w0 fun e w' => e = .returned (.tuple #[(.int .i64 r.1), (.int .i64 r.2.1), (.int .i64 r.2.2.1), (.int .i64 r.2.2.2)]) ∧ Below w0.heap.size w0 w' := by
  refine calls_mk' Try.func261 rfl Try.ntmps261 rfl rfl fun Q hQ hP => ?_
  have hB : Below w0.heap.size w0 w0 := Below.refl _ _
  have hS : Sep w0.heap.size w0 [] := Sep.nil _ _
  unfold F_spec_apEnds at hF
  refine W.seq fun K1 hK1 => ?_
  refine W.region ?_
  refine wl_box (cs := [(.int .i64 x0.1.1), (.int .i64 x0.1.2), (.int .i64 x0.2.1.1), (.int .i64 x0.2.1.2), (.int .i64 x0.2.2)]) rfl rfl rfl hB hS ?_
  intro b2 w3 hb4 hB5 hS6
  refine wl_box (cs := [(.int .i64 x1.1.1), (.int .i64 x1.1.2), (.int .i64 x1.2.1.1), (.int .i64 x1.2.1.2), (.int .i64 x1.2.2)]) rfl rfl rfl hB5 hS6 ?_
  intro b7 w8 hb9 hB10 hS11
  refine wl_assign rfl rfl ?_
  refine wl_assign rfl rfl ?_
  refine wl_assign rfl rfl ?_
  refine wl_assign rfl rfl ?_
  refine WL.nil ?_
  refine fun a ha => hK1 _ _ ?_ a ha
  refine W.seq fun K12 hK12 => ?_
  refine W.regionH mixed_ [] hB10 hS11 ?_
  intro w13 hb14 hB15 hS16
  have hSW17 := KeepX.refl w13 []
  refine WH.takex (i := 0) rfl (by kernel_rfl) (by kernel_rfl) (by kernel_rfl) hP hSW17 ?_
  refine pr_field (o := 0) (off' := 0) ff_70_0 rfl rfl rfl ?_
  refine WH.takex (i := 1) rfl (by kernel_rfl) (by kernel_rfl) (by kernel_rfl) hP hSW17 ?_
  refine pr_field (o := 0) (off' := 0) ff_68_0 rfl rfl rfl ?_
  refine WH.takex (i := 2) rfl (by kernel_rfl) (by kernel_rfl) (by kernel_rfl) hP hSW17 ?_
  refine pr_load_blk (i := 1) (vs := [(.int .i64 x0.1.1)]) (v := (.int .i64 x0.1.1)) tf_3 rfl rfl hS16 rfl rfl rfl (by simp) ?_
  refine WH.takex (i := 3) rfl (by kernel_rfl) (by kernel_rfl) (by kernel_rfl) hP hSW17 ?_
  refine pr_field (o := 0) (off' := 0) ff_70_0 rfl rfl rfl ?_
  refine WH.takex (i := 4) rfl (by kernel_rfl) (by kernel_rfl) (by kernel_rfl) hP hSW17 ?_
  refine pr_field (o := 0) (off' := 0) ff_68_0 rfl rfl rfl ?_
  refine WH.takex (i := 5) rfl (by kernel_rfl) (by kernel_rfl) (by kernel_rfl) hP hSW17 ?_
  refine pr_load_blk (i := 0) (vs := [(.int .i64 x1.1.1)]) (v := (.int .i64 x1.1.1)) tf_3 rfl rfl hS16 rfl rfl rfl (by simp) ?_
  refine WH.takex (i := 6) rfl (by kernel_rfl) (by kernel_rfl) (by kernel_rfl) hP hSW17 ?_
  refine pr_sub rfl rfl rfl ?_
  refine WH.takex (i := 7) rfl (by kernel_rfl) (by kernel_rfl) (by kernel_rfl) hP hSW17 ?_
  refine pr_field (o := 0) (off' := 0) ff_70_0 rfl rfl rfl ?_
  refine WH.takex (i := 8) rfl (by kernel_rfl) (by kernel_rfl) (by kernel_rfl) hP hSW17 ?_
  refine pr_field (o := 1) (off' := 1) ff_68_1 rfl rfl rfl ?_
  refine WH.takex (i := 9) rfl (by kernel_rfl) (by kernel_rfl) (by kernel_rfl) hP hSW17 ?_
  refine pr_load_blk (i := 1) (vs := [(.int .i64 x0.1.2)]) (v := (.int .i64 x0.1.2)) tf_3 rfl rfl hS16 rfl rfl rfl (by simp) ?_
  refine WH.takex (i := 10) rfl (by kernel_rfl) (by kernel_rfl) (by kernel_rfl) hP hSW17 ?_
  refine pr_field (o := 0) (off' := 0) ff_70_0 rfl rfl rfl ?_
  refine WH.takex (i := 11) rfl (by kernel_rfl) (by kernel_rfl) (by kernel_rfl) hP hSW17 ?_
  refine pr_field (o := 1) (off' := 1) ff_68_1 rfl rfl rfl ?_
  refine WH.takex (i := 12) rfl (by kernel_rfl) (by kernel_rfl) (by kernel_rfl) hP hSW17 ?_
  refine pr_load_blk (i := 0) (vs := [(.int .i64 x1.1.2)]) (v := (.int .i64 x1.1.2)) tf_3 rfl rfl hS16 rfl rfl rfl (by simp) ?_
  refine WH.takex (i := 13) rfl (by kernel_rfl) (by kernel_rfl) (by kernel_rfl) hP hSW17 ?_
  refine pr_sub rfl rfl rfl ?_
  refine WH.takex (i := 14) rfl (by kernel_rfl) (by kernel_rfl) (by kernel_rfl) hP hSW17 ?_
  refine pr_field (o := 2) (off' := 2) ff_70_1 rfl rfl rfl ?_
  refine WH.takex (i := 15) rfl (by kernel_rfl) (by kernel_rfl) (by kernel_rfl) hP hSW17 ?_
  refine pr_field (o := 0) (off' := 2) ff_68_0 rfl rfl rfl ?_
  refine WH.takex (i := 16) rfl (by kernel_rfl) (by kernel_rfl) (by kernel_rfl) hP hSW17 ?_
  refine pr_load_blk (i := 1) (vs := [(.int .i64 x0.2.1.1)]) (v := (.int .i64 x0.2.1.1)) tf_3 rfl rfl hS16 rfl rfl rfl (by simp) ?_
  refine WH.takex (i := 17) rfl (by kernel_rfl) (by kernel_rfl) (by kernel_rfl) hP hSW17 ?_
  refine pr_field (o := 2) (off' := 2) ff_70_1 rfl rfl rfl ?_
  refine WH.takex (i := 18) rfl (by kernel_rfl) (by kernel_rfl) (by kernel_rfl) hP hSW17 ?_
  refine pr_field (o := 0) (off' := 2) ff_68_0 rfl rfl rfl ?_
  refine WH.takex (i := 19) rfl (by kernel_rfl) (by kernel_rfl) (by kernel_rfl) hP hSW17 ?_
  refine pr_load_blk (i := 0) (vs := [(.int .i64 x1.2.1.1)]) (v := (.int .i64 x1.2.1.1)) tf_3 rfl rfl hS16 rfl rfl rfl (by simp) ?_
  refine WH.takex (i := 20) rfl (by kernel_rfl) (by kernel_rfl) (by kernel_rfl) hP hSW17 ?_
  refine pr_sub rfl rfl rfl ?_
  refine WH.takex (i := 21) rfl (by kernel_rfl) (by kernel_rfl) (by kernel_rfl) hP hSW17 ?_
  refine pr_field (o := 2) (off' := 2) ff_70_1 rfl rfl rfl ?_
  refine WH.takex (i := 22) rfl (by kernel_rfl) (by kernel_rfl) (by kernel_rfl) hP hSW17 ?_
  refine pr_field (o := 1) (off' := 3) ff_68_1 rfl rfl rfl ?_
  refine WH.takex (i := 23) rfl (by kernel_rfl) (by kernel_rfl) (by kernel_rfl) hP hSW17 ?_
  refine pr_load_blk (i := 1) (vs := [(.int .i64 x0.2.1.2)]) (v := (.int .i64 x0.2.1.2)) tf_3 rfl rfl hS16 rfl rfl rfl (by simp) ?_
  refine WH.takex (i := 24) rfl (by kernel_rfl) (by kernel_rfl) (by kernel_rfl) hP hSW17 ?_
  refine pr_field (o := 2) (off' := 2) ff_70_1 rfl rfl rfl ?_
  refine WH.takex (i := 25) rfl (by kernel_rfl) (by kernel_rfl) (by kernel_rfl) hP hSW17 ?_
  refine pr_field (o := 1) (off' := 3) ff_68_1 rfl rfl rfl ?_
  refine WH.takex (i := 26) rfl (by kernel_rfl) (by kernel_rfl) (by kernel_rfl) hP hSW17 ?_
  refine pr_load_blk (i := 0) (vs := [(.int .i64 x1.2.1.2)]) (v := (.int .i64 x1.2.1.2)) tf_3 rfl rfl hS16 rfl rfl rfl (by simp) ?_
  refine WH.takex (i := 27) rfl (by kernel_rfl) (by kernel_rfl) (by kernel_rfl) hP hSW17 ?_
  refine pr_sub rfl rfl rfl ?_
  refine WH.takex (i := 28) rfl (by kernel_rfl) (by kernel_rfl) (by kernel_rfl) hP hSW17 ?_
  refine pr_assign rfl rfl ?_
  refine WH.takex (i := 29) rfl (by kernel_rfl) (by kernel_rfl) (by kernel_rfl) hP hSW17 ?_
  refine pr_assign rfl rfl ?_
  refine WH.takex (i := 30) rfl (by kernel_rfl) (by kernel_rfl) (by kernel_rfl) hP hSW17 ?_
  refine pr_assign rfl rfl ?_
  refine WH.takex (i := 31) rfl (by kernel_rfl) (by kernel_rfl) (by kernel_rfl) hP hSW17 ?_
  refine pr_assign rfl rfl ?_
  refine WH.done (by kernel_rfl) ?_
  refine fun a ha => hK12 _ _ ?_ a ha
  refine W.ret ?_
  have hr := Option.some.inj hF
  subst hr
  exact rets (vs := [(.int .i64 (w64 (x0.1.1 - x1.1.1))), (.int .i64 (w64 (x0.1.2 - x1.1.2))), (.int .i64 (w64 (x0.2.1.1 - x1.2.1.1))), (.int .i64 (w64 (x0.2.1.2 - x1.2.1.2)))]) hQ rfl ⟨rv_tmp rfl, rv_tmp rfl, rv_tmp rfl, rv_tmp rfl, trivial⟩ ⟨rfl, hB15⟩
theorem C_spec_apInner (w0 : World) (x0 : ((Int × Int) × (Int × Int) × Int)) (x1 : ((Int × Int) × (Int × Int) × Int)) (r : (Int × Int)) (hF : F_spec_apInner x0 x1 = some r) :
    Calls Try.prog 262 [(.agg #[(.int .i64 x0.1.1), (.int .i64 x0.1.2), (.int .i64 x0.2.1.1), (.int .i64 x0.2.1.2), (.int .i64 x0.2.2)]), (.agg #[(.int .i64 x1.1.1), (.int .i64 x1.1.2), (.int .i64 x1.2.1.1), (.int .i64 x1.2.1.2), (.int .i64 x1.2.2)])].toArray w0 fun e w' => e = .returned (.tuple #[(.int .i64 r.1), (.int .i64 r.2)]) ∧ Below w0.heap.size w0 w' := by
  refine calls_mk' Try.func262 rfl Try.ntmps262 rfl rfl fun Q hQ hP => ?_
  have hB : Below w0.heap.size w0 w0 := Below.refl _ _
  have hS : Sep w0.heap.size w0 [] := Sep.nil _ _
  unfold F_spec_apInner at hF
  refine W.seq fun K1 hK1 => ?_
  refine W.region ?_
  refine wl_box (cs := [(.int .i64 x0.1.1), (.int .i64 x0.1.2), (.int .i64 x0.2.1.1), (.int .i64 x0.2.1.2), (.int .i64 x0.2.2)]) rfl rfl rfl hB hS ?_
  intro b2 w3 hb4 hB5 hS6
  refine wl_box (cs := [(.int .i64 x1.1.1), (.int .i64 x1.1.2), (.int .i64 x1.2.1.1), (.int .i64 x1.2.1.2), (.int .i64 x1.2.2)]) rfl rfl rfl hB5 hS6 ?_
  intro b7 w8 hb9 hB10 hS11
  refine wl_assign rfl rfl ?_
  refine wl_assign rfl rfl ?_
  refine WL.nil ?_
  refine fun a ha => hK1 _ _ ?_ a ha
  refine W.seq fun K12 hK12 => ?_
  refine W.region ?_
  refine wl_load_blk (i := 1) (vs := [(.int .i64 x0.1.1), (.int .i64 x0.1.2), (.int .i64 x0.2.1.1), (.int .i64 x0.2.1.2), (.int .i64 x0.2.2)]) (v := (.agg #[(.int .i64 x0.1.1), (.int .i64 x0.1.2), (.int .i64 x0.2.1.1), (.int .i64 x0.2.1.2), (.int .i64 x0.2.2)])) tf_70 rfl rfl hS11 rfl rfl rfl ?_
  refine wl_load_blk (i := 0) (vs := [(.int .i64 x1.1.1), (.int .i64 x1.1.2), (.int .i64 x1.2.1.1), (.int .i64 x1.2.1.2), (.int .i64 x1.2.2)]) (v := (.agg #[(.int .i64 x1.1.1), (.int .i64 x1.1.2), (.int .i64 x1.2.1.1), (.int .i64 x1.2.1.2), (.int .i64 x1.2.2)])) tf_70 rfl rfl hS11 rfl rfl rfl ?_
  obtain ⟨u13, hu13, hF⟩ := bindE hF
  refine wl_call rfl Try.call261 (C_spec_apEnds w8 x0 x1 _ hu13) rfl ?_
  rintro _ w14 ⟨rfl, hb15⟩
  refine ⟨_, rfl, ?_⟩
  have hB16 := hB10.trans (hb15.mono hB10.size)
  have hS17 := hS11.below hb15
  refine wl_move rfl rfl ?_
  refine wl_extract rfl rfl rfl ?_
  refine wl_extract rfl rfl rfl ?_
  refine wl_extract rfl rfl rfl ?_
  refine wl_extract rfl rfl rfl ?_
  refine wl_assign rfl rfl ?_
  refine wl_assign rfl rfl ?_
  refine wl_assign rfl rfl ?_
  refine wl_assign rfl rfl ?_
  refine WL.nil ?_
  refine fun a ha => hK12 _ _ ?_ a ha
  refine W.seq fun K19 hK19 => ?_
  refine W.region ?_
  refine wl_move rfl rfl ?_
  refine wl_move rfl rfl ?_
  refine wl_sub rfl rfl rfl ?_
  refine wl_move rfl rfl ?_
  refine wl_move rfl rfl ?_
  refine wl_sub rfl rfl rfl ?_
  refine wl_assign rfl rfl ?_
  refine wl_assign rfl rfl ?_
  refine WL.nil ?_
  refine fun a ha => hK19 _ _ ?_ a ha
  refine W.seq fun K20 hK20 => ?_
  refine W.region ?_
  refine wl_move rfl rfl ?_
  refine wl_move rfl rfl ?_
  refine wl_mul rfl rfl rfl ?_
  refine wl_move rfl rfl ?_
  refine wl_move rfl rfl ?_
  refine wl_mul rfl rfl rfl ?_
  refine wl_add rfl rfl rfl ?_
  refine wl_neg rfl rfl ?_
  refine wl_move rfl rfl ?_
  refine wl_move rfl rfl ?_
  refine wl_mul rfl rfl rfl ?_
  refine wl_move rfl rfl ?_
  refine wl_move rfl rfl ?_
  refine wl_mul rfl rfl rfl ?_
  refine wl_add rfl rfl rfl ?_
  refine wl_assign rfl rfl ?_
  refine wl_assign rfl rfl ?_
  refine WL.nil ?_
  refine fun a ha => hK20 _ _ ?_ a ha
  refine W.seq fun K21 hK21 => ?_
  refine W.seq fun K22 hK22 => ?_
  obtain ⟨k27, hk27, hF⟩ := jE1 hF
  have hJ28 : ∀ (y26 : Bool) (w23 : World) (_ : k27 y26 = some r) (_ : Below w0.heap.size w0 w23) (_ : Sep w0.heap.size w23 []), ∀ a, St 52 [(12, (.int .i64 (w64 (0 - (w64 ((w64 (u13.1 * (w64 (u13.2.2.1 - u13.1)))) + (w64 (u13.2.1 * (w64 (u13.2.2.2 - u13.2.1)))))))))), (13, (.int .i64 (w64 ((w64 ((w64 (u13.2.2.1 - u13.1)) * (w64 (u13.2.2.1 - u13.1)))) + (w64 ((w64 (u13.2.2.2 - u13.2.1)) * (w64 (u13.2.2.2 - u13.2.1)))))))), (49, (.bool y26))] a → K22 a w23 := by
    intro y26 w23 hF hB24 hS25
    subst hk27
    refine fun a ha => hK22 _ _ ?_ a ha
    refine W.cond rfl (fun h29 => ?_) (fun h29 => ?_)
    · replace hF := ifP h29 hF
      refine W.seq fun K30 hK30 => ?_
      refine W.region ?_
      refine wl_assign rfl rfl ?_
      refine wl_assign rfl rfl ?_
      refine WL.nil ?_
      refine fun a ha => hK30 _ _ ?_ a ha
      refine W.ret ?_
      have hr := Option.some.inj hF
      subst hr
      exact rets (vs := [(.int .i64 0), (.int .i64 0)]) hQ rfl ⟨rv_tmp rfl, rv_tmp rfl, trivial⟩ ⟨rfl, hB24⟩
    · replace hF := ifN h29 hF
      refine W.skip ?_
      refine fun a ha => hK21 _ _ ?_ a ha
      refine W.seq fun K31 hK31 => ?_
      refine W.region ?_
      refine wl_move rfl rfl ?_
      refine wl_move rfl rfl ?_
      refine wl_assign rfl rfl ?_
      refine wl_assign rfl rfl ?_
      refine WL.nil ?_
      refine fun a ha => hK31 _ _ ?_ a ha
      refine W.ret ?_
      have hr := Option.some.inj hF
      subst hr
      exact rets (vs := [(.int .i64 (w64 (0 - (w64 ((w64 (u13.1 * (w64 (u13.2.2.1 - u13.1)))) + (w64 (u13.2.1 * (w64 (u13.2.2.2 - u13.2.1))))))))), (.int .i64 (w64 ((w64 ((w64 (u13.2.2.1 - u13.1)) * (w64 (u13.2.2.1 - u13.1)))) + (w64 ((w64 (u13.2.2.2 - u13.2.1)) * (w64 (u13.2.2.2 - u13.2.1)))))))]) hQ rfl ⟨rv_tmp rfl, rv_tmp rfl, trivial⟩ ⟨rfl, hB24⟩
  refine W.region ?_
  refine wl_move rfl rfl ?_
  refine wl_leq rfl rfl rfl ?_
  refine wl_move rfl rfl ?_
  rcases bE (decide ((w64 (0 - (w64 ((w64 (u13.1 * (w64 (u13.2.2.1 - u13.1)))) + (w64 (u13.2.1 * (w64 (u13.2.2.2 - u13.2.1)))))))) ≤ 0)) with h32 | h32
  · replace hF := ifP h32 hF
    refine wl_off rfl rfl rfl h32 ?_
    refine wl_off rfl rfl rfl h32 ?_
    refine wl_off rfl rfl rfl h32 ?_
    refine wl_pick_t rfl rfl h32 rfl ?_
    refine WL.nil ?_
    exact fun a ha => hJ28 (true) _ hF hB16 (hS17.sel [] rfl) a (ha.sub ⟨rfl, rfl, rfl, trivial⟩)
  · replace hF := ifN h32 hF
    refine wl_on rfl rfl h32 ?_
    refine wl_move rfl rfl ?_
    refine wl_on rfl rfl h32 ?_
    refine wl_move rfl rfl ?_
    refine wl_on rfl rfl h32 ?_
    refine wl_geq rfl rfl rfl ?_
    refine wl_pick_f rfl rfl h32 rfl ?_
    refine WL.nil ?_
    exact fun a ha => hJ28 ((decide ((w64 ((w64 ((w64 (u13.2.2.1 - u13.1)) * (w64 (u13.2.2.1 - u13.1)))) + (w64 ((w64 (u13.2.2.2 - u13.2.1)) * (w64 (u13.2.2.2 - u13.2.1)))))) ≤ (w64 (0 - (w64 ((w64 (u13.1 * (w64 (u13.2.2.1 - u13.1)))) + (w64 (u13.2.1 * (w64 (u13.2.2.2 - u13.2.1))))))))))) _ hF hB16 (hS17.sel [] rfl) a (ha.sub ⟨rfl, rfl, rfl, trivial⟩)
theorem C_spec_l1Abs (w0 : World) (x0 : Int) (r : Int) (hF : F_spec_l1Abs x0 = some r) :
    Calls Try.prog 276 [(.int .i64 x0)].toArray w0 fun e w' => e = .returned (.int .i64 r) ∧ Below w0.heap.size w0 w' := by
  refine calls_mk' Try.func276 rfl Try.ntmps276 rfl rfl fun Q hQ hP => ?_
  have hB : Below w0.heap.size w0 w0 := Below.refl _ _
  have hS : Sep w0.heap.size w0 [] := Sep.nil _ _
  unfold F_spec_l1Abs at hF
  refine W.seq fun K1 hK1 => ?_
  refine W.region ?_
  refine wl_assign rfl rfl ?_
  refine WL.nil ?_
  refine fun a ha => hK1 _ _ ?_ a ha
  refine W.seq fun K2 hK2 => ?_
  refine W.region ?_
  refine wl_move rfl rfl ?_
  refine wl_move rfl rfl ?_
  refine wl_neg rfl rfl ?_
  obtain ⟨u3, hu3, hF⟩ := bindE hF
  refine wl_call rfl Try.call131 (C_spec_l1Most w0 x0 (w64 (0 - x0)) _ hu3) rfl ?_
  rintro _ w4 ⟨rfl, hb5⟩
  refine ⟨_, rfl, ?_⟩
  have hB6 := hB.trans (hb5.mono hB.size)
  have hS7 := hS.below hb5
  refine wl_assign rfl rfl ?_
  refine WL.nil ?_
  refine fun a ha => hK2 _ _ ?_ a ha
  refine W.ret ?_
  have hr := Option.some.inj hF
  subst hr
  exact rets (vs := [(.int .i64 u3)]) hQ rfl ⟨rv_tmp rfl, trivial⟩ ⟨rfl, hB6⟩
theorem C_spec_mvPart (w0 : World) (x0 : Int) (x1 : Int) (r : (Int × Int)) (hF : F_spec_mvPart x0 x1 = some r) :
    Calls Try.prog 263 [(.int .i64 x0), (.int .i64 x1)].toArray w0 fun e w' => e = .returned (.tuple #[(.int .i64 r.1), (.int .i64 r.2)]) ∧ Below w0.heap.size w0 w' := by
  refine calls_mk' Try.func263 rfl Try.ntmps263 rfl rfl fun Q hQ hP => ?_
  have hB : Below w0.heap.size w0 w0 := Below.refl _ _
  have hS : Sep w0.heap.size w0 [] := Sep.nil _ _
  unfold F_spec_mvPart at hF
  refine W.seq fun K1 hK1 => ?_
  refine W.region ?_
  refine wl_assign rfl rfl ?_
  refine wl_assign rfl rfl ?_
  refine WL.nil ?_
  refine fun a ha => hK1 _ _ ?_ a ha
  refine W.seq fun K2 hK2 => ?_
  refine W.region ?_
  refine wl_move rfl rfl ?_
  obtain ⟨u3, hu3, hF⟩ := bindE hF
  refine wl_call rfl Try.call276 (C_spec_l1Abs w0 x0 _ hu3) rfl ?_
  rintro _ w4 ⟨rfl, hb5⟩
  refine ⟨_, rfl, ?_⟩
  have hB6 := hB.trans (hb5.mono hB.size)
  have hS7 := hS.below hb5
  refine wl_move rfl rfl ?_
  refine wl_assign rfl rfl ?_
  refine wl_assign rfl rfl ?_
  refine WL.nil ?_
  refine fun a ha => hK2 _ _ ?_ a ha
  refine W.seq fun K9 hK9 => ?_
  refine W.block ?_
  refine W.loopk (fun m a w10 => ∃ (y13 : Int) (y14 : Int), St 25 [(0, (.int .i64 x0)), (1, (.int .i64 x1)), (6, (.int .i64 y13)), (7, (.int .i64 y14))] a ∧ Below w0.heap.size w0 w10 ∧ Sep w0.heap.size w10 [] ∧ F_spec_mvPart_L1 x0 x1 m y13 y14 = some r) FU ?_ ?_
  ·
    exact fun a ha => ⟨u3, x1, ha.sub ⟨rfl, rfl, rfl, rfl, trivial⟩, hB6, (hS7.sel [] rfl), hF⟩
  ·
    rintro m17 a w10 ⟨y13, y14, ha, hB11, hS12, hF⟩ KL16 hKL16
    refine W.at ?_ ha
    cases m17 with
    | zero => exact noneE hF
    | succ m17 =>
      obtain ⟨nx15, hnx15⟩ : ∃ k, k = F_spec_mvPart_L1 x0 x1 m17 := ⟨_, rfl⟩
      rw [F_spec_mvPart_L1, ← hnx15] at hF
      refine W.seq fun K18 hK18 => ?_
      refine W.seq fun K19 hK19 => ?_
      refine W.region ?_
      refine wl_move rfl rfl ?_
      refine wl_gtr rfl rfl rfl ?_
      refine WL.nil ?_
      refine fun a ha => hK19 _ _ ?_ a ha
      refine W.cond rfl (fun h20 => ?_) (fun h20 => ?_)
      · replace hF := ifP h20 hF
        refine W.skip ?_
        refine fun a ha => hK18 _ _ ?_ a ha
        refine W.block ?_
        refine W.seq fun K21 hK21 => ?_
        refine W.region ?_
        refine wl_move rfl rfl ?_
        refine wl_move rfl rfl ?_
        have h22 : y14 ≠ 0 := fun h22 => noneE (ifP h22 hF)
        replace hF := ifNP h22 hF
        refine wl_rem rfl rfl rfl h22 ?_
        refine wl_assign rfl rfl ?_
        refine WL.nil ?_
        refine fun a ha => hK21 _ _ ?_ a ha
        refine W.seq fun K23 hK23 => ?_
        refine W.region ?_
        refine wl_move rfl rfl ?_
        refine wl_assign rfl rfl ?_
        refine WL.nil ?_
        refine fun a ha => hK23 _ _ ?_ a ha
        refine W.region ?_
        refine wl_move rfl rfl ?_
        refine wl_assign rfl rfl ?_
        refine WL.nil ?_
        rw [hnx15] at hF
        exact fun a ha => hKL16 a _ m17 (Nat.lt_succ_self m17) ⟨y14, (Int.tmod y13 y14), ha.sub ⟨rfl, rfl, rfl, rfl, trivial⟩, hB11, (hS12.sel [] rfl), hF⟩
      · replace hF := ifN h20 hF
        refine W.exit ?_
        refine fun a ha => hK9 _ _ ?_ a ha
        refine W.seq fun K24 hK24 => ?_
        refine W.regionH mixed_ [] hB11 hS12 ?_
        intro w25 hb26 hB27 hS28
        have hSW29 := KeepX.refl w25 []
        refine WH.takex (i := 0) rfl (by kernel_rfl) (by kernel_rfl) (by kernel_rfl) hP hSW29 ?_
        refine pr_move rfl rfl ?_
        refine WH.takex (i := 1) rfl (by kernel_rfl) (by kernel_rfl) (by kernel_rfl) hP hSW29 ?_
        refine pr_move rfl rfl ?_
        have h30 : y13 ≠ 0 := fun h30 => noneE (ifP h30 hF)
        replace hF := ifNP h30 hF
        refine WH.takex (i := 2) rfl (by kernel_rfl) (by kernel_rfl) (by kernel_rfl) hP hSW29 ?_
        refine pr_quo rfl rfl rfl h30 ?_
        refine WH.takex (i := 3) rfl (by kernel_rfl) (by kernel_rfl) (by kernel_rfl) hP hSW29 ?_
        refine pr_move rfl rfl ?_
        refine WH.takex (i := 4) rfl (by kernel_rfl) (by kernel_rfl) (by kernel_rfl) hP hSW29 ?_
        refine pr_move rfl rfl ?_
        have h31 : y13 ≠ 0 := fun h31 => noneE (ifP h31 hF)
        replace hF := ifNP h31 hF
        refine WH.takex (i := 5) rfl (by kernel_rfl) (by kernel_rfl) (by kernel_rfl) hP hSW29 ?_
        refine pr_quo rfl rfl rfl h31 ?_
        refine WH.takex (i := 6) rfl (by kernel_rfl) (by kernel_rfl) (by kernel_rfl) hP hSW29 ?_
        refine pr_assign rfl rfl ?_
        refine WH.takex (i := 7) rfl (by kernel_rfl) (by kernel_rfl) (by kernel_rfl) hP hSW29 ?_
        refine pr_assign rfl rfl ?_
        refine WH.done (by kernel_rfl) ?_
        refine fun a ha => hK24 _ _ ?_ a ha
        refine W.ret ?_
        have hr := Option.some.inj hF
        subst hr
        exact rets (vs := [(.int .i64 (w64 (Int.tdiv x0 y13))), (.int .i64 (w64 (Int.tdiv x1 y13)))]) hQ rfl ⟨rv_tmp rfl, rv_tmp rfl, trivial⟩ ⟨rfl, hB27⟩
theorem C_spec_apLeast (w0 : World) (x0 : ((Int × Int) × (Int × Int) × Int)) (x1 : ((Int × Int) × (Int × Int) × Int)) (r : (Int × Int)) (hF : F_spec_apLeast x0 x1 = some r) :
    Calls Try.prog 237 [(.agg #[(.int .i64 x0.1.1), (.int .i64 x0.1.2), (.int .i64 x0.2.1.1), (.int .i64 x0.2.1.2), (.int .i64 x0.2.2)]), (.agg #[(.int .i64 x1.1.1), (.int .i64 x1.1.2), (.int .i64 x1.2.1.1), (.int .i64 x1.2.1.2), (.int .i64 x1.2.2)])].toArray w0 fun e w' => e = .returned (.tuple #[(.int .i64 r.1), (.int .i64 r.2)]) ∧ Below w0.heap.size w0 w' := by
  refine calls_mk' Try.func237 rfl Try.ntmps237 rfl rfl fun Q hQ hP => ?_
  have hB : Below w0.heap.size w0 w0 := Below.refl _ _
  have hS : Sep w0.heap.size w0 [] := Sep.nil _ _
  unfold F_spec_apLeast at hF
  refine W.seq fun K1 hK1 => ?_
  refine W.region ?_
  refine wl_box (cs := [(.int .i64 x0.1.1), (.int .i64 x0.1.2), (.int .i64 x0.2.1.1), (.int .i64 x0.2.1.2), (.int .i64 x0.2.2)]) rfl rfl rfl hB hS ?_
  intro b2 w3 hb4 hB5 hS6
  refine wl_box (cs := [(.int .i64 x1.1.1), (.int .i64 x1.1.2), (.int .i64 x1.2.1.1), (.int .i64 x1.2.1.2), (.int .i64 x1.2.2)]) rfl rfl rfl hB5 hS6 ?_
  intro b7 w8 hb9 hB10 hS11
  refine wl_assign rfl rfl ?_
  refine wl_assign rfl rfl ?_
  refine WL.nil ?_
  refine fun a ha => hK1 _ _ ?_ a ha
  refine W.seq fun K12 hK12 => ?_
  refine W.region ?_
  refine wl_load_blk (i := 1) (vs := [(.int .i64 x0.1.1), (.int .i64 x0.1.2), (.int .i64 x0.2.1.1), (.int .i64 x0.2.1.2), (.int .i64 x0.2.2)]) (v := (.agg #[(.int .i64 x0.1.1), (.int .i64 x0.1.2), (.int .i64 x0.2.1.1), (.int .i64 x0.2.1.2), (.int .i64 x0.2.2)])) tf_70 rfl rfl hS11 rfl rfl rfl ?_
  refine wl_load_blk (i := 0) (vs := [(.int .i64 x1.1.1), (.int .i64 x1.1.2), (.int .i64 x1.2.1.1), (.int .i64 x1.2.1.2), (.int .i64 x1.2.2)]) (v := (.agg #[(.int .i64 x1.1.1), (.int .i64 x1.1.2), (.int .i64 x1.2.1.1), (.int .i64 x1.2.1.2), (.int .i64 x1.2.2)])) tf_70 rfl rfl hS11 rfl rfl rfl ?_
  obtain ⟨u13, hu13, hF⟩ := bindE hF
  refine wl_call rfl Try.call261 (C_spec_apEnds w8 x0 x1 _ hu13) rfl ?_
  rintro _ w14 ⟨rfl, hb15⟩
  refine ⟨_, rfl, ?_⟩
  have hB16 := hB10.trans (hb15.mono hB10.size)
  have hS17 := hS11.below hb15
  refine wl_move rfl rfl ?_
  refine wl_extract rfl rfl rfl ?_
  refine wl_extract rfl rfl rfl ?_
  refine wl_extract rfl rfl rfl ?_
  refine wl_extract rfl rfl rfl ?_
  refine wl_assign rfl rfl ?_
  refine wl_assign rfl rfl ?_
  refine wl_assign rfl rfl ?_
  refine wl_assign rfl rfl ?_
  refine WL.nil ?_
  refine fun a ha => hK12 _ _ ?_ a ha
  refine W.seq fun K19 hK19 => ?_
  refine W.seq fun K20 hK20 => ?_
  refine W.region ?_
  refine wl_load_blk (i := 1) (vs := [(.int .i64 x0.1.1), (.int .i64 x0.1.2), (.int .i64 x0.2.1.1), (.int .i64 x0.2.1.2), (.int .i64 x0.2.2)]) (v := (.agg #[(.int .i64 x0.1.1), (.int .i64 x0.1.2), (.int .i64 x0.2.1.1), (.int .i64 x0.2.1.2), (.int .i64 x0.2.2)])) tf_70 rfl rfl hS17 rfl rfl rfl ?_
  refine wl_load_blk (i := 0) (vs := [(.int .i64 x1.1.1), (.int .i64 x1.1.2), (.int .i64 x1.2.1.1), (.int .i64 x1.2.1.2), (.int .i64 x1.2.2)]) (v := (.agg #[(.int .i64 x1.1.1), (.int .i64 x1.1.2), (.int .i64 x1.2.1.1), (.int .i64 x1.2.1.2), (.int .i64 x1.2.2)])) tf_70 rfl rfl hS17 rfl rfl rfl ?_
  obtain ⟨u21, hu21, hF⟩ := bindE hF
  refine wl_call rfl Try.call262 (C_spec_apInner w14 x0 x1 _ hu21) rfl ?_
  rintro _ w22 ⟨rfl, hb23⟩
  refine ⟨_, rfl, ?_⟩
  have hB24 := hB16.trans (hb23.mono hB16.size)
  have hS25 := hS17.below hb23
  refine wl_move rfl rfl ?_
  refine wl_extract rfl rfl rfl ?_
  refine wl_extract rfl rfl rfl ?_
  refine wl_assign rfl rfl ?_
  refine wl_assign rfl rfl ?_
  refine WL.nil ?_
  refine fun a ha => hK20 _ _ ?_ a ha
  refine W.seq fun K27 hK27 => ?_
  refine W.region ?_
  refine wl_move rfl rfl ?_
  refine wl_gtr rfl rfl rfl ?_
  refine WL.nil ?_
  refine fun a ha => hK27 _ _ ?_ a ha
  refine W.cond rfl (fun h28 => ?_) (fun h28 => ?_)
  · replace hF := ifP h28 hF
    refine W.seq fun K29 hK29 => ?_
    refine W.region ?_
    refine wl_move rfl rfl ?_
    refine wl_move rfl rfl ?_
    refine wl_mul rfl rfl rfl ?_
    refine wl_move rfl rfl ?_
    refine wl_move rfl rfl ?_
    refine wl_mul rfl rfl rfl ?_
    refine wl_sub rfl rfl rfl ?_
    refine wl_assign rfl rfl ?_
    refine WL.nil ?_
    refine fun a ha => hK29 _ _ ?_ a ha
    refine W.seq fun K30 hK30 => ?_
    refine W.region ?_
    refine wl_move rfl rfl ?_
    refine wl_move rfl rfl ?_
    refine wl_mul rfl rfl rfl ?_
    refine wl_move rfl rfl ?_
    obtain ⟨u31, hu31, hF⟩ := bindE hF
    refine wl_call rfl Try.call263 (C_spec_mvPart w22 (w64 ((w64 ((w64 (u13.1 * u13.2.2.2)) - (w64 (u13.2.1 * u13.2.2.1)))) * (w64 ((w64 (u13.1 * u13.2.2.2)) - (w64 (u13.2.1 * u13.2.2.1)))))) u21.2 _ hu31) rfl ?_
    rintro _ w32 ⟨rfl, hb33⟩
    refine ⟨_, rfl, ?_⟩
    have hB34 := hB24.trans (hb33.mono hB24.size)
    have hS35 := hS25.below hb33
    refine wl_extract rfl rfl rfl ?_
    refine wl_extract rfl rfl rfl ?_
    refine wl_assign rfl rfl ?_
    refine wl_assign rfl rfl ?_
    refine WL.nil ?_
    refine fun a ha => hK30 _ _ ?_ a ha
    refine W.ret ?_
    have hr := Option.some.inj hF
    subst hr
    exact rets (vs := [(.int .i64 u31.1), (.int .i64 u31.2)]) hQ rfl ⟨rv_tmp rfl, rv_tmp rfl, trivial⟩ ⟨rfl, hB34⟩
  · replace hF := ifN h28 hF
    refine W.skip ?_
    refine fun a ha => hK19 _ _ ?_ a ha
    refine W.seq fun K37 hK37 => ?_
    refine W.region ?_
    refine wl_move rfl rfl ?_
    refine wl_move rfl rfl ?_
    refine wl_mul rfl rfl rfl ?_
    refine wl_move rfl rfl ?_
    refine wl_move rfl rfl ?_
    refine wl_mul rfl rfl rfl ?_
    refine wl_add rfl rfl rfl ?_
    refine wl_move rfl rfl ?_
    refine wl_move rfl rfl ?_
    refine wl_mul rfl rfl rfl ?_
    refine wl_move rfl rfl ?_
    refine wl_move rfl rfl ?_
    refine wl_mul rfl rfl rfl ?_
    refine wl_add rfl rfl rfl ?_
    obtain ⟨u38, hu38, hF⟩ := bindE hF
    refine wl_call rfl Try.call167 (C_spec_l1Least w22 (w64 ((w64 (u13.1 * u13.1)) + (w64 (u13.2.1 * u13.2.1)))) (w64 ((w64 (u13.2.2.1 * u13.2.2.1)) + (w64 (u13.2.2.2 * u13.2.2.2)))) _ hu38) rfl ?_
    rintro _ w39 ⟨rfl, hb40⟩
    refine ⟨_, rfl, ?_⟩
    have hB41 := hB24.trans (hb40.mono hB24.size)
    have hS42 := hS25.below hb40
    refine wl_assign rfl rfl ?_
    refine wl_assign rfl rfl ?_
    refine WL.nil ?_
    refine fun a ha => hK37 _ _ ?_ a ha
    refine W.ret ?_
    have hr := Option.some.inj hF
    subst hr
    exact rets (vs := [(.int .i64 u38), (.int .i64 1)]) hQ rfl ⟨rv_tmp rfl, rv_tmp rfl, trivial⟩ ⟨rfl, hB41⟩
theorem C_impl_stayApart (w0 : World) (x0 : ((Int × Int) × (Int × Int) × Int)) (x1 : ((Int × Int) × (Int × Int) × Int)) (x2 : Int) (r : Bool) (hF : F_impl_stayApart x0 x1 x2 = some r) :
    Calls Try.prog 238 [(.agg #[(.int .i64 x0.1.1), (.int .i64 x0.1.2), (.int .i64 x0.2.1.1), (.int .i64 x0.2.1.2), (.int .i64 x0.2.2)]), (.agg #[(.int .i64 x1.1.1), (.int .i64 x1.1.2), (.int .i64 x1.2.1.1), (.int .i64 x1.2.1.2), (.int .i64 x1.2.2)]), (.int .i64 x2)].toArray w0 fun e w' => e = .returned (.bool r) ∧ Below w0.heap.size w0 w' := by
  refine calls_mk' Try.func238 rfl Try.ntmps238 rfl rfl fun Q hQ hP => ?_
  have hB : Below w0.heap.size w0 w0 := Below.refl _ _
  have hS : Sep w0.heap.size w0 [] := Sep.nil _ _
  unfold F_impl_stayApart at hF
  refine W.seq fun K1 hK1 => ?_
  refine W.region ?_
  refine wl_box (cs := [(.int .i64 x0.1.1), (.int .i64 x0.1.2), (.int .i64 x0.2.1.1), (.int .i64 x0.2.1.2), (.int .i64 x0.2.2)]) rfl rfl rfl hB hS ?_
  intro b2 w3 hb4 hB5 hS6
  refine wl_box (cs := [(.int .i64 x1.1.1), (.int .i64 x1.1.2), (.int .i64 x1.2.1.1), (.int .i64 x1.2.1.2), (.int .i64 x1.2.2)]) rfl rfl rfl hB5 hS6 ?_
  intro b7 w8 hb9 hB10 hS11
  refine wl_assign rfl rfl ?_
  refine WL.nil ?_
  refine fun a ha => hK1 _ _ ?_ a ha
  refine W.seq fun K12 hK12 => ?_
  refine W.region ?_
  refine wl_load_blk (i := 1) (vs := [(.int .i64 x0.1.1), (.int .i64 x0.1.2), (.int .i64 x0.2.1.1), (.int .i64 x0.2.1.2), (.int .i64 x0.2.2)]) (v := (.agg #[(.int .i64 x0.1.1), (.int .i64 x0.1.2), (.int .i64 x0.2.1.1), (.int .i64 x0.2.1.2), (.int .i64 x0.2.2)])) tf_70 rfl rfl hS11 rfl rfl rfl ?_
  refine wl_load_blk (i := 0) (vs := [(.int .i64 x1.1.1), (.int .i64 x1.1.2), (.int .i64 x1.2.1.1), (.int .i64 x1.2.1.2), (.int .i64 x1.2.2)]) (v := (.agg #[(.int .i64 x1.1.1), (.int .i64 x1.1.2), (.int .i64 x1.2.1.1), (.int .i64 x1.2.1.2), (.int .i64 x1.2.2)])) tf_70 rfl rfl hS11 rfl rfl rfl ?_
  obtain ⟨u13, hu13, hF⟩ := bindE hF
  refine wl_call rfl Try.call157 (C_impl_leastApart w8 x0 x1 _ hu13) rfl ?_
  rintro _ w14 ⟨rfl, hb15⟩
  refine ⟨_, rfl, ?_⟩
  have hB16 := hB10.trans (hb15.mono hB10.size)
  have hS17 := hS11.below hb15
  refine wl_move rfl rfl ?_
  refine wl_extract rfl rfl rfl ?_
  refine wl_extract rfl rfl rfl ?_
  refine wl_assign rfl rfl ?_
  refine wl_assign rfl rfl ?_
  refine WL.nil ?_
  refine fun a ha => hK12 _ _ ?_ a ha
  refine W.seq fun K19 hK19 => ?_
  refine W.region ?_
  refine wl_move rfl rfl ?_
  refine wl_move rfl rfl ?_
  refine wl_move rfl rfl ?_
  refine wl_mul rfl rfl rfl ?_
  refine wl_move rfl rfl ?_
  refine wl_mul rfl rfl rfl ?_
  refine wl_geq rfl rfl rfl ?_
  refine wl_assign rfl rfl ?_
  refine WL.nil ?_
  refine fun a ha => hK19 _ _ ?_ a ha
  refine W.ret ?_
  have hr := Option.some.inj hF
  subst hr
  exact rets (vs := [(.bool (decide ((w64 ((w64 (x2 * x2)) * u13.2)) ≤ u13.1)))]) hQ rfl ⟨rv_tmp rfl, trivial⟩ ⟨rfl, hB16⟩
theorem C_impl_pairsTooClose (w0 : World) (x0 : (List ((Int × Int) × (Int × Int) × Int))) (v0_0 : Value) (h0_0 : rdS ty_70 (· < w0.heap.size) w0 v0_0 x0) (x1 : Int) (r : (List (List Int))) (hF : F_impl_pairsTooClose x0 x1 = some r) :
    Calls Try.prog 162 [v0_0, (.int .i64 x1)].toArray w0 fun e w' => ∃ (q0 : Value) (G0 : List Nat), e = .returned q0 ∧ Below w0.heap.size w0 w' ∧ Sep w0.heap.size w' [R.own ty_29 G0 q0 r] := by
  refine calls_mk' Try.func162 rfl Try.ntmps162 rfl rfl fun Q hQ hP => ?_
  have hB : Below w0.heap.size w0 w0 := Below.refl _ _
  have hS : Sep w0.heap.size w0 [] := Sep.nil _ _
  unfold F_impl_pairsTooClose at hF
  refine W.seq fun K1 hK1 => ?_
  refine W.region ?_
  refine wl_assign rfl rfl ?_
  refine WL.nil ?_
  refine fun a ha => hK1 _ _ ?_ a ha
  refine W.seq fun K2 hK2 => ?_
  refine W.region ?_
  refine wl_lit0 (e := ty_29) Try.underlying72 rfl hB hS ?_
  intro v3 F4 w5 hb6 hB7 hS8
  refine wl_assign rfl rfl ?_
  refine WL.nil ?_
  refine fun a ha => hK2 _ _ ?_ a ha
  refine W.seq fun K9 hK9 => ?_
  refine W.seq fun K10 hK10 => ?_
  refine W.region ?_
  refine wl_move rfl rfl ?_
  refine wl_lenr (e := ty_70) (l := x0) Try.underlying64 rfl rfl h0_0 ?_
  refine wl_move rfl rfl ?_
  refine WL.nil ?_
  refine fun a ha => hK10 _ _ ?_ a ha
  refine W.block ?_
  refine W.loopk (fun m a w11 => ∃ (l14 : (List (List Int))) (y17 : Int) (v15 : Value) (F16 : List Nat), St 41 [(0, v0_0), (1, (.int .i64 x1)), (5, v15), (10, (.int .i64 (List.length x0 : Int))), (11, (.int .i64 y17))] a ∧ Below w0.heap.size w0 w11 ∧ Sep w0.heap.size w11 [R.own ty_29 F16 v15 l14] ∧ F_impl_pairsTooClose_L1 x0 x1 m l14 y17 = some r) FU ?_ ?_
  ·
    exact fun a ha => ⟨[], 0, v3, F4, ha.sub ⟨rfl, rfl, rfl, rfl, rfl, trivial⟩, hB7, (hS8.sel [0] rfl), hF⟩
  ·
    rintro m20 a w11 ⟨l14, y17, v15, F16, ha, hB12, hS13, hF⟩ KL19 hKL19
    refine W.at ?_ ha
    cases m20 with
    | zero => exact noneE hF
    | succ m20 =>
      obtain ⟨nx18, hnx18⟩ : ∃ k, k = F_impl_pairsTooClose_L1 x0 x1 m20 := ⟨_, rfl⟩
      rw [F_impl_pairsTooClose_L1, ← hnx18] at hF
      refine W.seq fun K21 hK21 => ?_
      refine W.region ?_
      refine wl_lss rfl rfl rfl ?_
      refine WL.nil ?_
      refine fun a ha => hK21 _ _ ?_ a ha
      refine W.seq fun K22 hK22 => ?_
      refine W.cond rfl (fun h23 => ?_) (fun h23 => ?_)
      · replace hF := ifP h23 hF
        refine W.skip ?_
        refine fun a ha => hK22 _ _ ?_ a ha
        refine W.seq fun K24 hK24 => ?_
        refine W.block ?_
        refine W.seq fun K25 hK25 => ?_
        refine W.region ?_
        refine wl_move rfl rfl ?_
        refine wl_assign rfl rfl ?_
        refine WL.nil ?_
        refine fun a ha => hK25 _ _ ?_ a ha
        refine W.seq fun K26 hK26 => ?_
        refine W.region ?_
        refine wl_move rfl rfl ?_
        refine wl_add rfl rfl rfl ?_
        refine wl_assign rfl rfl ?_
        refine WL.nil ?_
        refine fun a ha => hK26 _ _ ?_ a ha
        refine W.block ?_
        refine W.loopk (fun m a w27 => ∃ (l30 : (List (List Int))) (y33 : Int) (v31 : Value) (F32 : List Nat), St 41 [(0, v0_0), (1, (.int .i64 x1)), (5, v31), (6, (.int .i64 y17)), (7, (.int .i64 y33)), (10, (.int .i64 (List.length x0 : Int))), (11, (.int .i64 y17))] a ∧ Below w0.heap.size w0 w27 ∧ Sep w0.heap.size w27 [R.own ty_29 F32 v31 l30] ∧ F_impl_pairsTooClose_L2 x0 y17 x1 nx18 m l30 y33 = some r) FU ?_ ?_
        ·
          exact fun a ha => ⟨l14, (w64 (y17 + 1)), v15, F16, ha.sub ⟨rfl, rfl, rfl, rfl, rfl, rfl, rfl, trivial⟩, hB12, (hS13.sel [0] rfl), hF⟩
        ·
          rintro m36 a w27 ⟨l30, y33, v31, F32, ha, hB28, hS29, hF⟩ KL35 hKL35
          refine W.at ?_ ha
          cases m36 with
          | zero => exact noneE hF
          | succ m36 =>
            obtain ⟨nx34, hnx34⟩ : ∃ k, k = F_impl_pairsTooClose_L2 x0 y17 x1 nx18 m36 := ⟨_, rfl⟩
            rw [F_impl_pairsTooClose_L2, ← hnx34] at hF
            refine W.seq fun K37 hK37 => ?_
            refine W.seq fun K38 hK38 => ?_
            refine W.region ?_
            refine wl_move rfl rfl ?_
            refine wl_move rfl rfl ?_
            refine wl_lenr (e := ty_70) (l := x0) Try.underlying64 rfl rfl h0_0 ?_
            refine wl_lss rfl rfl rfl ?_
            refine WL.nil ?_
            refine fun a ha => hK38 _ _ ?_ a ha
            refine W.cond rfl (fun h39 => ?_) (fun h39 => ?_)
            · replace hF := ifP h39 hF
              refine W.skip ?_
              refine fun a ha => hK37 _ _ ?_ a ha
              refine W.seq fun K40 hK40 => ?_
              obtain ⟨k47, hk47, hF⟩ := jE1 hF
              have hJ48 : ∀ (l44 : (List (List Int))) (v45 : Value) (F46 : List Nat) (w41 : World) (_ : k47 l44 = some r) (_ : Below w0.heap.size w0 w41) (_ : Sep w0.heap.size w41 [R.own ty_29 F46 v45 l44]), ∀ a, St 41 [(0, v0_0), (1, (.int .i64 x1)), (5, v45), (6, (.int .i64 y17)), (7, (.int .i64 y33)), (10, (.int .i64 (List.length x0 : Int))), (11, (.int .i64 y17))] a → K40 a w41 := by
                intro l44 v45 F46 w41 hF hB42 hS43
                subst hk47
                refine fun a ha => hK40 _ _ ?_ a ha
                refine W.region ?_
                refine wl_move rfl rfl ?_
                refine wl_add rfl rfl rfl ?_
                refine wl_assign rfl rfl ?_
                refine WL.nil ?_
                rw [hnx34] at hF
                exact fun a ha => hKL35 a _ m36 (Nat.lt_succ_self m36) ⟨l44, (w64 (y33 + 1)), v45, F46, ha.sub ⟨rfl, rfl, rfl, rfl, rfl, rfl, rfl, trivial⟩, hB42, (hS43.sel [0] rfl), hF⟩
              refine W.block ?_
              refine W.seq fun K49 hK49 => ?_
              refine W.regionH mixed_ [] hB28 hS29 ?_
              intro w50 hb51 hB52 hS53
              have hSW54 := KeepX.refl w50 []
              refine WH.takex (i := 0) rfl (by kernel_rfl) (by kernel_rfl) (by kernel_rfl) hP hSW54 ?_
              refine pr_move rfl rfl ?_
              refine WH.takex (i := 1) rfl (by kernel_rfl) (by kernel_rfl) (by kernel_rfl) hP hSW54 ?_
              refine pr_move rfl rfl ?_
              obtain ⟨u55, hu55, hF⟩ := bindE hF
              refine WH.takex (i := 2) rfl (by kernel_rfl) (by kernel_rfl) (by kernel_rfl) hP hSW54 ?_
              refine pr_index (e := ty_70) Try.underlying64 rfl rfl rfl h0_0 hu55 ?_
              rintro p56 _ rfl hp57
              refine WH.takex (i := 3) rfl (by kernel_rfl) (by kernel_rfl) (by kernel_rfl) hP hSW54 ?_
              refine pr_load_p (vs := [(.int .i64 u55.1.1), (.int .i64 u55.1.2), (.int .i64 u55.2.1.1), (.int .i64 u55.2.1.2), (.int .i64 u55.2.2)]) (v := (.agg #[(.int .i64 u55.1.1), (.int .i64 u55.1.2), (.int .i64 u55.2.1.1), (.int .i64 u55.2.1.2), (.int .i64 u55.2.2)])) tf_70 rfl rfl (hp57.kx hB52 (by simp)) rfl rfl ?_
              refine WH.takex (i := 4) rfl (by kernel_rfl) (by kernel_rfl) (by kernel_rfl) hP hSW54 ?_
              refine pr_move rfl rfl ?_
              refine WH.takex (i := 5) rfl (by kernel_rfl) (by kernel_rfl) (by kernel_rfl) hP hSW54 ?_
              refine pr_move rfl rfl ?_
              obtain ⟨u58, hu58, hF⟩ := bindE hF
              refine WH.takex (i := 6) rfl (by kernel_rfl) (by kernel_rfl) (by kernel_rfl) hP hSW54 ?_
              refine pr_index (e := ty_70) Try.underlying64 rfl rfl rfl h0_0 hu58 ?_
              rintro p59 _ rfl hp60
              refine WH.takex (i := 7) rfl (by kernel_rfl) (by kernel_rfl) (by kernel_rfl) hP hSW54 ?_
              refine pr_load_p (vs := [(.int .i64 u58.1.1), (.int .i64 u58.1.2), (.int .i64 u58.2.1.1), (.int .i64 u58.2.1.2), (.int .i64 u58.2.2)]) (v := (.agg #[(.int .i64 u58.1.1), (.int .i64 u58.1.2), (.int .i64 u58.2.1.1), (.int .i64 u58.2.1.2), (.int .i64 u58.2.2)])) tf_70 rfl rfl (hp60.kx hB52 (by simp)) rfl rfl ?_
              refine WH.takex (i := 8) rfl (by kernel_rfl) (by kernel_rfl) (by kernel_rfl) hP hSW54 ?_
              refine pr_move rfl rfl ?_
              refine WH.one (i := 9) (by kernel_rfl) rfl ?_
              obtain ⟨u61, hu61, hF⟩ := bindE hF
              refine wl_call rfl Try.call238 (C_impl_stayApart w50 u55 u58 x1 _ hu61) rfl ?_
              rintro _ w62 ⟨rfl, hb63⟩
              refine ⟨_, rfl, ?_⟩
              have hB64 := hB52.trans (hb63.mono hB52.size)
              have hS65 := hS53.below hb63
              have hSW67 := hSW54.ext hb63
              refine WL.nil (WH.ret hSW67 ?_)
              refine WH.takex (i := 10) rfl (by kernel_rfl) (by kernel_rfl) (by kernel_rfl) hP hSW67 ?_
              refine pr_not rfl rfl ?_
              refine WH.done (by kernel_rfl) ?_
              refine fun a ha => hK49 _ _ ?_ a ha
              refine W.cond rfl (fun h68 => ?_) (fun h68 => ?_)
              · replace hF := ifP h68 hF
                refine W.region ?_
                refine wl_move rfl rfl ?_
                refine wl_move rfl rfl ?_
                refine wl_move rfl rfl ?_
                refine wl_lit (vs := [(.int .i64 y17), (.int .i64 y33)]) (l := [y17, y33]) fl_3 Try.underlying29 rfl rfl rfl rfl rfl rfl hB64 hS65 ?_
                intro v69 F70 w71 hb72 hB73 hS74
                have hq75 := hS74.sel [0, 1] rfl
                have hq76 := hq75.head (r' := R.cel ty_29 F70 [v69] [y17, y33]) (rfl) fun _ h0 => ⟨_, rfl, h0⟩
                refine wl_lit1 (e := ty_29) (vs := [v69]) Try.underlying72 rfl rfl (cells_one (hS74.own_ro (i := 0) rfl).one) rfl hB73 hq76 ?_
                intro v77 F78 w79 hb80 hf81 hB82 hS83
                obtain ⟨u84, hu84, hF⟩ := bindE hF
                refine wl_appendn (e := ty_29) Try.underlying72 rfl rfl rfl hB82 (hS83.sel [1, 0] rfl) hu84 ?_
                intro v85 F86 w87 hk88 hB89 hS90
                refine wl_assign rfl rfl ?_
                refine WL.nil ?_
                exact fun a ha => hJ48 (u84) (v85) (F86) _ hF hB89 (hS90.sel [0] rfl) a (ha.sub ⟨rfl, rfl, rfl, rfl, rfl, rfl, rfl, trivial⟩)
              · replace hF := ifN h68 hF
                refine W.skip ?_
                exact fun a ha => hJ48 (l30) (v31) (F32) _ hF hB64 (hS65.sel [0] rfl) a (ha.sub ⟨rfl, rfl, rfl, rfl, rfl, rfl, rfl, trivial⟩)
            · replace hF := ifN h39 hF
              refine W.exit ?_
              refine fun a ha => hK24 _ _ ?_ a ha
              refine W.region ?_
              refine wl_add rfl rfl rfl ?_
              refine wl_move rfl rfl ?_
              refine WL.nil ?_
              rw [hnx18] at hF
              exact fun a ha => hKL19 a _ m20 (Nat.lt_succ_self m20) ⟨l30, (w64 (y17 + 1)), v31, F32, ha.sub ⟨rfl, rfl, rfl, rfl, rfl, trivial⟩, hB28, (hS29.sel [0] rfl), hF⟩
      · replace hF := ifN h23 hF
        refine W.exit ?_
        refine fun a ha => hK9 _ _ ?_ a ha
        refine W.seq fun K91 hK91 => ?_
        refine W.region ?_
        refine wl_move rfl rfl ?_
        refine wl_assign rfl rfl ?_
        refine WL.nil ?_
        refine fun a ha => hK91 _ _ ?_ a ha
        refine W.ret ?_
        have hr := Option.some.inj hF
        subst hr
        exact rets (vs := [v15]) hQ rfl ⟨rv_tmp rfl, trivial⟩ ⟨v15, F16, rfl, hB12, hS13.sel [0] rfl⟩
theorem C_impl_isPart (w0 : World) (x0 : ((List (List (Int × Int))) × (List Int) × Int × Int)) (v0_0 : Value) (h0_0 : rdS ty_63 (· < w0.heap.size) w0 v0_0 x0.1) (v0_1 : Value) (h0_1 : rdS ty_3 (· < w0.heap.size) w0 v0_1 x0.2.1) (x1 : Int) (r : Bool) (hF : F_impl_isPart x0 x1 = some r) :
    Calls Try.prog 163 [(.agg #[v0_0, v0_1, (.int .i64 x0.2.2.1), (.int .i64 x0.2.2.2)]), (.int .i64 x1)].toArray w0 fun e w' => e = .returned (.bool r) ∧ Below w0.heap.size w0 w' := by
  refine calls_mk' Try.func163 rfl Try.ntmps163 rfl rfl fun Q hQ hP => ?_
  have hB : Below w0.heap.size w0 w0 := Below.refl _ _
  have hS : Sep w0.heap.size w0 [] := Sep.nil _ _
  unfold F_impl_isPart at hF
  refine W.seq fun K1 hK1 => ?_
  refine W.region ?_
  refine wl_box (cs := [v0_0, v0_1, (.int .i64 x0.2.2.1), (.int .i64 x0.2.2.2)]) rfl rfl rfl hB hS ?_
  intro b2 w3 hb4 hB5 hS6
  refine wl_assign rfl rfl ?_
  refine WL.nil ?_
  refine fun a ha => hK1 _ _ ?_ a ha
  refine W.seq fun K7 hK7 => ?_
  obtain ⟨k12, hk12, hF⟩ := jE1 hF
  have hJ13 : ∀ (y11 : Bool) (w8 : World) (_ : k12 y11 = some r) (_ : Below w0.heap.size w0 w8) (_ : Sep w0.heap.size w8 []), ∀ a, St 15 [(4, (.bool y11))] a → K7 a w8 := by
    intro y11 w8 hF hB9 hS10
    subst hk12
    refine fun a ha => hK7 _ _ ?_ a ha
    refine W.ret ?_
    have hr := Option.some.inj hF
    subst hr
    exact rets (vs := [(.bool y11)]) hQ rfl ⟨rv_tmp rfl, trivial⟩ ⟨rfl, hB9⟩
  refine W.region ?_
  refine wl_load_blk (i := 0) (vs := [v0_0, v0_1, (.int .i64 x0.2.2.1), (.int .i64 x0.2.2.2)]) (v := (.agg #[v0_0, v0_1, (.int .i64 x0.2.2.1), (.int .i64 x0.2.2.2)])) tf_53 rfl rfl hS6 rfl rfl rfl ?_
  obtain ⟨u14, hu14, hF⟩ := bindE hF
  refine wl_call rfl Try.call60 (C_impl_IsShow w3 x0 v0_0 (h0_0.ro hB5) v0_1 (h0_1.ro hB5) _ hu14) rfl ?_
  rintro _ w15 ⟨rfl, hb16⟩
  refine ⟨_, rfl, ?_⟩
  have hB17 := hB5.trans (hb16.mono hB5.size)
  have hS18 := hS6.below hb16
  refine wl_move rfl rfl ?_
  rcases bE u14 with h20 | h20
  · replace hF := ifP h20 hF
    refine wl_on rfl rfl h20 ?_
    refine wl_move rfl rfl ?_
    refine wl_on rfl rfl h20 ?_
    refine wl_field (o := 1) (off' := 1) ff_53_1 rfl rfl rfl ?_
    refine wl_on rfl rfl h20 ?_
    refine wl_load_blk (i := 0) (vs := [v0_1]) (v := v0_1) tf_29 rfl rfl hS18 rfl rfl rfl ?_
    refine wl_on rfl rfl h20 ?_
    refine wl_lenr (e := ty_3) (l := x0.2.1) Try.underlying29 rfl rfl h0_1 ?_
    refine wl_on rfl rfl h20 ?_
    refine wl_sub rfl rfl rfl ?_
    refine wl_on rfl rfl h20 ?_
    obtain ⟨u21, hu21, hF⟩ := bindE hF
    refine wl_call rfl Try.call128 (C_impl_within w15 x1 0 (w64 ((List.length x0.2.1 : Int) - 1)) _ hu21) rfl ?_
    rintro _ w22 ⟨rfl, hb23⟩
    refine ⟨_, rfl, ?_⟩
    have hB24 := hB17.trans (hb23.mono hB17.size)
    have hS25 := hS18.below hb23
    refine wl_pick_t rfl rfl h20 rfl ?_
    refine wl_assign rfl rfl ?_
    refine WL.nil ?_
    exact fun a ha => hJ13 (u21) _ hF hB24 (hS25.sel [] rfl) a (ha.sub ⟨rfl, trivial⟩)
  · replace hF := ifN h20 hF
    refine wl_off rfl rfl rfl h20 ?_
    refine wl_off rfl rfl rfl h20 ?_
    refine wl_off rfl rfl rfl h20 ?_
    refine wl_off rfl rfl rfl h20 ?_
    refine wl_off rfl rfl rfl h20 ?_
    refine wl_off rfl rfl rfl h20 ?_
    refine wl_pick_f rfl rfl h20 rfl ?_
    refine wl_assign rfl rfl ?_
    refine WL.nil ?_
    exact fun a ha => hJ13 (false) _ hF hB17 (hS18.sel [] rfl) a (ha.sub ⟨rfl, trivial⟩)
theorem C_impl_ClosePairs (w0 : World) (x0 : ((List (List (Int × Int))) × (List Int) × Int × Int)) (v0_0 : Value) (h0_0 : rdS ty_63 (· < w0.heap.size) w0 v0_0 x0.1) (v0_1 : Value) (h0_1 : rdS ty_3 (· < w0.heap.size) w0 v0_1 x0.2.1) (x1 : Int) (r : ((List (List Int)) × Bool)) (hF : F_impl_ClosePairs x0 x1 = some r) :
    Calls Try.prog 51 [(.agg #[v0_0, v0_1, (.int .i64 x0.2.2.1), (.int .i64 x0.2.2.2)]), (.int .i64 x1)].toArray w0 fun e w' => ∃ (q0 : Value) (G0 : List Nat), e = .returned (.tuple #[q0, (.bool r.2)]) ∧ Below w0.heap.size w0 w' ∧ Sep w0.heap.size w' [R.own ty_29 G0 q0 r.1] := by
  refine calls_mk' Try.func51 rfl Try.ntmps51 rfl rfl fun Q hQ hP => ?_
  have hB : Below w0.heap.size w0 w0 := Below.refl _ _
  have hS : Sep w0.heap.size w0 [] := Sep.nil _ _
  unfold F_impl_ClosePairs at hF
  refine W.seq fun K1 hK1 => ?_
  refine W.region ?_
  refine wl_box (cs := [v0_0, v0_1, (.int .i64 x0.2.2.1), (.int .i64 x0.2.2.2)]) rfl rfl rfl hB hS ?_
  intro b2 w3 hb4 hB5 hS6
  refine wl_assign rfl rfl ?_
  refine wl_assign rfl rfl ?_
  refine WL.nil ?_
  refine fun a ha => hK1 _ _ ?_ a ha
  refine W.seq fun K7 hK7 => ?_
  refine W.seq fun K8 hK8 => ?_
  refine W.region ?_
  refine wl_load_blk (i := 0) (vs := [v0_0, v0_1, (.int .i64 x0.2.2.1), (.int .i64 x0.2.2.2)]) (v := (.agg #[v0_0, v0_1, (.int .i64 x0.2.2.1), (.int .i64 x0.2.2.2)])) tf_53 rfl rfl hS6 rfl rfl rfl ?_
  refine wl_move rfl rfl ?_
  obtain ⟨u9, hu9, hF⟩ := bindE hF
  refine wl_call rfl Try.call163 (C_impl_isPart w3 x0 v0_0 (h0_0.ro hB5) v0_1 (h0_1.ro hB5) x1 _ hu9) rfl ?_
  rintro _ w10 ⟨rfl, hb11⟩
  refine ⟨_, rfl, ?_⟩
  have hB12 := hB5.trans (hb11.mono hB5.size)
  have hS13 := hS6.below hb11
  refine wl_not rfl rfl ?_
  refine WL.nil ?_
  refine fun a ha => hK8 _ _ ?_ a ha
  refine W.cond rfl (fun h15 => ?_) (fun h15 => ?_)
  · replace hF := ifP h15 hF
    refine W.seq fun K16 hK16 => ?_
    refine W.region ?_
    refine wl_assign rfl rfl ?_
    refine wl_assign rfl rfl ?_
    refine WL.nil ?_
    refine fun a ha => hK16 _ _ ?_ a ha
    refine W.ret ?_
    have hS17 := hS13.push0 (r := R.own ty_29 [] (.slice none 0 0) []) rfl fun _ => .inl ⟨rfl, rfl, rfl⟩
    have hr := Option.some.inj hF
    subst hr
    exact rets (vs := [(.slice none 0 0), (.bool false)]) hQ rfl ⟨rv_tmp rfl, rv_tmp rfl, trivial⟩ ⟨(.slice none 0 0), [], rfl, hB12, hS17.sel [0] rfl⟩
  · replace hF := ifN h15 hF
    refine W.skip ?_
    refine fun a ha => hK7 _ _ ?_ a ha
    refine W.seq fun K18 hK18 => ?_
    refine W.regionH mixed_ [] hB12 hS13 ?_
    intro w19 hb20 hB21 hS22
    have hSW23 := KeepX.refl w19 []
    refine WH.takex (i := 0) rfl (by kernel_rfl) (by kernel_rfl) (by kernel_rfl) hP hSW23 ?_
    refine pr_load_blk (i := 0) (vs := [v0_0, v0_1, (.int .i64 x0.2.2.1), (.int .i64 x0.2.2.2)]) (v := (.agg #[v0_0, v0_1, (.int .i64 x0.2.2.1), (.int .i64 x0.2.2.2)])) tf_53 rfl rfl hS22 rfl rfl rfl (by simp) ?_
    refine WH.takex (i := 1) rfl (by kernel_rfl) (by kernel_rfl) (by kernel_rfl) hP hSW23 ?_
    refine pr_move rfl rfl ?_
    refine WH.takex (i := 3) rfl (by kernel_rfl) (by kernel_rfl) (by kernel_rfl) hP hSW23 ?_
    refine pr_field (o := 2) (off' := 2) ff_53_2 rfl rfl rfl ?_
    refine WH.takex (i := 4) rfl (by kernel_rfl) (by kernel_rfl) (by kernel_rfl) hP hSW23 ?_
    refine pr_load_blk (i := 0) (vs := [(.int .i64 x0.2.2.1)]) (v := (.int .i64 x0.2.2.1)) tf_3 rfl rfl hS22 rfl rfl rfl (by simp) ?_
    refine WH.one (i := 2) (by kernel_rfl) rfl ?_
    obtain ⟨u24, hu24, hF⟩ := bindE hF
    refine wl_call rfl Try.call152 (C_impl_showMoves w19 x0 v0_0 (h0_0.ro hB21) v0_1 (h0_1.ro hB21) x1 _ hu24) rfl ?_
    rintro _ w27 ⟨v25, F26, rfl, hb28, hM31⟩
    refine ⟨_, rfl, ?_⟩
    have hB29 := hB21.trans (hb28.mono hB21.size)
    have hn32 : ∀ b ∈ F26, w19.heap.size ≤ b := fun b hb => Nat.le_trans hSW23.size ((hM31.get (i := 0) rfl).2.1 b hb).1
    have hS30 := hS22.join hb28 hM31 hB21.size
    have hSW33 := hSW23.ext hb28
    refine WL.nil (WH.ret hSW33 ?_)
    refine WH.one (i := 5) (by kernel_rfl) rfl ?_
    obtain ⟨u34, hu34, hF⟩ := bindE hF
    refine wl_call rfl Try.call162 (C_impl_pairsTooClose w27 u24 v25 (hS30.own_ro (i := 0) rfl) x0.2.2.1 _ hu34) rfl ?_
    rintro _ w37 ⟨v35, F36, rfl, hb38, hM41⟩
    refine ⟨_, rfl, ?_⟩
    have hB39 := hB29.trans (hb38.mono hB29.size)
    have hn42 : ∀ b ∈ F36, w19.heap.size ≤ b := fun b hb => Nat.le_trans hSW33.size ((hM41.get (i := 0) rfl).2.1 b hb).1
    have hS40 := hS30.join hb38 hM41 hB29.size
    have hSW43 := hSW33.ext hb38
    refine WL.nil (WH.ret hSW43 ?_)
    refine WH.takex (i := 6) rfl (by kernel_rfl) (by kernel_rfl) (by kernel_rfl) hP hSW43 ?_
    refine pr_assign rfl rfl ?_
    refine WH.takex (i := 7) rfl (by kernel_rfl) (by kernel_rfl) (by kernel_rfl) hP hSW43 ?_
    refine pr_assign rfl rfl ?_
    refine WH.done (by kernel_rfl) ?_
    refine fun a ha => hK18 _ _ ?_ a ha
    refine W.ret ?_
    have hr := Option.some.inj hF
    subst hr
    exact rets (vs := [v35, (.bool true)]) hQ rfl ⟨rv_tmp rfl, rv_tmp rfl, trivial⟩ ⟨v35, F36, rfl, hB39, hS40.sel [0] rfl⟩
theorem C_laws_big (w0 : World) (x0 : (List Int)) (v0_0 : Value) (h0_0 : rdS ty_5 (· < w0.heap.size) w0 v0_0 x0) (x1 : (List Int)) (v1_0 : Value) (h1_0 : rdS ty_5 (· < w0.heap.size) w0 v1_0 x1) (r : Bool) (hF : F_laws_big x0 x1 = some r) :
    Calls Try.prog 54 [v0_0, v1_0].toArray w0 fun e w' => e = .returned (.bool r) ∧ Below w0.heap.size w0 w' := by
  refine calls_mk' Try.func54 rfl Try.ntmps54 rfl rfl fun Q hQ hP => ?_
  have hB : Below w0.heap.size w0 w0 := Below.refl _ _
  have hS : Sep w0.heap.size w0 [] := Sep.nil _ _
  unfold F_laws_big at hF
  refine W.seq fun K1 hK1 => ?_
  refine W.region ?_
  refine wl_assign rfl rfl ?_
  refine WL.nil ?_
  refine fun a ha => hK1 _ _ ?_ a ha
  refine W.seq fun K2 hK2 => ?_
  obtain ⟨k7, hk7, hF⟩ := jE1 hF
  have hJ8 : ∀ (y6 : Bool) (w3 : World) (_ : k7 y6 = some r) (_ : Below w0.heap.size w0 w3) (_ : Sep w0.heap.size w3 []), ∀ a, St 16 [(4, (.bool y6))] a → K2 a w3 := by
    intro y6 w3 hF hB4 hS5
    subst hk7
    refine fun a ha => hK2 _ _ ?_ a ha
    refine W.ret ?_
    have hr := Option.some.inj hF
    subst hr
    exact rets (vs := [(.bool y6)]) hQ rfl ⟨rv_tmp rfl, trivial⟩ ⟨rfl, hB4⟩
  refine W.region ?_
  refine wl_move rfl rfl ?_
  refine wl_lenr (e := ty_5) (l := x0) Try.underlying22 rfl rfl h0_0 ?_
  refine wl_gtr rfl rfl rfl ?_
  refine wl_move rfl rfl ?_
  rcases bE (decide (1048576 < (List.length x0 : Int))) with h9 | h9
  · replace hF := ifP h9 hF
    refine wl_off rfl rfl rfl h9 ?_
    refine wl_off rfl rfl rfl h9 ?_
    refine wl_off rfl rfl rfl h9 ?_
    refine wl_off rfl rfl rfl h9 ?_
    refine wl_off rfl rfl rfl h9 ?_
    refine wl_off rfl rfl rfl h9 ?_
    refine wl_pick_t rfl rfl h9 rfl ?_
    refine wl_assign rfl rfl ?_
    refine WL.nil ?_
    exact fun a ha => hJ8 (true) _ hF hB (hS.sel [] rfl) a (ha.sub ⟨rfl, trivial⟩)
  · replace hF := ifN h9 hF
    refine wl_on rfl rfl h9 ?_
    refine wl_move rfl rfl ?_
    refine wl_on rfl rfl h9 ?_
    refine wl_lenr (e := ty_5) (l := x1) Try.underlying22 rfl rfl h1_0 ?_
    refine wl_on rfl rfl h9 ?_
    refine wl_move rfl rfl ?_
    refine wl_on rfl rfl h9 ?_
    refine wl_lenr (e := ty_5) (l := x0) Try.underlying22 rfl rfl h0_0 ?_
    refine wl_on rfl rfl h9 ?_
    refine wl_sub rfl rfl rfl ?_
    refine wl_on rfl rfl h9 ?_
    refine wl_gtr rfl rfl rfl ?_
    refine wl_pick_f rfl rfl h9 rfl ?_
    refine wl_assign rfl rfl ?_
    refine WL.nil ?_
    exact fun a ha => hJ8 ((decide ((w64 (1048576 - (List.length x0 : Int))) < (List.length x1 : Int)))) _ hF hB (hS.sel [] rfl) a (ha.sub ⟨rfl, trivial⟩)
theorem C_spec_DrawAddShowChart (w0 : World) (x0 : (List Int)) (v0_0 : Value) (h0_0 : rdS ty_5 (· < w0.heap.size) w0 v0_0 x0) (r : (((List (List (Int × Int))) × (List Int) × Int × Int) × (List (Int × Int)) × Int)) (hF : F_spec_DrawAddShowChart x0 = some r) :
    Calls Try.prog 55 [v0_0].toArray w0 fun e w' => ∃ (q0 : Value) (G0 : List Nat) (q1 : Value) (G1 : List Nat) (q2 : Value) (G2 : List Nat), e = .returned (.tuple #[(.agg #[q0, q1, (.int .i64 r.1.2.2.1), (.int .i64 r.1.2.2.2)]), q2, (.int .i64 r.2.2)]) ∧ Below w0.heap.size w0 w' ∧ Sep w0.heap.size w' [R.own ty_63 G0 q0 r.1.1, R.own ty_3 G1 q1 r.1.2.1, R.own ty_68 G2 q2 r.2.1] := by
  refine calls_mk' Try.func55 rfl Try.ntmps55 rfl rfl fun Q hQ hP => ?_
  have hB : Below w0.heap.size w0 w0 := Below.refl _ _
  have hS : Sep w0.heap.size w0 [] := Sep.nil _ _
  unfold F_spec_DrawAddShowChart at hF
  refine W.seq fun K1 hK1 => ?_
  refine W.region ?_
  refine wl_alloc (cs := [(.slice none 0 0), (.slice none 0 0), (.int .i64 0), (.int .i64 0)]) tf_53 rfl rfl hB hS ?_
  intro b2 w3 hb4 hB5 hS6
  refine wl_assign rfl rfl ?_
  refine wl_assign rfl rfl ?_
  refine WL.nil ?_
  refine fun a ha => hK1 _ _ ?_ a ha
  refine W.seq fun K7 hK7 => ?_
  refine W.region ?_
  refine wl_move rfl rfl ?_
  refine wl_build (zs := [(.slice none 0 0), (.int .i64 0), (.int .u64 0)]) (out := [v0_0, (.int .i64 0), (.int .u64 0)]) (vs := [v0_0]) (css := [[v0_0]]) tf_131 pl_131 rfl rfl (by simp only [List.map_cons, List.map_nil, cells_one ((h0_0.ro hB5).one)] <;> rfl) rfl rfl ?_
  refine wl_box (cs := [v0_0, (.int .i64 0), (.int .u64 0)]) rfl rfl rfl hB5 hS6 ?_
  intro b8 w9 hb10 hB11 hS12
  refine wl_assign rfl rfl ?_
  refine WL.nil ?_
  refine fun a ha => hK7 _ _ ?_ a ha
  refine W.seq fun K13 hK13 => ?_
  refine W.region ?_
  refine wl_move rfl rfl ?_
  obtain ⟨u14, hu14, hF⟩ := bindE hF
  refine wl_call rfl Try.call149 (C_spec_l1Cur__show__mut__box w9 (x0, 0, 0) b8 v0_0 (h0_0.oldo hB11 (hS12.sel [0] rfl)) (hS12.sel [0] rfl).base0 _ hu14) rfl ?_
  rintro _ w15 ⟨v20, F21, v22, F23, rfl, hE16, hM17⟩
  refine ⟨_, rfl, ?_⟩
  have hB18 := hS12.takeB [0] rfl (M := [R.blk b8 131 [v0_0, (.int .i64 0), (.int .u64 0)]]) rfl hB11 hE16 hM17
  have hS19 : Sep w0.heap.size w15 [R.blk b8 131 [v0_0, (.int .i64 u14.2.2.1), (.int .u64 u14.2.2.2)], R.own ty_63 F21 v20 u14.1.1, R.own ty_3 F23 v22 u14.1.2.1, R.blk b2 53 [(.slice none 0 0), (.slice none 0 0), (.int .i64 0), (.int .i64 0)]] := hS12.take [0] [1] rfl (M := [R.blk b8 131 [v0_0, (.int .i64 0), (.int .u64 0)]]) rfl hM17 hB11.size
  refine wl_alloc (cs := [(.slice none 0 0), (.slice none 0 0), (.int .i64 0), (.int .i64 0)]) tf_53 rfl rfl hB18 hS19 ?_
  intro b24 w25 hb26 hB27 hS28
  refine wl_store_blk (i := 0) (vs := [v20, v22, (.int .i64 u14.1.2.2.1), (.int .i64 u14.1.2.2.2)]) (cs' := [v20, v22, (.int .i64 u14.1.2.2.1), (.int .i64 u14.1.2.2.2)]) tf_53 rfl rfl rfl rfl hB27 hS28 rfl rfl ⟨(hS28.own_ro (i := 2) rfl).one, (hS28.own_ro (i := 3) rfl).one, rfl, rfl, trivial⟩ rfl ?_
  intro w29 hk32 hB30 hS31
  refine WL.nil ?_
  refine fun a ha => hK13 _ _ ?_ a ha
  refine W.seq fun K33 hK33 => ?_
  refine W.region ?_
  refine wl_move rfl rfl ?_
  obtain ⟨u34, hu34, hF⟩ := bindE hF
  refine wl_call rfl Try.call165 (C_spec_l1Cur__chart__mut__box w29 (x0, u14.2.2.1, u14.2.2.2) b8 v0_0 (h0_0.oldo hB30 (hS31.sel [1] rfl)) (hS31.sel [1] rfl).base0 _ hu34) rfl ?_
  rintro _ w35 ⟨v40, F41, rfl, hE36, hM37⟩
  refine ⟨_, rfl, ?_⟩
  have hB38 := hS31.takeB [1] rfl (M := [R.blk b8 131 [v0_0, (.int .i64 u14.2.2.1), (.int .u64 u14.2.2.2)]]) rfl hB30 hE36 hM37
  have hS39 : Sep w0.heap.size w35 [R.blk b8 131 [v0_0, (.int .i64 u34.2.2.1), (.int .u64 u34.2.2.2)], R.own ty_68 F41 v40 u34.1, R.blk b24 53 [v20, v22, (.int .i64 u14.1.2.2.1), (.int .i64 u14.1.2.2.2)], R.own ty_63 F21 v20 u14.1.1, R.own ty_3 F23 v22 u14.1.2.1, R.blk b2 53 [(.slice none 0 0), (.slice none 0 0), (.int .i64 0), (.int .i64 0)]] := hS31.take [1] [0, 2, 3, 4] rfl (M := [R.blk b8 131 [v0_0, (.int .i64 u14.2.2.1), (.int .u64 u14.2.2.2)]]) rfl hM37 hB30.size
  refine wl_assign rfl rfl ?_
  refine WL.nil ?_
  refine fun a ha => hK33 _ _ ?_ a ha
  refine W.seq fun K42 hK42 => ?_
  obtain ⟨k51, hk51, hF⟩ := jE3 hF
  have hJ52 : ∀ (y46 : Int) (y47 : Int) (l48 : (List (Int × Int))) (v49 : Value) (F50 : List Nat) (w43 : World) (_ : k51 y46 y47 l48 = some r) (_ : Below w0.heap.size w0 w43) (_ : Sep w0.heap.size w43 [R.blk b2 53 [(.slice none 0 0), (.slice none 0 0), (.int .i64 0), (.int .i64 0)], R.blk b8 131 [v0_0, (.int .i64 y46), (.int .u64 y47)], R.own ty_63 F21 v20 u14.1.1, R.own ty_3 F23 v22 u14.1.2.1, R.blk b24 53 [v20, v22, (.int .i64 u14.1.2.2.1), (.int .i64 u14.1.2.2.2)], R.own ty_68 F50 v49 l48]), ∀ a, St 41 [(2, (.pointer (some ⟨b2, 0, none⟩))), (5, (.pointer (some ⟨b8, 0, none⟩))), (6, (.pointer (some ⟨b24, 0, none⟩))), (7, v49)] a → K42 a w43 := by
    intro y46 y47 l48 v49 F50 w43 hF hB44 hS45
    subst hk51
    refine fun a ha => hK42 _ _ ?_ a ha
    refine W.seq fun K53 hK53 => ?_
    refine W.regionH mixed_ ([b2] ++ [b8]) hB44 hS45 ?_
    intro w54 hb55 hB56 hS57
    have hSW58 := KeepX.refl w54 ([b2] ++ [b8])
    refine WH.takex (i := 0) rfl (by kernel_rfl) (by kernel_rfl) (by kernel_rfl) hP hSW58 ?_
    refine pr_load_blk (i := 4) (vs := [v20, v22, (.int .i64 u14.1.2.2.1), (.int .i64 u14.1.2.2.2)]) (v := (.agg #[v20, v22, (.int .i64 u14.1.2.2.1), (.int .i64 u14.1.2.2.2)])) tf_53 rfl rfl hS57 rfl rfl rfl (fun hb => (List.mem_append.1 hb).elim (hS57.disj (i := 4) (j := 0) rfl rfl rfl b24 (by simp [R.blk])) (hS57.disj (i := 4) (j := 1) rfl rfl rfl b24 (by simp [R.blk]))) ?_
    refine WH.takex (i := 1) rfl (by kernel_rfl) (by kernel_rfl) (by kernel_rfl) hP hSW58 ?_
    refine pr_move rfl rfl ?_
    refine WH.takex (i := 2) rfl (by kernel_rfl) (by kernel_rfl) (by kernel_rfl) hP hSW58 ?_
    refine pr_move rfl rfl ?_
    refine WH.takex (i := 3) rfl (by kernel_rfl) (by kernel_rfl) (by kernel_rfl) hP hSW58 ?_
    refine pr_move rfl rfl ?_
    refine WH.one (i := 4) (by kernel_rfl) rfl ?_
    refine wl_lit (vs := [(.int .i64 0), (.int .i64 65)]) (l := [0, 65]) fl_3 Try.underlying29 rfl rfl rfl rfl rfl rfl (Below.self w54) (Sep.nil _ _) ?_
    intro v59 F60 w61 hb62 hB65 hM66
    have hB63 := hB56.trans (hb62.mono hB56.size)
    have hS64 := hS57.join hb62 hM66 hB56.size
    have hn67 : ∀ b ∈ F60, w54.heap.size ≤ b := fun b hb => Nat.le_trans hSW58.size ((hM66.1 _ (List.mem_cons_self ..)).2.1 b hb).1
    have hSW68 := hSW58.ext hb62
    have hbS69 : Below w54.heap.size w54 w61 := hb62
    refine WL.nil (WH.ret hSW68 ?_)
    refine WH.one (i := 5) (by kernel_rfl) rfl ?_
    obtain ⟨u70, hu70, hF⟩ := bindE hF
    refine wl_call rfl Try.call136 (C_spec_l1Cur__among__mut__box w61 (x0, y46, y47) b8 v0_0 (h0_0.oldo hB63 (hS64.sel [2] rfl)) [0, 65] v59 (own_out (hS64.sel [0, 2] rfl)) (hS64.sel [2] rfl).base0 _ hu70) rfl ?_
    rintro _ w71 ⟨rfl, hE72, hM73⟩
    refine ⟨_, rfl, ?_⟩
    have hB74 := hS64.takeB [2] rfl (M := [R.blk b8 131 [v0_0, (.int .i64 y46), (.int .u64 y47)]]) rfl hB63 hE72 hM73
    have hS75 : Sep w0.heap.size w71 [R.blk b8 131 [v0_0, (.int .i64 u70.2.2.1), (.int .u64 u70.2.2.2)], R.own ty_3 F60 v59 [0, 65], R.blk b2 53 [(.slice none 0 0), (.slice none 0 0), (.int .i64 0), (.int .i64 0)], R.own ty_63 F21 v20 u14.1.1, R.own ty_3 F23 v22 u14.1.2.1, R.blk b24 53 [v20, v22, (.int .i64 u14.1.2.2.1), (.int .i64 u14.1.2.2.2)], R.own ty_68 F50 v49 l48] := hS64.take [2] [0, 1, 3, 4, 5, 6] rfl (M := [R.blk b8 131 [v0_0, (.int .i64 y46), (.int .u64 y47)]]) rfl hM73 hB63.size
    have hk76 := box_kept hM73
    have hSW77 := hSW68.wr' hk76.1 hk76.2.1 (fun _ _ h => List.mem_append_right _ h)
    have hbs78 : ∀ b, b < w54.heap.size → b ∈ [b8] → b ∈ ([b2] ++ [b8]) := fun b hlt hb => (hk76.2.2 b hb).elim ((fun _ _ h => List.mem_append_right _ h) b hlt) (fun h => absurd hlt (Nat.not_lt.2 (Nat.le_trans hSW68.size h)))
    refine WL.nil (WH.ret hSW77 ?_)
    refine WH.one (i := 6) (by kernel_rfl) rfl ?_
    refine wl_lit (vs := [(.int .i64 1), (.int .i64 8), (.int .i64 64), (.int .i64 u70.1)]) (l := [1, 8, 64, u70.1]) fl_3 Try.underlying29 rfl rfl rfl rfl rfl rfl (Below.self w71) (Sep.nil _ _) ?_
    intro v79 F80 w81 hb82 hB85 hM86
    have hB83 := hB74.trans (hb82.mono hB74.size)
    have hS84 := hS75.join hb82 hM86 hB74.size
    have hn87 : ∀ b ∈ F80, w54.heap.size ≤ b := fun b hb => Nat.le_trans hSW77.size ((hM86.1 _ (List.mem_cons_self ..)).2.1 b hb).1
    have hSW88 := hSW77.ext hb82
    refine WL.nil (WH.ret hSW88 ?_)
    refine WH.one (i := 7) (by kernel_rfl) rfl ?_
    obtain ⟨u89, hu89, hF⟩ := bindE hF
    refine wl_call rfl Try.call136 (C_spec_l1Cur__among__mut__box w81 (x0, u70.2.2.1, u70.2.2.2) b8 v0_0 (h0_0.oldo hB83 (hS84.sel [1] rfl)) [1, 8, 64, u70.1] v79 (own_out (hS84.sel [0, 1] rfl)) (hS84.sel [1] rfl).base0 _ hu89) rfl ?_
    rintro _ w90 ⟨rfl, hE91, hM92⟩
    refine ⟨_, rfl, ?_⟩
    have hB93 := hS84.takeB [1] rfl (M := [R.blk b8 131 [v0_0, (.int .i64 u70.2.2.1), (.int .u64 u70.2.2.2)]]) rfl hB83 hE91 hM92
    have hS94 : Sep w0.heap.size w90 [R.blk b8 131 [v0_0, (.int .i64 u89.2.2.1), (.int .u64 u89.2.2.2)], R.own ty_3 F80 v79 [1, 8, 64, u70.1], R.own ty_3 F60 v59 [0, 65], R.blk b2 53 [(.slice none 0 0), (.slice none 0 0), (.int .i64 0), (.int .i64 0)], R.own ty_63 F21 v20 u14.1.1, R.own ty_3 F23 v22 u14.1.2.1, R.blk b24 53 [v20, v22, (.int .i64 u14.1.2.2.1), (.int .i64 u14.1.2.2.2)], R.own ty_68 F50 v49 l48] := hS84.take [1] [0, 2, 3, 4, 5, 6, 7] rfl (M := [R.blk b8 131 [v0_0, (.int .i64 u70.2.2.1), (.int .u64 u70.2.2.2)]]) rfl hM92 hB83.size
    have hk95 := box_kept hM92
    have hSW96 := hSW88.wr' hk95.1 hk95.2.1 (hbs78)
    have hbs97 : ∀ b, b < w54.heap.size → b ∈ [b8] → b ∈ ([b2] ++ [b8]) := fun b hlt hb => (hk95.2.2 b hb).elim ((hbs78) b hlt) (fun h => absurd hlt (Nat.not_lt.2 (Nat.le_trans hSW88.size h)))
    refine WL.nil (WH.ret hSW96 ?_)
    refine WH.one (i := 8) (by kernel_rfl) rfl ?_
    refine wl_store_blk (i := 3) (vs := [v20, v22, (.int .i64 u14.1.2.2.1), (.int .i64 u14.1.2.2.2)]) (cs' := [v20, v22, (.int .i64 u14.1.2.2.1), (.int .i64 u14.1.2.2.2)]) tf_53 rfl rfl rfl rfl hB93 hS94 rfl rfl ⟨(hS94.own_ro (i := 4) rfl).one, (hS94.own_ro (i := 5) rfl).one, rfl, rfl, trivial⟩ rfl ?_
    intro w98 hk101 hB99 hS100
    have hSW102 := hSW96.wr' hk101.1 hk101.2.1 (fun _ _ h => List.mem_append_left _ (h))
    have hbs103 : ∀ b, b < w54.heap.size → b ∈ [b2] → b ∈ ([b2] ++ [b8]) := fun b hlt hb => (hk101.2.2 b hb).elim ((fun _ _ h => List.mem_append_left _ (h)) b hlt) (fun h => absurd hlt (Nat.not_lt.2 (Nat.le_trans hSW96.size h)))
    refine WL.nil (WH.ret hSW102 ?_)
    refine WH.takex (i := 9) rfl (by kernel_rfl) (by kernel_rfl) (by kernel_rfl) hP hSW102 ?_
    refine pr_assign rfl rfl ?_
    refine WH.takex (i := 10) rfl (by kernel_rfl) (by kernel_rfl) (by kernel_rfl) hP hSW102 ?_
    refine pr_assign rfl rfl ?_
    refine WH.done (by kernel_rfl) ?_
    refine fun a ha => hK53 _ _ ?_ a ha
    refine W.ret ?_
    have hr := Option.some.inj hF
    subst hr
    exact rets (vs := [(.agg #[v20, v22, (.int .i64 u14.1.2.2.1), (.int .i64 u14.1.2.2.2)]), v49, (.int .i64 u89.1)]) hQ rfl ⟨rv_cell (i := 3) tf_53 rfl hS100 rfl rfl rfl, rv_tmp rfl, rv_tmp rfl, trivial⟩ ⟨v20, F21, v22, F23, v49, F50, rfl, hB99, hS100.sel [4, 5, 7] rfl⟩
  refine W.seq fun K104 hK104 => ?_
  obtain ⟨k111, hk111, hF⟩ := jE3 hF
  have hJ112 : ∀ (y108 : Int) (y109 : Int) (y110 : Bool) (w105 : World) (_ : k111 y108 y109 y110 = some r) (_ : Below w0.heap.size w0 w105) (_ : Sep w0.heap.size w105 [R.blk b2 53 [(.slice none 0 0), (.slice none 0 0), (.int .i64 0), (.int .i64 0)], R.blk b8 131 [v0_0, (.int .i64 y108), (.int .u64 y109)], R.own ty_63 F21 v20 u14.1.1, R.own ty_3 F23 v22 u14.1.2.1, R.blk b24 53 [v20, v22, (.int .i64 u14.1.2.2.1), (.int .i64 u14.1.2.2.2)], R.own ty_68 F41 v40 u34.1]), ∀ a, St 41 [(2, (.pointer (some ⟨b2, 0, none⟩))), (5, (.pointer (some ⟨b8, 0, none⟩))), (6, (.pointer (some ⟨b24, 0, none⟩))), (7, v40), (23, (.bool y110))] a → K104 a w105 := by
    intro y108 y109 y110 w105 hF hB106 hS107
    subst hk111
    refine fun a ha => hK104 _ _ ?_ a ha
    refine W.cond rfl (fun h113 => ?_) (fun h113 => ?_)
    · replace hF := ifP h113 hF
      refine W.region ?_
      refine wl_move rfl rfl ?_
      refine wl_field (o := 0) (off' := 0) ff_53_0 rfl rfl rfl ?_
      refine wl_load_blk (i := 4) (vs := [v20]) (v := v20) tf_51 rfl rfl hS107 rfl rfl rfl ?_
      obtain ⟨u114, hu114, hF⟩ := bindE hF
      refine wl_indexoF (e := ty_63) (i := 2) Try.underlying51 rfl rfl rfl hS107 rfl hu114 ?_
      rintro p115 _ ⟨v117, rfl, hv118⟩ hp116 ho119
      refine wl_load_p (vs := [v117]) (v := v117) tf_63 rfl rfl hp116 rfl rfl ?_
      refine wl_lenr (e := ty_68) (l := u114) Try.underlying63 rfl rfl (hv118.mono (fun b hb => ((hS107.get (i := 2) rfl).2.1 b hb).2)) ?_
      obtain ⟨u120, hu120, hF⟩ := bindE hF
      refine wl_call rfl Try.call167 (C_spec_l1Least w105 12 (List.length u114 : Int) _ hu120) rfl ?_
      rintro _ w121 ⟨rfl, hb122⟩
      refine ⟨_, rfl, ?_⟩
      have hB123 := hB106.trans (hb122.mono hB106.size)
      have hS124 := hS107.below hb122
      have hp116 := hp116.keepS (fun b hb => hb122.block b (((hS107.get (i := 2) rfl).2.1 b hb).2)) (fun _ h => h)
      have hv118 := hv118.keep (fun b hb => hb122.block b (((hS107.get (i := 2) rfl).2.1 b hb).2))
      obtain ⟨u126, hu126, hF⟩ := bindE hF
      refine wl_call rfl Try.call131 (C_spec_l1Most w121 1 u120 _ hu126) rfl ?_
      rintro _ w127 ⟨rfl, hb128⟩
      refine ⟨_, rfl, ?_⟩
      have hB129 := hB123.trans (hb128.mono hB123.size)
      have hS130 := hS124.below hb128
      have hp116 := hp116.keepS (fun b hb => hb128.block b (((hS124.get (i := 2) rfl).2.1 b hb).2)) (fun _ h => h)
      have hv118 := hv118.keep (fun b hb => hb128.block b (((hS124.get (i := 2) rfl).2.1 b hb).2))
      obtain ⟨u132, hu132, hF⟩ := bindE hF
      refine wl_call rfl Try.call166 (C_spec_l1Cur__chartOf__mut__box w127 (x0, y108, y109) b8 v0_0 (h0_0.oldo hB129 (hS130.sel [1] rfl)) u126 (hS130.sel [1] rfl).base0 _ hu132) rfl ?_
      rintro _ w133 ⟨v138, F139, rfl, hE134, hM135⟩
      refine ⟨_, rfl, ?_⟩
      have hB136 := hS130.takeB [1] rfl (M := [R.blk b8 131 [v0_0, (.int .i64 y108), (.int .u64 y109)]]) rfl hB129 hE134 hM135
      have hS137 : Sep w0.heap.size w133 [R.blk b8 131 [v0_0, (.int .i64 u132.2.2.1), (.int .u64 u132.2.2.2)], R.own ty_68 F139 v138 u132.1, R.blk b2 53 [(.slice none 0 0), (.slice none 0 0), (.int .i64 0), (.int .i64 0)], R.own ty_63 F21 v20 u14.1.1, R.own ty_3 F23 v22 u14.1.2.1, R.blk b24 53 [v20, v22, (.int .i64 u14.1.2.2.1), (.int .i64 u14.1.2.2.2)], R.own ty_68 F41 v40 u34.1] := hS130.take [1] [0, 2, 3, 4, 5] rfl (M := [R.blk b8 131 [v0_0, (.int .i64 y108), (.int .u64 y109)]]) rfl hM135 hB129.size
      have hp116 := hp116.keepS (fun b hb => mut_kept hM135 b (((hS130.get (i := 2) rfl).2.1 b hb).2) (nf_cons (hS130.disj (i := 2) (j := 1) rfl rfl rfl b hb) nf_nil)) (fun _ h => h)
      have hv118 := hv118.keep (fun b hb => mut_kept hM135 b (((hS130.get (i := 2) rfl).2.1 b hb).2) (nf_cons (hS130.disj (i := 2) (j := 1) rfl rfl rfl b hb) nf_nil))
      refine wl_assign rfl rfl ?_
      refine WL.nil ?_
      exact fun a ha => hJ52 (u132.2.2.1) (u132.2.2.2) (u132.1) (v138) (F139) _ hF hB136 (hS137.sel [2, 0, 3, 4, 5, 1] rfl) a (ha.sub ⟨rfl, rfl, rfl, rfl, trivial⟩)
    · replace hF := ifN h113 hF
      refine W.skip ?_
      exact fun a ha => hJ52 (y108) (y109) (u34.1) (v40) (F41) _ hF hB106 (hS107.sel [0, 1, 2, 3, 4, 5] rfl) a (ha.sub ⟨rfl, rfl, rfl, rfl, trivial⟩)
  refine W.region ?_
  refine wl_field (o := 0) (off' := 0) ff_53_0 rfl rfl rfl ?_
  refine wl_load_blk (i := 2) (vs := [v20]) (v := v20) tf_51 rfl rfl hS39 rfl rfl rfl ?_
  refine wl_lenr (e := ty_63) (l := u14.1.1) Try.underlying51 rfl rfl (hS39.own_ro (i := 3) rfl) ?_
  refine wl_gtr rfl rfl rfl ?_
  refine wl_move rfl rfl ?_
  rcases bE (decide (0 < (List.length u14.1.1 : Int))) with h140 | h140
  · replace hF := ifP h140 hF
    refine wl_on rfl rfl h140 ?_
    refine wl_move rfl rfl ?_
    refine wl_on rfl rfl h140 ?_
    obtain ⟨u141, hu141, hF⟩ := bindE hF
    refine wl_call rfl Try.call130 (C_spec_l1Cur__one__mut__box w35 (x0, u34.2.2.1, u34.2.2.2) b8 v0_0 (h0_0.oldo hB38 (hS39.sel [0] rfl)) 4 (hS39.sel [0] rfl).base0 _ hu141) rfl ?_
    rintro _ w142 ⟨rfl, hE143, hM144⟩
    refine ⟨_, rfl, ?_⟩
    have hB145 := hS39.takeB [0] rfl (M := [R.blk b8 131 [v0_0, (.int .i64 u34.2.2.1), (.int .u64 u34.2.2.2)]]) rfl hB38 hE143 hM144
    have hS146 : Sep w0.heap.size w142 [R.blk b8 131 [v0_0, (.int .i64 u141.2.2.1), (.int .u64 u141.2.2.2)], R.own ty_68 F41 v40 u34.1, R.blk b24 53 [v20, v22, (.int .i64 u14.1.2.2.1), (.int .i64 u14.1.2.2.2)], R.own ty_63 F21 v20 u14.1.1, R.own ty_3 F23 v22 u14.1.2.1, R.blk b2 53 [(.slice none 0 0), (.slice none 0 0), (.int .i64 0), (.int .i64 0)]] := hS39.take [0] [1, 2, 3, 4, 5] rfl (M := [R.blk b8 131 [v0_0, (.int .i64 u34.2.2.1), (.int .u64 u34.2.2.2)]]) rfl hM144 hB38.size
    refine wl_on rfl rfl h140 ?_
    refine wl_not rfl rfl ?_
    refine wl_pick_t rfl rfl h140 rfl ?_
    refine WL.nil ?_
    exact fun a ha => hJ112 (u141.2.2.1) (u141.2.2.2) ((!u141.1)) _ hF hB145 (hS146.sel [5, 0, 3, 4, 2, 1] rfl) a (ha.sub ⟨rfl, rfl, rfl, rfl, rfl, trivial⟩)
  · replace hF := ifN h140 hF
    refine wl_off rfl rfl rfl h140 ?_
    refine wl_off rfl rfl rfl h140 ?_
    refine wl_off rfl rfl rfl h140 ?_
    refine wl_pick_f rfl rfl h140 rfl ?_
    refine WL.nil ?_
    exact fun a ha => hJ112 (u34.2.2.1) (u34.2.2.2) (false) _ hF hB38 (hS39.sel [5, 0, 3, 4, 2, 1] rfl) a (ha.sub ⟨rfl, rfl, rfl, rfl, rfl, trivial⟩)
theorem C_impl_copyInts (w0 : World) (x0 : (List Int)) (v0_0 : Value) (h0_0 : rdS ty_3 (· < w0.heap.size) w0 v0_0 x0) (r : (List Int)) (hF : F_impl_copyInts x0 = some r) :
    Calls Try.prog 241 [v0_0].toArray w0 fun e w' => ∃ (q0 : Value) (G0 : List Nat), e = .returned q0 ∧ Below w0.heap.size w0 w' ∧ Sep w0.heap.size w' [R.own ty_3 G0 q0 r] := by
  refine calls_mk' Try.func241 rfl Try.ntmps241 rfl rfl fun Q hQ hP => ?_
  have hB : Below w0.heap.size w0 w0 := Below.refl _ _
  have hS : Sep w0.heap.size w0 [] := Sep.nil _ _
  unfold F_impl_copyInts at hF
  refine W.seq fun K1 hK1 => ?_
  refine W.region ?_
  refine wl_assign rfl rfl ?_
  refine WL.nil ?_
  refine fun a ha => hK1 _ _ ?_ a ha
  refine W.seq fun K2 hK2 => ?_
  refine W.region ?_
  refine wl_lit (vs := []) (l := []) fl_3 Try.underlying29 rfl rfl rfl rfl rfl rfl hB hS ?_
  intro v3 F4 w5 hb6 hB7 hS8
  refine wl_move rfl rfl ?_
  obtain ⟨u9, hu9, hF⟩ := bindE hF
  refine wl_append (i := 0) (S := (· < w5.heap.size)) fl_3 Try.underlying29 rfl rfl rfl hB7 hS8 rfl (h0_0.ro hB7) hu9 ?_
  intro v10 F11 w12 hk13 hB14 hS15
  refine wl_assign rfl rfl ?_
  refine WL.nil ?_
  refine fun a ha => hK2 _ _ ?_ a ha
  refine W.ret ?_
  have hr := Option.some.inj hF
  subst hr
  exact rets (vs := [v10]) hQ rfl ⟨rv_tmp rfl, trivial⟩ ⟨v10, F11, rfl, hB14, hS15.sel [0] rfl⟩
theorem C_impl_copyShow (w0 : World) (x0 : ((List (List (Int × Int))) × (List Int) × Int × Int)) (v0_0 : Value) (h0_0 : rdS ty_63 (· < w0.heap.size) w0 v0_0 x0.1) (v0_1 : Value) (h0_1 : rdS ty_3 (· < w0.heap.size) w0 v0_1 x0.2.1) (r : ((List (List (Int × Int))) × (List Int) × Int × Int)) (hF : F_impl_copyShow x0 = some r) :
    Calls Try.prog 168 [(.agg #[v0_0, v0_1, (.int .i64 x0.2.2.1), (.int .i64 x0.2.2.2)])].toArray w0 fun e w' => ∃ (q0 : Value) (G0 : List Nat) (q1 : Value) (G1 : List Nat), e = .returned (.agg #[q0, q1, (.int .i64 r.2.2.1), (.int .i64 r.2.2.2)]) ∧ Below w0.heap.size w0 w' ∧ Sep w0.heap.size w' [R.own ty_63 G0 q0 r.1, R.own ty_3 G1 q1 r.2.1] := by
  refine calls_mk' Try.func168 rfl Try.ntmps168 rfl rfl fun Q hQ hP => ?_
  have hB : Below w0.heap.size w0 w0 := Below.refl _ _
  have hS : Sep w0.heap.size w0 [] := Sep.nil _ _
  unfold F_impl_copyShow at hF
  refine W.seq fun K1 hK1 => ?_
  refine W.region ?_
  refine wl_box (cs := [v0_0, v0_1, (.int .i64 x0.2.2.1), (.int .i64 x0.2.2.2)]) rfl rfl rfl hB hS ?_
  intro b2 w3 hb4 hB5 hS6
  refine wl_alloc (cs := [(.slice none 0 0), (.slice none 0 0), (.int .i64 0), (.int .i64 0)]) tf_53 rfl rfl hB5 hS6 ?_
  intro b7 w8 hb9 hB10 hS11
  refine WL.nil ?_
  refine fun a ha => hK1 _ _ ?_ a ha
  refine W.seq fun K12 hK12 => ?_
  obtain ⟨k25, hk25, hF⟩ := jE4 hF
  have hJ26 : ∀ (l17 : (List (List (Int × Int)))) (l20 : (List Int)) (y23 : Int) (y24 : Int) (v18 : Value) (F19 : List Nat) (v21 : Value) (F22 : List Nat) (b16 : Nat) (w13 : World) (_ : k25 l17 l20 y23 y24 = some r) (_ : Below w0.heap.size w0 w13) (_ : Sep w0.heap.size w13 [R.blk b2 53 [v0_0, v0_1, (.int .i64 x0.2.2.1), (.int .i64 x0.2.2.2)], R.blk b7 53 [(.slice none 0 0), (.slice none 0 0), (.int .i64 0), (.int .i64 0)], R.own ty_63 F19 v18 l17, R.own ty_3 F22 v21 l20, R.blk b16 53 [v18, v21, (.int .i64 y23), (.int .i64 y24)]]), ∀ a, St 32 [(1, (.pointer (some ⟨b2, 0, none⟩))), (2, (.pointer (some ⟨b7, 0, none⟩))), (3, (.pointer (some ⟨b16, 0, none⟩)))] a → K12 a w13 := by
    intro l17 l20 y23 y24 v18 F19 v21 F22 b16 w13 hF hB14 hS15
    subst hk25
    refine fun a ha => hK12 _ _ ?_ a ha
    refine W.seq fun K27 hK27 => ?_
    refine W.seq fun K28 hK28 => ?_
    refine W.region ?_
    refine wl_field (o := 0) (off' := 0) ff_53_0 rfl rfl rfl ?_
    refine wl_load_blk (i := 0) (vs := [v0_0]) (v := v0_0) tf_51 rfl rfl hS15 rfl rfl rfl ?_
    refine wl_lenr (e := ty_63) (l := x0.1) Try.underlying51 rfl rfl h0_0 ?_
    refine wl_move rfl rfl ?_
    refine WL.nil ?_
    refine fun a ha => hK28 _ _ ?_ a ha
    refine W.block ?_
    refine W.loopk (fun m a w29 => ∃ (l32 : (List (List (Int × Int)))) (y35 : Int) (v33 : Value) (F34 : List Nat), St 32 [(2, (.pointer (some ⟨b7, 0, none⟩))), (3, (.pointer (some ⟨b16, 0, none⟩))), (16, v0_0), (17, (.int .i64 (List.length x0.1 : Int))), (18, (.int .i64 y35))] a ∧ Below w0.heap.size w0 w29 ∧ Sep w0.heap.size w29 [R.blk b7 53 [(.slice none 0 0), (.slice none 0 0), (.int .i64 0), (.int .i64 0)], R.own ty_63 F34 v33 l32, R.own ty_3 F22 v21 l20, R.blk b16 53 [v33, v21, (.int .i64 y23), (.int .i64 y24)]] ∧ F_impl_copyShow_L1 x0 l20 y23 y24 m l32 y35 = some r) FU ?_ ?_
    ·
      exact fun a ha => ⟨l17, 0, v18, F19, ha.sub ⟨rfl, rfl, rfl, rfl, rfl, trivial⟩, hB14, (hS15.sel [1, 2, 3, 4] rfl), hF⟩
    ·
      rintro m38 a w29 ⟨l32, y35, v33, F34, ha, hB30, hS31, hF⟩ KL37 hKL37
      refine W.at ?_ ha
      cases m38 with
      | zero => exact noneE hF
      | succ m38 =>
        obtain ⟨nx36, hnx36⟩ : ∃ k, k = F_impl_copyShow_L1 x0 l20 y23 y24 m38 := ⟨_, rfl⟩
        rw [F_impl_copyShow_L1, ← hnx36] at hF
        refine W.seq fun K39 hK39 => ?_
        refine W.region ?_
        refine wl_lss rfl rfl rfl ?_
        refine WL.nil ?_
        refine fun a ha => hK39 _ _ ?_ a ha
        refine W.seq fun K40 hK40 => ?_
        refine W.cond rfl (fun h41 => ?_) (fun h41 => ?_)
        · replace hF := ifP h41 hF
          refine W.skip ?_
          refine fun a ha => hK40 _ _ ?_ a ha
          refine W.seq fun K42 hK42 => ?_
          obtain ⟨k49, hk49, hF⟩ := jE1 hF
          have hJ50 : ∀ (l46 : (List (List (Int × Int)))) (v47 : Value) (F48 : List Nat) (w43 : World) (_ : k49 l46 = some r) (_ : Below w0.heap.size w0 w43) (_ : Sep w0.heap.size w43 [R.blk b7 53 [(.slice none 0 0), (.slice none 0 0), (.int .i64 0), (.int .i64 0)], R.own ty_63 F48 v47 l46, R.own ty_3 F22 v21 l20, R.blk b16 53 [v47, v21, (.int .i64 y23), (.int .i64 y24)]]), ∀ a, St 32 [(2, (.pointer (some ⟨b7, 0, none⟩))), (3, (.pointer (some ⟨b16, 0, none⟩))), (16, v0_0), (17, (.int .i64 (List.length x0.1 : Int))), (18, (.int .i64 y35))] a → K42 a w43 := by
            intro l46 v47 F48 w43 hF hB44 hS45
            subst hk49
            refine fun a ha => hK42 _ _ ?_ a ha
            refine W.region ?_
            refine wl_add rfl rfl rfl ?_
            refine wl_move rfl rfl ?_
            refine WL.nil ?_
            rw [hnx36] at hF
            exact fun a ha => hKL37 a _ m38 (Nat.lt_succ_self m38) ⟨l46, (w64 (y35 + 1)), v47, F48, ha.sub ⟨rfl, rfl, rfl, rfl, rfl, trivial⟩, hB44, (hS45.sel [0, 1, 2, 3] rfl), hF⟩
          refine W.block ?_
          refine W.seq fun K51 hK51 => ?_
          refine W.region ?_
          obtain ⟨u52, hu52, hF⟩ := bindE hF
          refine wl_index (e := ty_63) Try.underlying51 rfl rfl rfl h0_0 hu52 ?_
          rintro p53 _ ⟨v55, rfl, hv56⟩ hp54
          refine wl_load_p (vs := [v55]) (v := v55) tf_63 rfl rfl (hp54.ro hB30) rfl rfl ?_
          refine wl_assign rfl rfl ?_
          refine WL.nil ?_
          refine fun a ha => hK51 _ _ ?_ a ha
          refine W.regionH mixed_ (F34 ++ [b16]) hB30 hS31 ?_
          intro w57 hb58 hB59 hS60
          have hSW61 := KeepX.refl w57 (F34 ++ [b16])
          refine WH.takex (i := 0) rfl (by kernel_rfl) (by kernel_rfl) (by kernel_rfl) hP hSW61 ?_
          refine pr_field (o := 0) (off' := 0) ff_53_0 rfl rfl rfl ?_
          refine WH.takex (i := 3) rfl (by kernel_rfl) (by kernel_rfl) (by kernel_rfl) hP hSW61 ?_
          refine pr_move rfl rfl ?_
          refine WH.many (is := [1, 2]) (by kernel_rfl) rfl ?_
          refine List.forall_mem_cons.2 ⟨⟨_, rfl, ?_⟩, List.forall_mem_cons.2 ⟨⟨_, rfl, ?_⟩, fun _ h => by cases h⟩⟩
          ·
            refine wl_load_blk (i := 3) (vs := [v33]) (v := v33) tf_51 rfl rfl hS60 rfl rfl rfl ?_
            refine WL.nil (WH.ret hSW61 ?_)
            refine WH.one (i := 2) (by kernel_rfl) rfl ?_
            refine wl_lit (vs := []) (l := []) fl_68 Try.underlying63 rfl rfl rfl rfl rfl rfl (Below.self w57) (Sep.nil _ _) ?_
            intro v62 F63 w65 hb66 hB69 hM70
            have hB67 := hB59.trans (hb66.mono hB59.size)
            have hS68 := hS60.join hb66 hM70 hB59.size
            have hn71 : ∀ b ∈ F63, w57.heap.size ≤ b := fun b hb => Nat.le_trans hSW61.size ((hM70.1 _ (List.mem_cons_self ..)).2.1 b hb).1
            have hSW72 := hSW61.ext hb66
            have hbS73 : Below w57.heap.size w57 w65 := hb66
            refine WL.nil (WH.ret hSW72 ?_)
            refine WH.one (i := 4) (by kernel_rfl) rfl ?_
            obtain ⟨u74, hu74, hF⟩ := bindE hF
            refine wl_append (i := 0) (S := (· < w65.heap.size)) fl_68 Try.underlying63 rfl rfl rfl hB67 hS68 rfl (hv56.ro hB67) hu74 ?_
            intro v75 F76 w77 hk78 hB79 hS80
            have hSW81 := hSW72.wr' hk78.1 hk78.2.1 (fun b hlt hb => absurd hlt (Nat.not_lt.2 (hn71 b hb)))
            have hn82 : ∀ b ∈ F76, w57.heap.size ≤ b := fun b hb => (hk78.2.2 b hb).elim (hn71 b) fun h => Nat.le_trans hSW72.size h
            refine WL.nil (WH.ret hSW81 ?_)
            refine WH.one (i := 5) (by kernel_rfl) rfl ?_
            have hq83 := hS80.sel [0, 1, 2, 3, 4] rfl
            have hq84 := hq83.head (r' := R.cel ty_63 F76 [v75] u74) (rfl) fun _ h0 => ⟨_, rfl, h0⟩
            refine wl_lit1 (e := ty_63) (vs := [v75]) Try.underlying51 rfl rfl (cells_one (hS80.own_ro (i := 0) rfl).one) rfl hB79 hq84 ?_
            intro v85 F86 w87 hb88 hf89 hB90 hS91
            have hn92 : ∀ b ∈ F86, w57.heap.size ≤ b := fun b hb => (hf89 b hb).elim (hn82 b) fun h => Nat.le_trans hSW81.size h
            have hSW93 := hSW81.ext hb88
            refine WL.nil (WH.ret hSW93 ?_)
            refine WH.one (i := 6) (by kernel_rfl) rfl ?_
            obtain ⟨u94, hu94, hF⟩ := bindE hF
            refine wl_appendn (e := ty_63) Try.underlying51 rfl rfl rfl hB90 (hS91.sel [2, 0, 1, 3, 4] rfl) hu94 ?_
            intro v95 F96 w97 hk98 hB99 hS100
            have hSW101 := hSW93.wr' hk98.1 hk98.2.1 (fun _ _ h => List.mem_append_left _ (h))
            have hbs102 : ∀ b, b < w57.heap.size → b ∈ F96 → b ∈ (F34 ++ [b16]) := fun b hlt hb => (hk98.2.2 b hb).elim ((fun _ _ h => List.mem_append_left _ (h)) b hlt) (fun h => h.elim (fun h => absurd hlt (Nat.not_lt.2 (hn92 b h))) fun h => absurd hlt (Nat.not_lt.2 (Nat.le_trans hSW93.size h)))
            refine WL.nil (WH.ret hSW101 ?_)
            refine WH.takex (i := 7) rfl (by kernel_rfl) (by kernel_rfl) (by kernel_rfl) hP hSW101 ?_
            refine pr_field (o := 0) (off' := 0) ff_53_0 rfl rfl rfl ?_
            refine WH.one (i := 8) (by kernel_rfl) rfl ?_
            refine wl_store_blk (i := 3) (vs := [v95]) (cs' := [v95, v21, (.int .i64 y23), (.int .i64 y24)]) tf_51 rfl rfl (cells_one (hS100.own_ro (i := 0) rfl).one) rfl hB99 hS100 rfl rfl ⟨(hS100.own_ro (i := 0) rfl).one, trivial⟩ rfl ?_
            intro w103 hk106 hB104 hS105
            have hSW107 := hSW101.wr' hk106.1 hk106.2.1 (fun _ _ h => List.mem_append_right _ h)
            have hbs108 : ∀ b, b < w57.heap.size → b ∈ [b16] → b ∈ (F34 ++ [b16]) := fun b hlt hb => (hk106.2.2 b hb).elim ((fun _ _ h => List.mem_append_right _ h) b hlt) (fun h => absurd hlt (Nat.not_lt.2 (Nat.le_trans hSW101.size h)))
            refine WL.nil (WH.ret hSW107 ?_)
            refine WH.done (by kernel_rfl) ?_
            exact fun a ha => hJ50 (u94) (v95) (F96) _ hF hB104 (hS105.sel [1, 0, 2, 3] rfl) a (ha.sub ⟨rfl, rfl, rfl, rfl, rfl, trivial⟩)
          ·
            refine wl_lit (vs := []) (l := []) fl_68 Try.underlying63 rfl rfl rfl rfl rfl rfl (Below.self w57) (Sep.nil _ _) ?_
            intro v109 F110 w111 hb112 hB115 hM116
            have hB113 := hB59.trans (hb112.mono hB59.size)
            have hS114 := hS60.join hb112 hM116 hB59.size
            have hn117 : ∀ b ∈ F110, w57.heap.size ≤ b := fun b hb => Nat.le_trans hSW61.size ((hM116.1 _ (List.mem_cons_self ..)).2.1 b hb).1
            have hSW118 := hSW61.ext hb112
            have hbS119 : Below w57.heap.size w57 w111 := hb112
            refine WL.nil (WH.ret hSW118 ?_)
            refine WH.many (is := [1, 4]) (by kernel_rfl) rfl ?_
            refine List.forall_mem_cons.2 ⟨⟨_, rfl, ?_⟩, List.forall_mem_cons.2 ⟨⟨_, rfl, ?_⟩, fun _ h => by cases h⟩⟩
            ·
              refine wl_load_blk (i := 4) (vs := [v33]) (v := v33) tf_51 rfl rfl hS114 rfl rfl rfl ?_
              refine WL.nil (WH.ret hSW118 ?_)
              refine WH.one (i := 4) (by kernel_rfl) rfl ?_
              obtain ⟨u120, hu120, hF⟩ := bindE hF
              refine wl_append (i := 0) (S := (· < w111.heap.size)) fl_68 Try.underlying63 rfl rfl rfl hB113 hS114 rfl (hv56.ro hB113) hu120 ?_
              intro v121 F122 w123 hk124 hB125 hS126
              have hSW127 := hSW118.wr' hk124.1 hk124.2.1 (fun b hlt hb => absurd hlt (Nat.not_lt.2 (hn117 b hb)))
              have hn128 : ∀ b ∈ F122, w57.heap.size ≤ b := fun b hb => (hk124.2.2 b hb).elim (hn117 b) fun h => Nat.le_trans hSW118.size h
              refine WL.nil (WH.ret hSW127 ?_)
              refine WH.one (i := 5) (by kernel_rfl) rfl ?_
              have hq129 := hS126.sel [0, 1, 2, 3, 4] rfl
              have hq130 := hq129.head (r' := R.cel ty_63 F122 [v121] u120) (rfl) fun _ h0 => ⟨_, rfl, h0⟩
              refine wl_lit1 (e := ty_63) (vs := [v121]) Try.underlying51 rfl rfl (cells_one (hS126.own_ro (i := 0) rfl).one) rfl hB125 hq130 ?_
              intro v131 F132 w133 hb134 hf135 hB136 hS137
              have hn138 : ∀ b ∈ F132, w57.heap.size ≤ b := fun b hb => (hf135 b hb).elim (hn128 b) fun h => Nat.le_trans hSW127.size h
              have hSW139 := hSW127.ext hb134
              refine WL.nil (WH.ret hSW139 ?_)
              refine WH.one (i := 6) (by kernel_rfl) rfl ?_
              obtain ⟨u140, hu140, hF⟩ := bindE hF
              refine wl_appendn (e := ty_63) Try.underlying51 rfl rfl rfl hB136 (hS137.sel [2, 0, 1, 3, 4] rfl) hu140 ?_
              intro v141 F142 w143 hk144 hB145 hS146
              have hSW147 := hSW139.wr' hk144.1 hk144.2.1 (fun _ _ h => List.mem_append_left _ (h))
              have hbs148 : ∀ b, b < w57.heap.size → b ∈ F142 → b ∈ (F34 ++ [b16]) := fun b hlt hb => (hk144.2.2 b hb).elim ((fun _ _ h => List.mem_append_left _ (h)) b hlt) (fun h => h.elim (fun h => absurd hlt (Nat.not_lt.2 (hn138 b h))) fun h => absurd hlt (Nat.not_lt.2 (Nat.le_trans hSW139.size h)))
              refine WL.nil (WH.ret hSW147 ?_)
              refine WH.takex (i := 7) rfl (by kernel_rfl) (by kernel_rfl) (by kernel_rfl) hP hSW147 ?_
              refine pr_field (o := 0) (off' := 0) ff_53_0 rfl rfl rfl ?_
              refine WH.one (i := 8) (by kernel_rfl) rfl ?_
              refine wl_store_blk (i := 3) (vs := [v141]) (cs' := [v141, v21, (.int .i64 y23), (.int .i64 y24)]) tf_51 rfl rfl (cells_one (hS146.own_ro (i := 0) rfl).one) rfl hB145 hS146 rfl rfl ⟨(hS146.own_ro (i := 0) rfl).one, trivial⟩ rfl ?_
              intro w149 hk152 hB150 hS151
              have hSW153 := hSW147.wr' hk152.1 hk152.2.1 (fun _ _ h => List.mem_append_right _ h)
              have hbs154 : ∀ b, b < w57.heap.size → b ∈ [b16] → b ∈ (F34 ++ [b16]) := fun b hlt hb => (hk152.2.2 b hb).elim ((fun _ _ h => List.mem_append_right _ h) b hlt) (fun h => absurd hlt (Nat.not_lt.2 (Nat.le_trans hSW147.size h)))
              refine WL.nil (WH.ret hSW153 ?_)
              refine WH.done (by kernel_rfl) ?_
              exact fun a ha => hJ50 (u140) (v141) (F142) _ hF hB150 (hS151.sel [1, 0, 2, 3] rfl) a (ha.sub ⟨rfl, rfl, rfl, rfl, rfl, trivial⟩)
            ·
              obtain ⟨u155, hu155, hF⟩ := bindE hF
              refine wl_append (i := 0) (S := (· < w111.heap.size)) fl_68 Try.underlying63 rfl rfl rfl hB113 hS114 rfl (hv56.ro hB113) hu155 ?_
              intro v156 F157 w158 hk159 hB160 hS161
              have hSW162 := hSW118.wr' hk159.1 hk159.2.1 (fun b hlt hb => absurd hlt (Nat.not_lt.2 (hn117 b hb)))
              have hn163 : ∀ b ∈ F157, w57.heap.size ≤ b := fun b hb => (hk159.2.2 b hb).elim (hn117 b) fun h => Nat.le_trans hSW118.size h
              refine WL.nil (WH.ret hSW162 ?_)
              refine WH.many (is := [1, 5]) (by kernel_rfl) rfl ?_
              refine List.forall_mem_cons.2 ⟨⟨_, rfl, ?_⟩, List.forall_mem_cons.2 ⟨⟨_, rfl, ?_⟩, fun _ h => by cases h⟩⟩
              ·
                refine wl_load_blk (i := 4) (vs := [v33]) (v := v33) tf_51 rfl rfl hS161 rfl rfl rfl ?_
                refine WL.nil (WH.ret hSW162 ?_)
                refine WH.one (i := 5) (by kernel_rfl) rfl ?_
                have hq164 := hS161.sel [0, 1, 2, 3, 4] rfl
                have hq165 := hq164.head (r' := R.cel ty_63 F157 [v156] u155) (rfl) fun _ h0 => ⟨_, rfl, h0⟩
                refine wl_lit1 (e := ty_63) (vs := [v156]) Try.underlying51 rfl rfl (cells_one (hS161.own_ro (i := 0) rfl).one) rfl hB160 hq165 ?_
                intro v166 F167 w168 hb169 hf170 hB171 hS172
                have hn173 : ∀ b ∈ F167, w57.heap.size ≤ b := fun b hb => (hf170 b hb).elim (hn163 b) fun h => Nat.le_trans hSW162.size h
                have hSW174 := hSW162.ext hb169
                refine WL.nil (WH.ret hSW174 ?_)
                refine WH.one (i := 6) (by kernel_rfl) rfl ?_
                obtain ⟨u175, hu175, hF⟩ := bindE hF
                refine wl_appendn (e := ty_63) Try.underlying51 rfl rfl rfl hB171 (hS172.sel [2, 0, 1, 3, 4] rfl) hu175 ?_
                intro v176 F177 w178 hk179 hB180 hS181
                have hSW182 := hSW174.wr' hk179.1 hk179.2.1 (fun _ _ h => List.mem_append_left _ (h))
                have hbs183 : ∀ b, b < w57.heap.size → b ∈ F177 → b ∈ (F34 ++ [b16]) := fun b hlt hb => (hk179.2.2 b hb).elim ((fun _ _ h => List.mem_append_left _ (h)) b hlt) (fun h => h.elim (fun h => absurd hlt (Nat.not_lt.2 (hn173 b h))) fun h => absurd hlt (Nat.not_lt.2 (Nat.le_trans hSW174.size h)))
                refine WL.nil (WH.ret hSW182 ?_)
                refine WH.takex (i := 7) rfl (by kernel_rfl) (by kernel_rfl) (by kernel_rfl) hP hSW182 ?_
                refine pr_field (o := 0) (off' := 0) ff_53_0 rfl rfl rfl ?_
                refine WH.one (i := 8) (by kernel_rfl) rfl ?_
                refine wl_store_blk (i := 3) (vs := [v176]) (cs' := [v176, v21, (.int .i64 y23), (.int .i64 y24)]) tf_51 rfl rfl (cells_one (hS181.own_ro (i := 0) rfl).one) rfl hB180 hS181 rfl rfl ⟨(hS181.own_ro (i := 0) rfl).one, trivial⟩ rfl ?_
                intro w184 hk187 hB185 hS186
                have hSW188 := hSW182.wr' hk187.1 hk187.2.1 (fun _ _ h => List.mem_append_right _ h)
                have hbs189 : ∀ b, b < w57.heap.size → b ∈ [b16] → b ∈ (F34 ++ [b16]) := fun b hlt hb => (hk187.2.2 b hb).elim ((fun _ _ h => List.mem_append_right _ h) b hlt) (fun h => absurd hlt (Nat.not_lt.2 (Nat.le_trans hSW182.size h)))
                refine WL.nil (WH.ret hSW188 ?_)
                refine WH.done (by kernel_rfl) ?_
                exact fun a ha => hJ50 (u175) (v176) (F177) _ hF hB185 (hS186.sel [1, 0, 2, 3] rfl) a (ha.sub ⟨rfl, rfl, rfl, rfl, rfl, trivial⟩)
              ·
                have hq190 := hS161.sel [0, 1, 2, 3, 4] rfl
                have hq191 := hq190.head (r' := R.cel ty_63 F157 [v156] u155) (rfl) fun _ h0 => ⟨_, rfl, h0⟩
                refine wl_lit1 (e := ty_63) (vs := [v156]) Try.underlying51 rfl rfl (cells_one (hS161.own_ro (i := 0) rfl).one) rfl hB160 hq191 ?_
                intro v192 F193 w194 hb195 hf196 hB197 hS198
                have hn199 : ∀ b ∈ F193, w57.heap.size ≤ b := fun b hb => (hf196 b hb).elim (hn163 b) fun h => Nat.le_trans hSW162.size h
                have hSW200 := hSW162.ext hb195
                refine WL.nil (WH.ret hSW200 ?_)
                refine WH.one (i := 1) (by kernel_rfl) rfl ?_
                refine wl_load_blk (i := 4) (vs := [v33]) (v := v33) tf_51 rfl rfl hS198 rfl rfl rfl ?_
                refine WL.nil (WH.ret hSW200 ?_)
                refine WH.one (i := 6) (by kernel_rfl) rfl ?_
                obtain ⟨u201, hu201, hF⟩ := bindE hF
                refine wl_appendn (e := ty_63) Try.underlying51 rfl rfl rfl hB197 (hS198.sel [2, 0, 1, 3, 4] rfl) hu201 ?_
                intro v202 F203 w204 hk205 hB206 hS207
                have hSW208 := hSW200.wr' hk205.1 hk205.2.1 (fun _ _ h => List.mem_append_left _ (h))
                have hbs209 : ∀ b, b < w57.heap.size → b ∈ F203 → b ∈ (F34 ++ [b16]) := fun b hlt hb => (hk205.2.2 b hb).elim ((fun _ _ h => List.mem_append_left _ (h)) b hlt) (fun h => h.elim (fun h => absurd hlt (Nat.not_lt.2 (hn199 b h))) fun h => absurd hlt (Nat.not_lt.2 (Nat.le_trans hSW200.size h)))
                refine WL.nil (WH.ret hSW208 ?_)
                refine WH.takex (i := 7) rfl (by kernel_rfl) (by kernel_rfl) (by kernel_rfl) hP hSW208 ?_
                refine pr_field (o := 0) (off' := 0) ff_53_0 rfl rfl rfl ?_
                refine WH.one (i := 8) (by kernel_rfl) rfl ?_
                refine wl_store_blk (i := 3) (vs := [v202]) (cs' := [v202, v21, (.int .i64 y23), (.int .i64 y24)]) tf_51 rfl rfl (cells_one (hS207.own_ro (i := 0) rfl).one) rfl hB206 hS207 rfl rfl ⟨(hS207.own_ro (i := 0) rfl).one, trivial⟩ rfl ?_
                intro w210 hk213 hB211 hS212
                have hSW214 := hSW208.wr' hk213.1 hk213.2.1 (fun _ _ h => List.mem_append_right _ h)
                have hbs215 : ∀ b, b < w57.heap.size → b ∈ [b16] → b ∈ (F34 ++ [b16]) := fun b hlt hb => (hk213.2.2 b hb).elim ((fun _ _ h => List.mem_append_right _ h) b hlt) (fun h => absurd hlt (Nat.not_lt.2 (Nat.le_trans hSW208.size h)))
                refine WL.nil (WH.ret hSW214 ?_)
                refine WH.done (by kernel_rfl) ?_
                exact fun a ha => hJ50 (u201) (v202) (F203) _ hF hB211 (hS212.sel [1, 0, 2, 3] rfl) a (ha.sub ⟨rfl, rfl, rfl, rfl, rfl, trivial⟩)
        · replace hF := ifN h41 hF
          refine W.exit ?_
          refine fun a ha => hK27 _ _ ?_ a ha
          refine W.seq fun K216 hK216 => ?_
          refine W.region ?_
          refine wl_load_blk (i := 3) (vs := [v33, v21, (.int .i64 y23), (.int .i64 y24)]) (v := (.agg #[v33, v21, (.int .i64 y23), (.int .i64 y24)])) tf_53 rfl rfl hS31 rfl rfl rfl ?_
          refine wl_store_blk (i := 0) (vs := [v33, v21, (.int .i64 y23), (.int .i64 y24)]) (cs' := [v33, v21, (.int .i64 y23), (.int .i64 y24)]) tf_53 rfl rfl rfl rfl hB30 hS31 rfl rfl ⟨(hS31.own_ro (i := 1) rfl).one, (hS31.own_ro (i := 2) rfl).one, rfl, rfl, trivial⟩ rfl ?_
          intro w217 hk220 hB218 hS219
          refine WL.nil ?_
          refine fun a ha => hK216 _ _ ?_ a ha
          refine W.ret ?_
          have hr := Option.some.inj hF
          subst hr
          exact rets (vs := [(.agg #[v33, v21, (.int .i64 y23), (.int .i64 y24)])]) hQ rfl ⟨rv_cell (i := 0) tf_53 rfl hS219 rfl rfl rfl, trivial⟩ ⟨v33, F34, v21, F22, rfl, hB218, hS219.sel [1, 2] rfl⟩
  refine W.regionH mixed_ [] hB10 hS11 ?_
  intro w221 hb222 hB223 hS224
  have hSW225 := KeepX.refl w221 []
  refine WH.takex (i := 1) rfl (by kernel_rfl) (by kernel_rfl) (by kernel_rfl) hP hSW225 ?_
  refine pr_field (o := 1) (off' := 1) ff_53_1 rfl rfl rfl ?_
  refine WH.takex (i := 2) rfl (by kernel_rfl) (by kernel_rfl) (by kernel_rfl) hP hSW225 ?_
  refine pr_load_blk (i := 1) (vs := [v0_1]) (v := v0_1) tf_29 rfl rfl hS224 rfl rfl rfl (by simp) ?_
  refine WH.takex (i := 4) rfl (by kernel_rfl) (by kernel_rfl) (by kernel_rfl) hP hSW225 ?_
  refine pr_field (o := 2) (off' := 2) ff_53_2 rfl rfl rfl ?_
  refine WH.takex (i := 5) rfl (by kernel_rfl) (by kernel_rfl) (by kernel_rfl) hP hSW225 ?_
  refine pr_load_blk (i := 1) (vs := [(.int .i64 x0.2.2.1)]) (v := (.int .i64 x0.2.2.1)) tf_3 rfl rfl hS224 rfl rfl rfl (by simp) ?_
  refine WH.takex (i := 6) rfl (by kernel_rfl) (by kernel_rfl) (by kernel_rfl) hP hSW225 ?_
  refine pr_field (o := 3) (off' := 3) ff_53_3 rfl rfl rfl ?_
  refine WH.takex (i := 7) rfl (by kernel_rfl) (by kernel_rfl) (by kernel_rfl) hP hSW225 ?_
  refine pr_load_blk (i := 1) (vs := [(.int .i64 x0.2.2.2)]) (v := (.int .i64 x0.2.2.2)) tf_3 rfl rfl hS224 rfl rfl rfl (by simp) ?_
  refine WH.many (is := [0, 3, 9]) (by kernel_rfl) rfl ?_
  refine List.forall_mem_cons.2 ⟨⟨_, rfl, ?_⟩, List.forall_mem_cons.2 ⟨⟨_, rfl, ?_⟩, List.forall_mem_cons.2 ⟨⟨_, rfl, ?_⟩, fun _ h => by cases h⟩⟩⟩
  ·
    refine wl_lit0 (e := ty_63) Try.underlying51 rfl (Below.self w221) (Sep.nil _ _) ?_
    intro v226 F227 w228 hb229 hB232 hM233
    have hB230 := hB223.trans (hb229.mono hB223.size)
    have hS231 := hS224.join hb229 hM233 hB223.size
    have hn234 : ∀ b ∈ F227, w221.heap.size ≤ b := fun b hb => Nat.le_trans hSW225.size ((hM233.1 _ (List.mem_cons_self ..)).2.1 b hb).1
    have hSW235 := hSW225.ext hb229
    refine WL.nil (WH.ret hSW235 ?_)
    refine WH.many (is := [3, 9]) (by kernel_rfl) rfl ?_
    refine List.forall_mem_cons.2 ⟨⟨_, rfl, ?_⟩, List.forall_mem_cons.2 ⟨⟨_, rfl, ?_⟩, fun _ h => by cases h⟩⟩
    ·
      obtain ⟨u236, hu236, hF⟩ := bindE hF
      refine wl_call rfl Try.call241 (C_impl_copyInts w228 x0.2.1 v0_1 (h0_1.ro hB230) _ hu236) rfl ?_
      rintro _ w239 ⟨v237, F238, rfl, hb240, hM243⟩
      refine ⟨_, rfl, ?_⟩
      have hB241 := hB230.trans (hb240.mono hB230.size)
      have hn244 : ∀ b ∈ F238, w221.heap.size ≤ b := fun b hb => Nat.le_trans hSW235.size ((hM243.get (i := 0) rfl).2.1 b hb).1
      have hS242 := hS231.join hb240 hM243 hB230.size
      have hSW245 := hSW235.ext hb240
      refine WL.nil (WH.ret hSW245 ?_)
      refine WH.takex (i := 8) rfl (by kernel_rfl) (by kernel_rfl) (by kernel_rfl) hP hSW245 ?_
      refine pr_build (zs := [(.slice none 0 0), (.slice none 0 0), (.int .i64 0), (.int .i64 0)]) (out := [v226, v237, (.int .i64 x0.2.2.1), (.int .i64 x0.2.2.2)]) (vs := [v226, v237, (.int .i64 x0.2.2.1), (.int .i64 x0.2.2.2)]) (css := [[v226], [v237], [(.int .i64 x0.2.2.1)], [(.int .i64 x0.2.2.2)]]) tf_53 pl_53 rfl rfl (by simp only [List.map_cons, List.map_nil, cells_one ((hS242.own_ro (i := 1) rfl).one), cells_one ((hS242.own_ro (i := 0) rfl).one)] <;> rfl) rfl rfl ?_
      refine WH.one (i := 9) (by kernel_rfl) rfl ?_
      refine wl_alloc (cs := [(.slice none 0 0), (.slice none 0 0), (.int .i64 0), (.int .i64 0)]) tf_53 rfl rfl (Below.self w239) (Sep.nil _ _) ?_
      intro b246 w247 hb248 hB251 hM252
      have hB249 := hB241.trans (hb248.mono hB241.size)
      have hS250 := hS242.join hb248 hM252 hB241.size
      have hn253 : ∀ b ∈ [b246], w221.heap.size ≤ b := fun b hb => Nat.le_trans hSW245.size ((hM252.1 _ (List.mem_cons_self ..)).2.1 b hb).1
      have hSW254 := hSW245.ext hb248
      refine WL.nil (WH.ret hSW254 ?_)
      refine WH.one (i := 10) (by kernel_rfl) rfl ?_
      refine wl_store_blk (i := 0) (vs := [v226, v237, (.int .i64 x0.2.2.1), (.int .i64 x0.2.2.2)]) (cs' := [v226, v237, (.int .i64 x0.2.2.1), (.int .i64 x0.2.2.2)]) tf_53 rfl rfl rfl rfl hB249 hS250 rfl rfl ⟨(hS250.own_ro (i := 2) rfl).one, (hS250.own_ro (i := 1) rfl).one, rfl, rfl, trivial⟩ rfl ?_
      intro w255 hk258 hB256 hS257
      have hSW259 := hSW254.wr' hk258.1 hk258.2.1 (fun b hlt hb => absurd hlt (Nat.not_lt.2 (hn253 b hb)))
      have hn260 : ∀ b ∈ [b246], w221.heap.size ≤ b := fun b hb => (hk258.2.2 b hb).elim (hn253 b) fun h => Nat.le_trans hSW254.size h
      refine WL.nil (WH.ret hSW259 ?_)
      refine WH.done (by kernel_rfl) ?_
      exact fun a ha => hJ26 ([]) (u236) (x0.2.2.1) (x0.2.2.2) (v226) (F227) (v237) (F238) (b246) _ hF hB256 (hS257.sel [4, 3, 2, 1, 0] rfl) a (ha.sub ⟨rfl, rfl, rfl, trivial⟩)
    ·
      refine wl_alloc (cs := [(.slice none 0 0), (.slice none 0 0), (.int .i64 0), (.int .i64 0)]) tf_53 rfl rfl (Below.self w228) (Sep.nil _ _) ?_
      intro b261 w262 hb263 hB266 hM267
      have hB264 := hB230.trans (hb263.mono hB230.size)
      have hS265 := hS231.join hb263 hM267 hB230.size
      have hn268 : ∀ b ∈ [b261], w221.heap.size ≤ b := fun b hb => Nat.le_trans hSW235.size ((hM267.1 _ (List.mem_cons_self ..)).2.1 b hb).1
      have hSW269 := hSW235.ext hb263
      refine WL.nil (WH.ret hSW269 ?_)
      refine WH.one (i := 3) (by kernel_rfl) rfl ?_
      obtain ⟨u270, hu270, hF⟩ := bindE hF
      refine wl_call rfl Try.call241 (C_impl_copyInts w262 x0.2.1 v0_1 (h0_1.ro hB264) _ hu270) rfl ?_
      rintro _ w273 ⟨v271, F272, rfl, hb274, hM277⟩
      refine ⟨_, rfl, ?_⟩
      have hB275 := hB264.trans (hb274.mono hB264.size)
      have hn278 : ∀ b ∈ F272, w221.heap.size ≤ b := fun b hb => Nat.le_trans hSW269.size ((hM277.get (i := 0) rfl).2.1 b hb).1
      have hS276 := hS265.join hb274 hM277 hB264.size
      have hSW279 := hSW269.ext hb274
      refine WL.nil (WH.ret hSW279 ?_)
      refine WH.takex (i := 8) rfl (by kernel_rfl) (by kernel_rfl) (by kernel_rfl) hP hSW279 ?_
      refine pr_build (zs := [(.slice none 0 0), (.slice none 0 0), (.int .i64 0), (.int .i64 0)]) (out := [v226, v271, (.int .i64 x0.2.2.1), (.int .i64 x0.2.2.2)]) (vs := [v226, v271, (.int .i64 x0.2.2.1), (.int .i64 x0.2.2.2)]) (css := [[v226], [v271], [(.int .i64 x0.2.2.1)], [(.int .i64 x0.2.2.2)]]) tf_53 pl_53 rfl rfl (by simp only [List.map_cons, List.map_nil, cells_one ((hS276.own_ro (i := 2) rfl).one), cells_one ((hS276.own_ro (i := 0) rfl).one)] <;> rfl) rfl rfl ?_
      refine WH.one (i := 10) (by kernel_rfl) rfl ?_
      refine wl_store_blk (i := 1) (vs := [v226, v271, (.int .i64 x0.2.2.1), (.int .i64 x0.2.2.2)]) (cs' := [v226, v271, (.int .i64 x0.2.2.1), (.int .i64 x0.2.2.2)]) tf_53 rfl rfl rfl rfl hB275 hS276 rfl rfl ⟨(hS276.own_ro (i := 2) rfl).one, (hS276.own_ro (i := 0) rfl).one, rfl, rfl, trivial⟩ rfl ?_
      intro w280 hk283 hB281 hS282
      have hSW284 := hSW279.wr' hk283.1 hk283.2.1 (fun b hlt hb => absurd hlt (Nat.not_lt.2 (hn268 b hb)))
      have hn285 : ∀ b ∈ [b261], w221.heap.size ≤ b := fun b hb => (hk283.2.2 b hb).elim (hn268 b) fun h => Nat.le_trans hSW279.size h
      refine WL.nil (WH.ret hSW284 ?_)
      refine WH.done (by kernel_rfl) ?_
      exact fun a ha => hJ26 ([]) (u270) (x0.2.2.1) (x0.2.2.2) (v226) (F227) (v271) (F272) (b261) _ hF hB281 (hS282.sel [4, 3, 2, 0, 1] rfl) a (ha.sub ⟨rfl, rfl, rfl, trivial⟩)
  ·
    obtain ⟨u286, hu286, hF⟩ := bindE hF
    refine wl_call rfl Try.call241 (C_impl_copyInts w221 x0.2.1 v0_1 (h0_1.ro hB223) _ hu286) rfl ?_
    rintro _ w289 ⟨v287, F288, rfl, hb290, hM293⟩
    refine ⟨_, rfl, ?_⟩
    have hB291 := hB223.trans (hb290.mono hB223.size)
    have hn294 : ∀ b ∈ F288, w221.heap.size ≤ b := fun b hb => Nat.le_trans hSW225.size ((hM293.get (i := 0) rfl).2.1 b hb).1
    have hS292 := hS224.join hb290 hM293 hB223.size
    have hSW295 := hSW225.ext hb290
    refine WL.nil (WH.ret hSW295 ?_)
    refine WH.many (is := [0, 9]) (by kernel_rfl) rfl ?_
    refine List.forall_mem_cons.2 ⟨⟨_, rfl, ?_⟩, List.forall_mem_cons.2 ⟨⟨_, rfl, ?_⟩, fun _ h => by cases h⟩⟩
    ·
      refine wl_lit0 (e := ty_63) Try.underlying51 rfl (Below.self w289) (Sep.nil _ _) ?_
      intro v296 F297 w298 hb299 hB302 hM303
      have hB300 := hB291.trans (hb299.mono hB291.size)
      have hS301 := hS292.join hb299 hM303 hB291.size
      have hn304 : ∀ b ∈ F297, w221.heap.size ≤ b := fun b hb => Nat.le_trans hSW295.size ((hM303.1 _ (List.mem_cons_self ..)).2.1 b hb).1
      have hSW305 := hSW295.ext hb299
      refine WL.nil (WH.ret hSW305 ?_)
      refine WH.takex (i := 8) rfl (by kernel_rfl) (by kernel_rfl) (by kernel_rfl) hP hSW305 ?_
      refine pr_build (zs := [(.slice none 0 0), (.slice none 0 0), (.int .i64 0), (.int .i64 0)]) (out := [v296, v287, (.int .i64 x0.2.2.1), (.int .i64 x0.2.2.2)]) (vs := [v296, v287, (.int .i64 x0.2.2.1), (.int .i64 x0.2.2.2)]) (css := [[v296], [v287], [(.int .i64 x0.2.2.1)], [(.int .i64 x0.2.2.2)]]) tf_53 pl_53 rfl rfl (by simp only [List.map_cons, List.map_nil, cells_one ((hS301.own_ro (i := 0) rfl).one), cells_one ((hS301.own_ro (i := 1) rfl).one)] <;> rfl) rfl rfl ?_
      refine WH.one (i := 9) (by kernel_rfl) rfl ?_
      refine wl_alloc (cs := [(.slice none 0 0), (.slice none 0 0), (.int .i64 0), (.int .i64 0)]) tf_53 rfl rfl (Below.self w298) (Sep.nil _ _) ?_
      intro b306 w307 hb308 hB311 hM312
      have hB309 := hB300.trans (hb308.mono hB300.size)
      have hS310 := hS301.join hb308 hM312 hB300.size
      have hn313 : ∀ b ∈ [b306], w221.heap.size ≤ b := fun b hb => Nat.le_trans hSW305.size ((hM312.1 _ (List.mem_cons_self ..)).2.1 b hb).1
      have hSW314 := hSW305.ext hb308
      refine WL.nil (WH.ret hSW314 ?_)
      refine WH.one (i := 10) (by kernel_rfl) rfl ?_
      refine wl_store_blk (i := 0) (vs := [v296, v287, (.int .i64 x0.2.2.1), (.int .i64 x0.2.2.2)]) (cs' := [v296, v287, (.int .i64 x0.2.2.1), (.int .i64 x0.2.2.2)]) tf_53 rfl rfl rfl rfl hB309 hS310 rfl rfl ⟨(hS310.own_ro (i := 1) rfl).one, (hS310.own_ro (i := 2) rfl).one, rfl, rfl, trivial⟩ rfl ?_
      intro w315 hk318 hB316 hS317
      have hSW319 := hSW314.wr' hk318.1 hk318.2.1 (fun b hlt hb => absurd hlt (Nat.not_lt.2 (hn313 b hb)))
      have hn320 : ∀ b ∈ [b306], w221.heap.size ≤ b := fun b hb => (hk318.2.2 b hb).elim (hn313 b) fun h => Nat.le_trans hSW314.size h
      refine WL.nil (WH.ret hSW319 ?_)
      refine WH.done (by kernel_rfl) ?_
      exact fun a ha => hJ26 ([]) (u286) (x0.2.2.1) (x0.2.2.2) (v296) (F297) (v287) (F288) (b306) _ hF hB316 (hS317.sel [4, 3, 1, 2, 0] rfl) a (ha.sub ⟨rfl, rfl, rfl, trivial⟩)
    ·
      refine wl_alloc (cs := [(.slice none 0 0), (.slice none 0 0), (.int .i64 0), (.int .i64 0)]) tf_53 rfl rfl (Below.self w289) (Sep.nil _ _) ?_
      intro b321 w322 hb323 hB326 hM327
      have hB324 := hB291.trans (hb323.mono hB291.size)
      have hS325 := hS292.join hb323 hM327 hB291.size
      have hn328 : ∀ b ∈ [b321], w221.heap.size ≤ b := fun b hb => Nat.le_trans hSW295.size ((hM327.1 _ (List.mem_cons_self ..)).2.1 b hb).1
      have hSW329 := hSW295.ext hb323
      refine WL.nil (WH.ret hSW329 ?_)
      refine WH.one (i := 0) (by kernel_rfl) rfl ?_
      refine wl_lit0 (e := ty_63) Try.underlying51 rfl (Below.self w322) (Sep.nil _ _) ?_
      intro v330 F331 w332 hb333 hB336 hM337
      have hB334 := hB324.trans (hb333.mono hB324.size)
      have hS335 := hS325.join hb333 hM337 hB324.size
      have hn338 : ∀ b ∈ F331, w221.heap.size ≤ b := fun b hb => Nat.le_trans hSW329.size ((hM337.1 _ (List.mem_cons_self ..)).2.1 b hb).1
      have hSW339 := hSW329.ext hb333
      refine WL.nil (WH.ret hSW339 ?_)
      refine WH.takex (i := 8) rfl (by kernel_rfl) (by kernel_rfl) (by kernel_rfl) hP hSW339 ?_
      refine pr_build (zs := [(.slice none 0 0), (.slice none 0 0), (.int .i64 0), (.int .i64 0)]) (out := [v330, v287, (.int .i64 x0.2.2.1), (.int .i64 x0.2.2.2)]) (vs := [v330, v287, (.int .i64 x0.2.2.1), (.int .i64 x0.2.2.2)]) (css := [[v330], [v287], [(.int .i64 x0.2.2.1)], [(.int .i64 x0.2.2.2)]]) tf_53 pl_53 rfl rfl (by simp only [List.map_cons, List.map_nil, cells_one ((hS335.own_ro (i := 0) rfl).one), cells_one ((hS335.own_ro (i := 2) rfl).one)] <;> rfl) rfl rfl ?_
      refine WH.one (i := 10) (by kernel_rfl) rfl ?_
      refine wl_store_blk (i := 1) (vs := [v330, v287, (.int .i64 x0.2.2.1), (.int .i64 x0.2.2.2)]) (cs' := [v330, v287, (.int .i64 x0.2.2.1), (.int .i64 x0.2.2.2)]) tf_53 rfl rfl rfl rfl hB334 hS335 rfl rfl ⟨(hS335.own_ro (i := 0) rfl).one, (hS335.own_ro (i := 2) rfl).one, rfl, rfl, trivial⟩ rfl ?_
      intro w340 hk343 hB341 hS342
      have hSW344 := hSW339.wr' hk343.1 hk343.2.1 (fun b hlt hb => absurd hlt (Nat.not_lt.2 (hn328 b hb)))
      have hn345 : ∀ b ∈ [b321], w221.heap.size ≤ b := fun b hb => (hk343.2.2 b hb).elim (hn328 b) fun h => Nat.le_trans hSW339.size h
      refine WL.nil (WH.ret hSW344 ?_)
      refine WH.done (by kernel_rfl) ?_
      exact fun a ha => hJ26 ([]) (u286) (x0.2.2.1) (x0.2.2.2) (v330) (F331) (v287) (F288) (b321) _ hF hB341 (hS342.sel [4, 3, 0, 2, 1] rfl) a (ha.sub ⟨rfl, rfl, rfl, trivial⟩)
  ·
    refine wl_alloc (cs := [(.slice none 0 0), (.slice none 0 0), (.int .i64 0), (.int .i64 0)]) tf_53 rfl rfl (Below.self w221) (Sep.nil _ _) ?_
    intro b346 w347 hb348 hB351 hM352
    have hB349 := hB223.trans (hb348.mono hB223.size)
    have hS350 := hS224.join hb348 hM352 hB223.size
    have hn353 : ∀ b ∈ [b346], w221.heap.size ≤ b := fun b hb => Nat.le_trans hSW225.size ((hM352.1 _ (List.mem_cons_self ..)).2.1 b hb).1
    have hSW354 := hSW225.ext hb348
    refine WL.nil (WH.ret hSW354 ?_)
    refine WH.many (is := [0, 3]) (by kernel_rfl) rfl ?_
    refine List.forall_mem_cons.2 ⟨⟨_, rfl, ?_⟩, List.forall_mem_cons.2 ⟨⟨_, rfl, ?_⟩, fun _ h => by cases h⟩⟩
    ·
      refine wl_lit0 (e := ty_63) Try.underlying51 rfl (Below.self w347) (Sep.nil _ _) ?_
      intro v355 F356 w357 hb358 hB361 hM362
      have hB359 := hB349.trans (hb358.mono hB349.size)
      have hS360 := hS350.join hb358 hM362 hB349.size
      have hn363 : ∀ b ∈ F356, w221.heap.size ≤ b := fun b hb => Nat.le_trans hSW354.size ((hM362.1 _ (List.mem_cons_self ..)).2.1 b hb).1
      have hSW364 := hSW354.ext hb358
      refine WL.nil (WH.ret hSW364 ?_)
      refine WH.one (i := 3) (by kernel_rfl) rfl ?_
      obtain ⟨u365, hu365, hF⟩ := bindE hF
      refine wl_call rfl Try.call241 (C_impl_copyInts w357 x0.2.1 v0_1 (h0_1.ro hB359) _ hu365) rfl ?_
      rintro _ w368 ⟨v366, F367, rfl, hb369, hM372⟩
      refine ⟨_, rfl, ?_⟩
      have hB370 := hB359.trans (hb369.mono hB359.size)
      have hn373 : ∀ b ∈ F367, w221.heap.size ≤ b := fun b hb => Nat.le_trans hSW364.size ((hM372.get (i := 0) rfl).2.1 b hb).1
      have hS371 := hS360.join hb369 hM372 hB359.size
      have hSW374 := hSW364.ext hb369
      refine WL.nil (WH.ret hSW374 ?_)
      refine WH.takex (i := 8) rfl (by kernel_rfl) (by kernel_rfl) (by kernel_rfl) hP hSW374 ?_
      refine pr_build (zs := [(.slice none 0 0), (.slice none 0 0), (.int .i64 0), (.int .i64 0)]) (out := [v355, v366, (.int .i64 x0.2.2.1), (.int .i64 x0.2.2.2)]) (vs := [v355, v366, (.int .i64 x0.2.2.1), (.int .i64 x0.2.2.2)]) (css := [[v355], [v366], [(.int .i64 x0.2.2.1)], [(.int .i64 x0.2.2.2)]]) tf_53 pl_53 rfl rfl (by simp only [List.map_cons, List.map_nil, cells_one ((hS371.own_ro (i := 1) rfl).one), cells_one ((hS371.own_ro (i := 0) rfl).one)] <;> rfl) rfl rfl ?_
      refine WH.one (i := 10) (by kernel_rfl) rfl ?_
      refine wl_store_blk (i := 2) (vs := [v355, v366, (.int .i64 x0.2.2.1), (.int .i64 x0.2.2.2)]) (cs' := [v355, v366, (.int .i64 x0.2.2.1), (.int .i64 x0.2.2.2)]) tf_53 rfl rfl rfl rfl hB370 hS371 rfl rfl ⟨(hS371.own_ro (i := 1) rfl).one, (hS371.own_ro (i := 0) rfl).one, rfl, rfl, trivial⟩ rfl ?_
      intro w375 hk378 hB376 hS377
      have hSW379 := hSW374.wr' hk378.1 hk378.2.1 (fun b hlt hb => absurd hlt (Nat.not_lt.2 (hn353 b hb)))
      have hn380 : ∀ b ∈ [b346], w221.heap.size ≤ b := fun b hb => (hk378.2.2 b hb).elim (hn353 b) fun h => Nat.le_trans hSW374.size h
      refine WL.nil (WH.ret hSW379 ?_)
      refine WH.done (by kernel_rfl) ?_
      exact fun a ha => hJ26 ([]) (u365) (x0.2.2.1) (x0.2.2.2) (v355) (F356) (v366) (F367) (b346) _ hF hB376 (hS377.sel [4, 3, 1, 0, 2] rfl) a (ha.sub ⟨rfl, rfl, rfl, trivial⟩)
    ·
      obtain ⟨u381, hu381, hF⟩ := bindE hF
      refine wl_call rfl Try.call241 (C_impl_copyInts w347 x0.2.1 v0_1 (h0_1.ro hB349) _ hu381) rfl ?_
      rintro _ w384 ⟨v382, F383, rfl, hb385, hM388⟩
      refine ⟨_, rfl, ?_⟩
      have hB386 := hB349.trans (hb385.mono hB349.size)
      have hn389 : ∀ b ∈ F383, w221.heap.size ≤ b := fun b hb => Nat.le_trans hSW354.size ((hM388.get (i := 0) rfl).2.1 b hb).1
      have hS387 := hS350.join hb385 hM388 hB349.size
      have hSW390 := hSW354.ext hb385
      refine WL.nil (WH.ret hSW390 ?_)
      refine WH.one (i := 0) (by kernel_rfl) rfl ?_
      refine wl_lit0 (e := ty_63) Try.underlying51 rfl (Below.self w384) (Sep.nil _ _) ?_
      intro v391 F392 w393 hb394 hB397 hM398
      have hB395 := hB386.trans (hb394.mono hB386.size)
      have hS396 := hS387.join hb394 hM398 hB386.size
      have hn399 : ∀ b ∈ F392, w221.heap.size ≤ b := fun b hb => Nat.le_trans hSW390.size ((hM398.1 _ (List.mem_cons_self ..)).2.1 b hb).1
      have hSW400 := hSW390.ext hb394
      refine WL.nil (WH.ret hSW400 ?_)
      refine WH.takex (i := 8) rfl (by kernel_rfl) (by kernel_rfl) (by kernel_rfl) hP hSW400 ?_
      refine pr_build (zs := [(.slice none 0 0), (.slice none 0 0), (.int .i64 0), (.int .i64 0)]) (out := [v391, v382, (.int .i64 x0.2.2.1), (.int .i64 x0.2.2.2)]) (vs := [v391, v382, (.int .i64 x0.2.2.1), (.int .i64 x0.2.2.2)]) (css := [[v391], [v382], [(.int .i64 x0.2.2.1)], [(.int .i64 x0.2.2.2)]]) tf_53 pl_53 rfl rfl (by simp only [List.map_cons, List.map_nil, cells_one ((hS396.own_ro (i := 0) rfl).one), cells_one ((hS396.own_ro (i := 1) rfl).one)] <;> rfl) rfl rfl ?_
      refine WH.one (i := 10) (by kernel_rfl) rfl ?_
      refine wl_store_blk (i := 2) (vs := [v391, v382, (.int .i64 x0.2.2.1), (.int .i64 x0.2.2.2)]) (cs' := [v391, v382, (.int .i64 x0.2.2.1), (.int .i64 x0.2.2.2)]) tf_53 rfl rfl rfl rfl hB395 hS396 rfl rfl ⟨(hS396.own_ro (i := 0) rfl).one, (hS396.own_ro (i := 1) rfl).one, rfl, rfl, trivial⟩ rfl ?_
      intro w401 hk404 hB402 hS403
      have hSW405 := hSW400.wr' hk404.1 hk404.2.1 (fun b hlt hb => absurd hlt (Nat.not_lt.2 (hn353 b hb)))
      have hn406 : ∀ b ∈ [b346], w221.heap.size ≤ b := fun b hb => (hk404.2.2 b hb).elim (hn353 b) fun h => Nat.le_trans hSW400.size h
      refine WL.nil (WH.ret hSW405 ?_)
      refine WH.done (by kernel_rfl) ?_
      exact fun a ha => hJ26 ([]) (u381) (x0.2.2.1) (x0.2.2.2) (v391) (F392) (v382) (F383) (b346) _ hF hB402 (hS403.sel [4, 3, 0, 1, 2] rfl) a (ha.sub ⟨rfl, rfl, rfl, trivial⟩)
theorem C_impl_asShow__take (w0 : World) (x0 : ((List (List (Int × Int))) × (List Int) × Int × Int)) (v0_0 : Value) (B0_0 : List Nat) (v0_1 : Value) (B0_1 : List Nat) (hS0 : Sep 0 w0 [R.own ty_63 B0_0 v0_0 x0.1, R.own ty_3 B0_1 v0_1 x0.2.1]) (r : (((List (List (Int × Int))) × (List Int) × Int × Int) × Bool)) (hF : F_impl_asShow__take x0 = some r) :
    Calls Try.prog 169 [(.agg #[v0_0, v0_1, (.int .i64 x0.2.2.1), (.int .i64 x0.2.2.2)])].toArray w0 fun e w' => ∃ (q0 : Value) (G0 : List Nat) (q1 : Value) (G1 : List Nat), e = .returned (.tuple #[(.agg #[q0, q1, (.int .i64 r.1.2.2.1), (.int .i64 r.1.2.2.2)]), (.bool r.2)]) ∧ Below 0 (wE w0) w' ∧ Sep 0 w' [R.rest w0 (fps [R.own ty_63 B0_0 v0_0 x0.1, R.own ty_3 B0_1 v0_1 x0.2.1]), R.own ty_63 G0 q0 r.1.1, R.own ty_3 G1 q1 r.1.2.1] := by
  refine calls_mk' Try.func169 rfl Try.ntmps169 rfl rfl fun Q hQ hP => ?_
  have hB : Below (wE w0).heap.size (wE w0) w0 := wE_below w0
  have hS : Sep (wE w0).heap.size w0 [R.rest w0 (fps [R.own ty_63 B0_0 v0_0 x0.1, R.own ty_3 B0_1 v0_1 x0.2.1]), R.own ty_63 B0_0 v0_0 x0.1, R.own ty_3 B0_1 v0_1 x0.2.1] := hS0.rest
  unfold F_impl_asShow__take at hF
  refine W.seq fun K1 hK1 => ?_
  refine W.region ?_
  refine wl_box (cs := [v0_0, v0_1, (.int .i64 x0.2.2.1), (.int .i64 x0.2.2.2)]) rfl rfl rfl hB hS ?_
  intro b2 w3 hb4 hB5 hS6
  refine wl_alloc (cs := [(.slice none 0 0), (.slice none 0 0), (.int .i64 0), (.int .i64 0)]) tf_53 rfl rfl hB5 hS6 ?_
  intro b7 w8 hb9 hB10 hS11
  refine wl_assign rfl rfl ?_
  refine WL.nil ?_
  refine fun a ha => hK1 _ _ ?_ a ha
  refine W.seq fun K12 hK12 => ?_
  refine W.seq fun K13 hK13 => ?_
  refine W.region ?_
  refine wl_load_blk (i := 1) (vs := [v0_0, v0_1, (.int .i64 x0.2.2.1), (.int .i64 x0.2.2.2)]) (v := (.agg #[v0_0, v0_1, (.int .i64 x0.2.2.1), (.int .i64 x0.2.2.2)])) tf_53 rfl rfl hS11 rfl rfl rfl ?_
  obtain ⟨u14, hu14, hF⟩ := bindE hF
  refine wl_call rfl Try.call60 (C_impl_IsShow w8 x0 v0_0 (hS11.own_ro (i := 3) rfl) v0_1 (hS11.own_ro (i := 4) rfl) _ hu14) rfl ?_
  rintro _ w15 ⟨rfl, hb16⟩
  refine ⟨_, rfl, ?_⟩
  have hB17 := hB10.trans (hb16.mono hB10.size)
  have hS18 := hS11.below hb16
  refine wl_not rfl rfl ?_
  refine WL.nil ?_
  refine fun a ha => hK13 _ _ ?_ a ha
  refine W.cond rfl (fun h20 => ?_) (fun h20 => ?_)
  · replace hF := ifP h20 hF
    refine W.seq fun K21 hK21 => ?_
    refine W.region ?_
    refine wl_build (zs := [(.slice none 0 0), (.slice none 0 0), (.int .i64 0), (.int .i64 0)]) (out := [(.slice none 0 0), (.slice none 0 0), (.int .i64 0), (.int .i64 0)]) (vs := []) (css := []) tf_53 pl_53 rfl rfl rfl rfl rfl ?_
    refine wl_store_blk (i := 0) (vs := [(.slice none 0 0), (.slice none 0 0), (.int .i64 0), (.int .i64 0)]) (cs' := [(.slice none 0 0), (.slice none 0 0), (.int .i64 0), (.int .i64 0)]) tf_53 rfl rfl rfl rfl hB17 hS18 rfl rfl ⟨rfl, rfl, rfl, rfl, trivial⟩ rfl ?_
    intro w22 hk25 hB23 hS24
    refine wl_assign rfl rfl ?_
    refine WL.nil ?_
    refine fun a ha => hK21 _ _ ?_ a ha
    refine W.ret ?_
    have hS26 := hS24.push0 (r := R.own ty_63 [] (.slice none 0 0) []) rfl fun _ => .inl ⟨rfl, rfl, rfl⟩
    have hS27 := hS26.push0 (r := R.own ty_3 [] (.slice none 0 0) []) rfl fun _ => .inl ⟨rfl, rfl, rfl⟩
    have hr := Option.some.inj hF
    subst hr
    exact rets (vs := [(.agg #[(.slice none 0 0), (.slice none 0 0), (.int .i64 0), (.int .i64 0)]), (.bool false)]) hQ rfl ⟨rv_cell (i := 0) tf_53 rfl hS24 rfl rfl rfl, rv_tmp rfl, trivial⟩ ⟨(.slice none 0 0), [], (.slice none 0 0), [], rfl, hB23, hS27.sel [4, 1, 0] rfl⟩
  · replace hF := ifN h20 hF
    refine W.skip ?_
    refine fun a ha => hK12 _ _ ?_ a ha
    refine W.seq fun K28 hK28 => ?_
    refine W.region ?_
    refine wl_load_blk (i := 1) (vs := [v0_0, v0_1, (.int .i64 x0.2.2.1), (.int .i64 x0.2.2.2)]) (v := (.agg #[v0_0, v0_1, (.int .i64 x0.2.2.1), (.int .i64 x0.2.2.2)])) tf_53 rfl rfl hS18 rfl rfl rfl ?_
    refine wl_store_blk (i := 0) (vs := [v0_0, v0_1, (.int .i64 x0.2.2.1), (.int .i64 x0.2.2.2)]) (cs' := [v0_0, v0_1, (.int .i64 x0.2.2.1), (.int .i64 x0.2.2.2)]) tf_53 rfl rfl rfl rfl hB17 hS18 rfl rfl ⟨(hS18.own_ro (i := 3) rfl).one, (hS18.own_ro (i := 4) rfl).one, rfl, rfl, trivial⟩ rfl ?_
    intro w29 hk32 hB30 hS31
    refine wl_assign rfl rfl ?_
    refine WL.nil ?_
    refine fun a ha => hK28 _ _ ?_ a ha
    refine W.ret ?_
    have hr := Option.some.inj hF
    subst hr
    exact rets (vs := [(.agg #[v0_0, v0_1, (.int .i64 x0.2.2.1), (.int .i64 x0.2.2.2)]), (.bool true)]) hQ rfl ⟨rv_cell (i := 0) tf_53 rfl hS31 rfl rfl rfl, rv_tmp rfl, trivial⟩ ⟨v0_0, B0_0, v0_1, B0_1, rfl, hB30, hS31.sel [2, 3, 4] rfl⟩
theorem C_impl_AddShowChart (w0 : World) (x0 : ((List (List (Int × Int))) × (List Int) × Int × Int)) (v0_0 : Value) (h0_0 : rdS ty_63 (· < w0.heap.size) w0 v0_0 x0.1) (v0_1 : Value) (h0_1 : rdS ty_3 (· < w0.heap.size) w0 v0_1 x0.2.1) (x1 : (List (Int × Int))) (v1_0 : Value) (h1_0 : rdS ty_68 (· < w0.heap.size) w0 v1_0 x1) (x2 : Int) (r : (((List (List (Int × Int))) × (List Int) × Int × Int) × Bool)) (hF : F_impl_AddShowChart x0 x1 x2 = some r) :
    Calls Try.prog 56 [(.agg #[v0_0, v0_1, (.int .i64 x0.2.2.1), (.int .i64 x0.2.2.2)]), v1_0, (.int .i64 x2)].toArray w0 fun e w' => ∃ (q0 : Value) (G0 : List Nat) (q1 : Value) (G1 : List Nat), e = .returned (.tuple #[(.agg #[q0, q1, (.int .i64 r.1.2.2.1), (.int .i64 r.1.2.2.2)]), (.bool r.2)]) ∧ Below w0.heap.size w0 w' ∧ Sep w0.heap.size w' [R.own ty_63 G0 q0 r.1.1, R.own ty_3 G1 q1 r.1.2.1] := by
  refine calls_mk' Try.func56 rfl Try.ntmps56 rfl rfl fun Q hQ hP => ?_
  have hB : Below w0.heap.size w0 w0 := Below.refl _ _
  have hS : Sep w0.heap.size w0 [] := Sep.nil _ _
  unfold F_impl_AddShowChart at hF
  refine W.seq fun K1 hK1 => ?_
  refine W.region ?_
  refine wl_box (cs := [v0_0, v0_1, (.int .i64 x0.2.2.1), (.int .i64 x0.2.2.2)]) rfl rfl rfl hB hS ?_
  intro b2 w3 hb4 hB5 hS6
  refine wl_alloc (cs := [(.slice none 0 0), (.slice none 0 0), (.int .i64 0), (.int .i64 0)]) tf_53 rfl rfl hB5 hS6 ?_
  intro b7 w8 hb9 hB10 hS11
  refine wl_assign rfl rfl ?_
  refine WL.nil ?_
  refine fun a ha => hK1 _ _ ?_ a ha
  refine W.seq fun K12 hK12 => ?_
  refine W.seq fun K13 hK13 => ?_
  refine W.region ?_
  refine wl_load_blk (i := 1) (vs := [v0_0, v0_1, (.int .i64 x0.2.2.1), (.int .i64 x0.2.2.2)]) (v := (.agg #[v0_0, v0_1, (.int .i64 x0.2.2.1), (.int .i64 x0.2.2.2)])) tf_53 rfl rfl hS11 rfl rfl rfl ?_
  obtain ⟨u14, hu14, hF⟩ := bindE hF
  refine wl_call rfl Try.call60 (C_impl_IsShow w8 x0 v0_0 (h0_0.ro hB10) v0_1 (h0_1.ro hB10) _ hu14) rfl ?_
  rintro _ w15 ⟨rfl, hb16⟩
  refine ⟨_, rfl, ?_⟩
  have hB17 := hB10.trans (hb16.mono hB10.size)
  have hS18 := hS11.below hb16
  refine wl_not rfl rfl ?_
  refine WL.nil ?_
  refine fun a ha => hK13 _ _ ?_ a ha
  refine W.cond rfl (fun h20 => ?_) (fun h20 => ?_)
  · replace hF := ifP h20 hF
    refine W.seq fun K21 hK21 => ?_
    refine W.region ?_
    refine wl_build (zs := [(.slice none 0 0), (.slice none 0 0), (.int .i64 0), (.int .i64 0)]) (out := [(.slice none 0 0), (.slice none 0 0), (.int .i64 0), (.int .i64 0)]) (vs := []) (css := []) tf_53 pl_53 rfl rfl rfl rfl rfl ?_
    refine wl_store_blk (i := 0) (vs := [(.slice none 0 0), (.slice none 0 0), (.int .i64 0), (.int .i64 0)]) (cs' := [(.slice none 0 0), (.slice none 0 0), (.int .i64 0), (.int .i64 0)]) tf_53 rfl rfl rfl rfl hB17 hS18 rfl rfl ⟨rfl, rfl, rfl, rfl, trivial⟩ rfl ?_
    intro w22 hk25 hB23 hS24
    refine wl_assign rfl rfl ?_
    refine WL.nil ?_
    refine fun a ha => hK21 _ _ ?_ a ha
    refine W.ret ?_
    have hS26 := hS24.push0 (r := R.own ty_63 [] (.slice none 0 0) []) rfl fun _ => .inl ⟨rfl, rfl, rfl⟩
    have hS27 := hS26.push0 (r := R.own ty_3 [] (.slice none 0 0) []) rfl fun _ => .inl ⟨rfl, rfl, rfl⟩
    have hr := Option.some.inj hF
    subst hr
    exact rets (vs := [(.agg #[(.slice none 0 0), (.slice none 0 0), (.int .i64 0), (.int .i64 0)]), (.bool false)]) hQ rfl ⟨rv_cell (i := 0) tf_53 rfl hS24 rfl rfl rfl, rv_tmp rfl, trivial⟩ ⟨(.slice none 0 0), [], (.slice none 0 0), [], rfl, hB23, hS27.sel [1, 0] rfl⟩
  · replace hF := ifN h20 hF
    refine W.skip ?_
    refine fun a ha => hK12 _ _ ?_ a ha
    refine W.seq fun K28 hK28 => ?_
    refine W.region ?_
    refine wl_load_blk (i := 1) (vs := [v0_0, v0_1, (.int .i64 x0.2.2.1), (.int .i64 x0.2.2.2)]) (v := (.agg #[v0_0, v0_1, (.int .i64 x0.2.2.1), (.int .i64 x0.2.2.2)])) tf_53 rfl rfl hS18 rfl rfl rfl ?_
    obtain ⟨u29, hu29, hF⟩ := bindE hF
    refine wl_call rfl Try.call168 (C_impl_copyShow w15 x0 v0_0 (h0_0.ro hB17) v0_1 (h0_1.ro hB17) _ hu29) rfl ?_
    rintro _ w34 ⟨v30, F31, v32, F33, rfl, hb35, hM38⟩
    refine ⟨_, rfl, ?_⟩
    have hB36 := hB17.trans (hb35.mono hB17.size)
    have hS37 := hS18.join hb35 hM38 hB17.size
    refine wl_alloc (cs := [(.slice none 0 0), (.slice none 0 0), (.int .i64 0), (.int .i64 0)]) tf_53 rfl rfl hB36 hS37 ?_
    intro b39 w40 hb41 hB42 hS43
    refine wl_store_blk (i := 0) (vs := [v30, v32, (.int .i64 u29.2.2.1), (.int .i64 u29.2.2.2)]) (cs' := [v30, v32, (.int .i64 u29.2.2.1), (.int .i64 u29.2.2.2)]) tf_53 rfl rfl rfl rfl hB42 hS43 rfl rfl ⟨(hS43.own_ro (i := 1) rfl).one, (hS43.own_ro (i := 2) rfl).one, rfl, rfl, trivial⟩ rfl ?_
    intro w44 hk47 hB45 hS46
    refine WL.nil ?_
    refine fun a ha => hK28 _ _ ?_ a ha
    refine W.seq fun K48 hK48 => ?_
    obtain ⟨k55, hk55, hF⟩ := jE1 hF
    have hJ56 : ∀ (l52 : (List (List (Int × Int)))) (v53 : Value) (F54 : List Nat) (w49 : World) (_ : k55 l52 = some r) (_ : Below w0.heap.size w0 w49) (_ : Sep w0.heap.size w49 [R.blk b7 53 [(.slice none 0 0), (.slice none 0 0), (.int .i64 0), (.int .i64 0)], R.own ty_63 F54 v53 l52, R.own ty_3 F33 v32 u29.2.1, R.blk b39 53 [v53, v32, (.int .i64 u29.2.2.1), (.int .i64 u29.2.2.2)]]), ∀ a, St 33 [(2, (.int .i64 x2)), (6, (.pointer (some ⟨b7, 0, none⟩))), (8, (.pointer (some ⟨b39, 0, none⟩)))] a → K48 a w49 := by
      intro l52 v53 F54 w49 hF hB50 hS51
      subst hk55
      refine fun a ha => hK48 _ _ ?_ a ha
      refine W.seq fun K57 hK57 => ?_
      refine W.region ?_
      refine wl_field (o := 1) (off' := 1) ff_53_1 rfl rfl rfl ?_
      refine wl_load_blk (i := 3) (vs := [v32]) (v := v32) tf_29 rfl rfl hS51 rfl rfl rfl ?_
      refine wl_move rfl rfl ?_
      refine wl_lit (vs := [(.int .i64 x2)]) (l := [x2]) fl_3 Try.underlying29 rfl rfl rfl rfl rfl rfl hB50 hS51 ?_
      intro v58 F59 w60 hb61 hB62 hS63
      obtain ⟨u64, hu64, hF⟩ := bindE hF
      refine wl_append (i := 3) (S := (· < w60.heap.size)) fl_3 Try.underlying29 rfl rfl rfl hB62 hS63 rfl (hS63.own_ro (i := 0) rfl) hu64 ?_
      intro v65 F66 w67 hk68 hB69 hS70
      refine wl_field (o := 1) (off' := 1) ff_53_1 rfl rfl rfl ?_
      refine wl_store_blk (i := 4) (vs := [v65]) (cs' := [v53, v65, (.int .i64 u29.2.2.1), (.int .i64 u29.2.2.2)]) tf_29 rfl rfl (cells_one (hS70.own_ro (i := 3) rfl).one) rfl hB69 hS70 rfl rfl ⟨(hS70.own_ro (i := 3) rfl).one, trivial⟩ rfl ?_
      intro w71 hk74 hB72 hS73
      refine WL.nil ?_
      refine fun a ha => hK57 _ _ ?_ a ha
      refine W.seq fun K75 hK75 => ?_
      refine W.region ?_
      refine wl_load_blk (i := 4) (vs := [v53, v65, (.int .i64 u29.2.2.1), (.int .i64 u29.2.2.2)]) (v := (.agg #[v53, v65, (.int .i64 u29.2.2.1), (.int .i64 u29.2.2.2)])) tf_53 rfl rfl hS73 rfl rfl rfl ?_
      obtain ⟨u76, hu76, hF⟩ := bindE hF
      refine wl_call rfl Try.call169 (C_impl_asShow__take w71 (l52, u64, u29.2.2.1, u29.2.2.2) v53 F54 v65 F66 (hS73.sel [2, 3] rfl).base0 _ hu76) rfl ?_
      rintro _ w77 ⟨v82, F83, v84, F85, rfl, hE78, hM79⟩
      refine ⟨_, rfl, ?_⟩
      have hB80 := hS73.takeB [2, 3] rfl (M := [R.own ty_63 F54 v53 l52, R.own ty_3 F66 v65 u64]) rfl hB72 hE78 hM79
      have hS81 : Sep w0.heap.size w77 [R.own ty_63 F83 v82 u76.1.1, R.own ty_3 F85 v84 u76.1.2.1, R.own ty_3 F59 v58 [x2], R.blk b7 53 [(.slice none 0 0), (.slice none 0 0), (.int .i64 0), (.int .i64 0)], R.blk b39 53 [v53, v65, (.int .i64 u29.2.2.1), (.int .i64 u29.2.2.2)]] := hS73.take [2, 3] [0, 1, 4] rfl (M := [R.own ty_63 F54 v53 l52, R.own ty_3 F66 v65 u64]) rfl hM79 hB72.size
      refine wl_extract rfl rfl rfl ?_
      refine wl_extract rfl rfl rfl ?_
      refine wl_store_blk (i := 3) (vs := [v82, v84, (.int .i64 u76.1.2.2.1), (.int .i64 u76.1.2.2.2)]) (cs' := [v82, v84, (.int .i64 u76.1.2.2.1), (.int .i64 u76.1.2.2.2)]) tf_53 rfl rfl rfl rfl hB80 hS81 rfl rfl ⟨(hS81.own_ro (i := 0) rfl).one, (hS81.own_ro (i := 1) rfl).one, rfl, rfl, trivial⟩ rfl ?_
      intro w86 hk89 hB87 hS88
      refine wl_assign rfl rfl ?_
      refine WL.nil ?_
      refine fun a ha => hK75 _ _ ?_ a ha
      refine W.ret ?_
      have hr := Option.some.inj hF
      subst hr
      exact rets (vs := [(.agg #[v82, v84, (.int .i64 u76.1.2.2.1), (.int .i64 u76.1.2.2.2)]), (.bool u76.2)]) hQ rfl ⟨rv_cell (i := 3) tf_53 rfl hS88 rfl rfl rfl, rv_tmp rfl, trivial⟩ ⟨v82, F83, v84, F85, rfl, hB87, hS88.sel [0, 1] rfl⟩
    refine W.regionH mixed_ ([b39] ++ F31) hB45 hS46 ?_
    intro w90 hb91 hB92 hS93
    have hSW94 := KeepX.refl w90 ([b39] ++ F31)
    refine WH.takex (i := 0) rfl (by kernel_rfl) (by kernel_rfl) (by kernel_rfl) hP hSW94 ?_
    refine pr_field (o := 0) (off' := 0) ff_53_0 rfl rfl rfl ?_
    refine WH.takex (i := 3) rfl (by kernel_rfl) (by kernel_rfl) (by kernel_rfl) hP hSW94 ?_
    refine pr_move rfl rfl ?_
    refine WH.many (is := [1, 2]) (by kernel_rfl) rfl ?_
    refine List.forall_mem_cons.2 ⟨⟨_, rfl, ?_⟩, List.forall_mem_cons.2 ⟨⟨_, rfl, ?_⟩, fun _ h => by cases h⟩⟩
    ·
      refine wl_load_blk (i := 0) (vs := [v30]) (v := v30) tf_51 rfl rfl hS93 rfl rfl rfl ?_
      refine WL.nil (WH.ret hSW94 ?_)
      refine WH.one (i := 2) (by kernel_rfl) rfl ?_
      refine wl_lit (vs := []) (l := []) fl_68 Try.underlying63 rfl rfl rfl rfl rfl rfl (Below.self w90) (Sep.nil _ _) ?_
      intro v95 F96 w97 hb98 hB101 hM102
      have hB99 := hB92.trans (hb98.mono hB92.size)
      have hS100 := hS93.join hb98 hM102 hB92.size
      have hn103 : ∀ b ∈ F96, w90.heap.size ≤ b := fun b hb => Nat.le_trans hSW94.size ((hM102.1 _ (List.mem_cons_self ..)).2.1 b hb).1
      have hSW104 := hSW94.ext hb98
      have hbS105 : Below w90.heap.size w90 w97 := hb98
      refine WL.nil (WH.ret hSW104 ?_)
      refine WH.one (i := 4) (by kernel_rfl) rfl ?_
      obtain ⟨u106, hu106, hF⟩ := bindE hF
      refine wl_append (i := 0) (S := (· < w97.heap.size)) fl_68 Try.underlying63 rfl rfl rfl hB99 hS100 rfl (h1_0.ro hB99) hu106 ?_
      intro v107 F108 w109 hk110 hB111 hS112
      have hSW113 := hSW104.wr' hk110.1 hk110.2.1 (fun b hlt hb => absurd hlt (Nat.not_lt.2 (hn103 b hb)))
      have hn114 : ∀ b ∈ F108, w90.heap.size ≤ b := fun b hb => (hk110.2.2 b hb).elim (hn103 b) fun h => Nat.le_trans hSW104.size h
      refine WL.nil (WH.ret hSW113 ?_)
      refine WH.one (i := 5) (by kernel_rfl) rfl ?_
      have hq115 := hS112.sel [0, 1, 2, 3, 4, 5] rfl
      have hq116 := hq115.head (r' := R.cel ty_63 F108 [v107] u106) (rfl) fun _ h0 => ⟨_, rfl, h0⟩
      refine wl_lit1 (e := ty_63) (vs := [v107]) Try.underlying51 rfl rfl (cells_one (hS112.own_ro (i := 0) rfl).one) rfl hB111 hq116 ?_
      intro v117 F118 w119 hb120 hf121 hB122 hS123
      have hn124 : ∀ b ∈ F118, w90.heap.size ≤ b := fun b hb => (hf121 b hb).elim (hn114 b) fun h => Nat.le_trans hSW113.size h
      have hSW125 := hSW113.ext hb120
      refine WL.nil (WH.ret hSW125 ?_)
      refine WH.one (i := 6) (by kernel_rfl) rfl ?_
      obtain ⟨u126, hu126, hF⟩ := bindE hF
      refine wl_appendn (e := ty_63) Try.underlying51 rfl rfl rfl hB122 (hS123.sel [2, 0, 1, 3, 4, 5] rfl) hu126 ?_
      intro v127 F128 w129 hk130 hB131 hS132
      have hSW133 := hSW125.wr' hk130.1 hk130.2.1 (fun _ _ h => List.mem_append_right _ h)
      have hbs134 : ∀ b, b < w90.heap.size → b ∈ F128 → b ∈ ([b39] ++ F31) := fun b hlt hb => (hk130.2.2 b hb).elim ((fun _ _ h => List.mem_append_right _ h) b hlt) (fun h => h.elim (fun h => absurd hlt (Nat.not_lt.2 (hn124 b h))) fun h => absurd hlt (Nat.not_lt.2 (Nat.le_trans hSW125.size h)))
      refine WL.nil (WH.ret hSW133 ?_)
      refine WH.takex (i := 7) rfl (by kernel_rfl) (by kernel_rfl) (by kernel_rfl) hP hSW133 ?_
      refine pr_field (o := 0) (off' := 0) ff_53_0 rfl rfl rfl ?_
      refine WH.one (i := 8) (by kernel_rfl) rfl ?_
      refine wl_store_blk (i := 1) (vs := [v127]) (cs' := [v127, v32, (.int .i64 u29.2.2.1), (.int .i64 u29.2.2.2)]) tf_51 rfl rfl (cells_one (hS132.own_ro (i := 0) rfl).one) rfl hB131 hS132 rfl rfl ⟨(hS132.own_ro (i := 0) rfl).one, trivial⟩ rfl ?_
      intro w135 hk138 hB136 hS137
      have hSW139 := hSW133.wr' hk138.1 hk138.2.1 (fun _ _ h => List.mem_append_left _ (h))
      have hbs140 : ∀ b, b < w90.heap.size → b ∈ [b39] → b ∈ ([b39] ++ F31) := fun b hlt hb => (hk138.2.2 b hb).elim ((fun _ _ h => List.mem_append_left _ (h)) b hlt) (fun h => absurd hlt (Nat.not_lt.2 (Nat.le_trans hSW133.size h)))
      refine WL.nil (WH.ret hSW139 ?_)
      refine WH.done (by kernel_rfl) ?_
      exact fun a ha => hJ56 (u126) (v127) (F128) _ hF hB136 (hS137.sel [3, 0, 2, 1] rfl) a (ha.sub ⟨rfl, rfl, rfl, trivial⟩)
    ·
      refine wl_lit (vs := []) (l := []) fl_68 Try.underlying63 rfl rfl rfl rfl rfl rfl (Below.self w90) (Sep.nil _ _) ?_
      intro v141 F142 w143 hb144 hB147 hM148
      have hB145 := hB92.trans (hb144.mono hB92.size)
      have hS146 := hS93.join hb144 hM148 hB92.size
      have hn149 : ∀ b ∈ F142, w90.heap.size ≤ b := fun b hb => Nat.le_trans hSW94.size ((hM148.1 _ (List.mem_cons_self ..)).2.1 b hb).1
      have hSW150 := hSW94.ext hb144
      have hbS151 : Below w90.heap.size w90 w143 := hb144
      refine WL.nil (WH.ret hSW150 ?_)
      refine WH.many (is := [1, 4]) (by kernel_rfl) rfl ?_
      refine List.forall_mem_cons.2 ⟨⟨_, rfl, ?_⟩, List.forall_mem_cons.2 ⟨⟨_, rfl, ?_⟩, fun _ h => by cases h⟩⟩
      ·
        refine wl_load_blk (i := 1) (vs := [v30]) (v := v30) tf_51 rfl rfl hS146 rfl rfl rfl ?_
        refine WL.nil (WH.ret hSW150 ?_)
        refine WH.one (i := 4) (by kernel_rfl) rfl ?_
        obtain ⟨u152, hu152, hF⟩ := bindE hF
        refine wl_append (i := 0) (S := (· < w143.heap.size)) fl_68 Try.underlying63 rfl rfl rfl hB145 hS146 rfl (h1_0.ro hB145) hu152 ?_
        intro v153 F154 w155 hk156 hB157 hS158
        have hSW159 := hSW150.wr' hk156.1 hk156.2.1 (fun b hlt hb => absurd hlt (Nat.not_lt.2 (hn149 b hb)))
        have hn160 : ∀ b ∈ F154, w90.heap.size ≤ b := fun b hb => (hk156.2.2 b hb).elim (hn149 b) fun h => Nat.le_trans hSW150.size h
        refine WL.nil (WH.ret hSW159 ?_)
        refine WH.one (i := 5) (by kernel_rfl) rfl ?_
        have hq161 := hS158.sel [0, 1, 2, 3, 4, 5] rfl
        have hq162 := hq161.head (r' := R.cel ty_63 F154 [v153] u152) (rfl) fun _ h0 => ⟨_, rfl, h0⟩
        refine wl_lit1 (e := ty_63) (vs := [v153]) Try.underlying51 rfl rfl (cells_one (hS158.own_ro (i := 0) rfl).one) rfl hB157 hq162 ?_
        intro v163 F164 w165 hb166 hf167 hB168 hS169
        have hn170 : ∀ b ∈ F164, w90.heap.size ≤ b := fun b hb => (hf167 b hb).elim (hn160 b) fun h => Nat.le_trans hSW159.size h
        have hSW171 := hSW159.ext hb166
        refine WL.nil (WH.ret hSW171 ?_)
        refine WH.one (i := 6) (by kernel_rfl) rfl ?_
        obtain ⟨u172, hu172, hF⟩ := bindE hF
        refine wl_appendn (e := ty_63) Try.underlying51 rfl rfl rfl hB168 (hS169.sel [2, 0, 1, 3, 4, 5] rfl) hu172 ?_
        intro v173 F174 w175 hk176 hB177 hS178
        have hSW179 := hSW171.wr' hk176.1 hk176.2.1 (fun _ _ h => List.mem_append_right _ h)
        have hbs180 : ∀ b, b < w90.heap.size → b ∈ F174 → b ∈ ([b39] ++ F31) := fun b hlt hb => (hk176.2.2 b hb).elim ((fun _ _ h => List.mem_append_right _ h) b hlt) (fun h => h.elim (fun h => absurd hlt (Nat.not_lt.2 (hn170 b h))) fun h => absurd hlt (Nat.not_lt.2 (Nat.le_trans hSW171.size h)))
        refine WL.nil (WH.ret hSW179 ?_)
        refine WH.takex (i := 7) rfl (by kernel_rfl) (by kernel_rfl) (by kernel_rfl) hP hSW179 ?_
        refine pr_field (o := 0) (off' := 0) ff_53_0 rfl rfl rfl ?_
        refine WH.one (i := 8) (by kernel_rfl) rfl ?_
        refine wl_store_blk (i := 1) (vs := [v173]) (cs' := [v173, v32, (.int .i64 u29.2.2.1), (.int .i64 u29.2.2.2)]) tf_51 rfl rfl (cells_one (hS178.own_ro (i := 0) rfl).one) rfl hB177 hS178 rfl rfl ⟨(hS178.own_ro (i := 0) rfl).one, trivial⟩ rfl ?_
        intro w181 hk184 hB182 hS183
        have hSW185 := hSW179.wr' hk184.1 hk184.2.1 (fun _ _ h => List.mem_append_left _ (h))
        have hbs186 : ∀ b, b < w90.heap.size → b ∈ [b39] → b ∈ ([b39] ++ F31) := fun b hlt hb => (hk184.2.2 b hb).elim ((fun _ _ h => List.mem_append_left _ (h)) b hlt) (fun h => absurd hlt (Nat.not_lt.2 (Nat.le_trans hSW179.size h)))
        refine WL.nil (WH.ret hSW185 ?_)
        refine WH.done (by kernel_rfl) ?_
        exact fun a ha => hJ56 (u172) (v173) (F174) _ hF hB182 (hS183.sel [3, 0, 2, 1] rfl) a (ha.sub ⟨rfl, rfl, rfl, trivial⟩)
      ·
        obtain ⟨u187, hu187, hF⟩ := bindE hF
        refine wl_append (i := 0) (S := (· < w143.heap.size)) fl_68 Try.underlying63 rfl rfl rfl hB145 hS146 rfl (h1_0.ro hB145) hu187 ?_
        intro v188 F189 w190 hk191 hB192 hS193
        have hSW194 := hSW150.wr' hk191.1 hk191.2.1 (fun b hlt hb => absurd hlt (Nat.not_lt.2 (hn149 b hb)))
        have hn195 : ∀ b ∈ F189, w90.heap.size ≤ b := fun b hb => (hk191.2.2 b hb).elim (hn149 b) fun h => Nat.le_trans hSW150.size h
        refine WL.nil (WH.ret hSW194 ?_)
        refine WH.many (is := [1, 5]) (by kernel_rfl) rfl ?_
        refine List.forall_mem_cons.2 ⟨⟨_, rfl, ?_⟩, List.forall_mem_cons.2 ⟨⟨_, rfl, ?_⟩, fun _ h => by cases h⟩⟩
        ·
          refine wl_load_blk (i := 1) (vs := [v30]) (v := v30) tf_51 rfl rfl hS193 rfl rfl rfl ?_
          refine WL.nil (WH.ret hSW194 ?_)
          refine WH.one (i := 5) (by kernel_rfl) rfl ?_
          have hq196 := hS193.sel [0, 1, 2, 3, 4, 5] rfl
          have hq197 := hq196.head (r' := R.cel ty_63 F189 [v188] u187) (rfl) fun _ h0 => ⟨_, rfl, h0⟩
          refine wl_lit1 (e := ty_63) (vs := [v188]) Try.underlying51 rfl rfl (cells_one (hS193.own_ro (i := 0) rfl).one) rfl hB192 hq197 ?_
          intro v198 F199 w200 hb201 hf202 hB203 hS204
          have hn205 : ∀ b ∈ F199, w90.heap.size ≤ b := fun b hb => (hf202 b hb).elim (hn195 b) fun h => Nat.le_trans hSW194.size h
          have hSW206 := hSW194.ext hb201
          refine WL.nil (WH.ret hSW206 ?_)
          refine WH.one (i := 6) (by kernel_rfl) rfl ?_
          obtain ⟨u207, hu207, hF⟩ := bindE hF
          refine wl_appendn (e := ty_63) Try.underlying51 rfl rfl rfl hB203 (hS204.sel [2, 0, 1, 3, 4, 5] rfl) hu207 ?_
          intro v208 F209 w210 hk211 hB212 hS213
          have hSW214 := hSW206.wr' hk211.1 hk211.2.1 (fun _ _ h => List.mem_append_right _ h)
          have hbs215 : ∀ b, b < w90.heap.size → b ∈ F209 → b ∈ ([b39] ++ F31) := fun b hlt hb => (hk211.2.2 b hb).elim ((fun _ _ h => List.mem_append_right _ h) b hlt) (fun h => h.elim (fun h => absurd hlt (Nat.not_lt.2 (hn205 b h))) fun h => absurd hlt (Nat.not_lt.2 (Nat.le_trans hSW206.size h)))
          refine WL.nil (WH.ret hSW214 ?_)
          refine WH.takex (i := 7) rfl (by kernel_rfl) (by kernel_rfl) (by kernel_rfl) hP hSW214 ?_
          refine pr_field (o := 0) (off' := 0) ff_53_0 rfl rfl rfl ?_
          refine WH.one (i := 8) (by kernel_rfl) rfl ?_
          refine wl_store_blk (i := 1) (vs := [v208]) (cs' := [v208, v32, (.int .i64 u29.2.2.1), (.int .i64 u29.2.2.2)]) tf_51 rfl rfl (cells_one (hS213.own_ro (i := 0) rfl).one) rfl hB212 hS213 rfl rfl ⟨(hS213.own_ro (i := 0) rfl).one, trivial⟩ rfl ?_
          intro w216 hk219 hB217 hS218
          have hSW220 := hSW214.wr' hk219.1 hk219.2.1 (fun _ _ h => List.mem_append_left _ (h))
          have hbs221 : ∀ b, b < w90.heap.size → b ∈ [b39] → b ∈ ([b39] ++ F31) := fun b hlt hb => (hk219.2.2 b hb).elim ((fun _ _ h => List.mem_append_left _ (h)) b hlt) (fun h => absurd hlt (Nat.not_lt.2 (Nat.le_trans hSW214.size h)))
          refine WL.nil (WH.ret hSW220 ?_)
          refine WH.done (by kernel_rfl) ?_
          exact fun a ha => hJ56 (u207) (v208) (F209) _ hF hB217 (hS218.sel [3, 0, 2, 1] rfl) a (ha.sub ⟨rfl, rfl, rfl, trivial⟩)
        ·
          have hq222 := hS193.sel [0, 1, 2, 3, 4, 5] rfl
          have hq223 := hq222.head (r' := R.cel ty_63 F189 [v188] u187) (rfl) fun _ h0 => ⟨_, rfl, h0⟩
          refine wl_lit1 (e := ty_63) (vs := [v188]) Try.underlying51 rfl rfl (cells_one (hS193.own_ro (i := 0) rfl).one) rfl hB192 hq223 ?_
          intro v224 F225 w226 hb227 hf228 hB229 hS230
          have hn231 : ∀ b ∈ F225, w90.heap.size ≤ b := fun b hb => (hf228 b hb).elim (hn195 b) fun h => Nat.le_trans hSW194.size h
          have hSW232 := hSW194.ext hb227
          refine WL.nil (WH.ret hSW232 ?_)
          refine WH.one (i := 1) (by kernel_rfl) rfl ?_
          refine wl_load_blk (i := 1) (vs := [v30]) (v := v30) tf_51 rfl rfl hS230 rfl rfl rfl ?_
          refine WL.nil (WH.ret hSW232 ?_)
          refine WH.one (i := 6) (by kernel_rfl) rfl ?_
          obtain ⟨u233, hu233, hF⟩ := bindE hF
          refine wl_appendn (e := ty_63) Try.underlying51 rfl rfl rfl hB229 (hS230.sel [2, 0, 1, 3, 4, 5] rfl) hu233 ?_
          intro v234 F235 w236 hk237 hB238 hS239
          have hSW240 := hSW232.wr' hk237.1 hk237.2.1 (fun _ _ h => List.mem_append_right _ h)
          have hbs241 : ∀ b, b < w90.heap.size → b ∈ F235 → b ∈ ([b39] ++ F31) := fun b hlt hb => (hk237.2.2 b hb).elim ((fun _ _ h => List.mem_append_right _ h) b hlt) (fun h => h.elim (fun h => absurd hlt (Nat.not_lt.2 (hn231 b h))) fun h => absurd hlt (Nat.not_lt.2 (Nat.le_trans hSW232.size h)))
          refine WL.nil (WH.ret hSW240 ?_)
          refine WH.takex (i := 7) rfl (by kernel_rfl) (by kernel_rfl) (by kernel_rfl) hP hSW240 ?_
          refine pr_field (o := 0) (off' := 0) ff_53_0 rfl rfl rfl ?_
          refine WH.one (i := 8) (by kernel_rfl) rfl ?_
          refine wl_store_blk (i := 1) (vs := [v234]) (cs' := [v234, v32, (.int .i64 u29.2.2.1), (.int .i64 u29.2.2.2)]) tf_51 rfl rfl (cells_one (hS239.own_ro (i := 0) rfl).one) rfl hB238 hS239 rfl rfl ⟨(hS239.own_ro (i := 0) rfl).one, trivial⟩ rfl ?_
          intro w242 hk245 hB243 hS244
          have hSW246 := hSW240.wr' hk245.1 hk245.2.1 (fun _ _ h => List.mem_append_left _ (h))
          have hbs247 : ∀ b, b < w90.heap.size → b ∈ [b39] → b ∈ ([b39] ++ F31) := fun b hlt hb => (hk245.2.2 b hb).elim ((fun _ _ h => List.mem_append_left _ (h)) b hlt) (fun h => absurd hlt (Nat.not_lt.2 (Nat.le_trans hSW240.size h)))
          refine WL.nil (WH.ret hSW246 ?_)
          refine WH.done (by kernel_rfl) ?_
          exact fun a ha => hJ56 (u233) (v234) (F235) _ hF hB243 (hS244.sel [3, 0, 2, 1] rfl) a (ha.sub ⟨rfl, rfl, rfl, trivial⟩)
theorem C_spec_swOwn (w0 : World) (x0 : ((List (List (Int × Int))) × (List Int) × Int × Int)) (v0_0 : Value) (h0_0 : rdS ty_63 (· < w0.heap.size) w0 v0_0 x0.1) (v0_1 : Value) (h0_1 : rdS ty_3 (· < w0.heap.size) w0 v0_1 x0.2.1) (r : ((List (List (Int × Int))) × (List Int) × Int × Int)) (hF : F_spec_swOwn x0 = some r) :
    Calls Try.prog 170 [(.agg #[v0_0, v0_1, (.int .i64 x0.2.2.1), (.int .i64 x0.2.2.2)])].toArray w0 fun e w' => ∃ (q0 : Value) (G0 : List Nat) (q1 : Value) (G1 : List Nat), e = .returned (.agg #[q0, q1, (.int .i64 r.2.2.1), (.int .i64 r.2.2.2)]) ∧ Below w0.heap.size w0 w' ∧ Sep w0.heap.size w' [R.own ty_63 G0 q0 r.1, R.own ty_3 G1 q1 r.2.1] := by
  refine calls_mk' Try.func170 rfl Try.ntmps170 rfl rfl fun Q hQ hP => ?_
  have hB : Below w0.heap.size w0 w0 := Below.refl _ _
  have hS : Sep w0.heap.size w0 [] := Sep.nil _ _
  unfold F_spec_swOwn at hF
  refine W.seq fun K1 hK1 => ?_
  refine W.region ?_
  refine wl_box (cs := [v0_0, v0_1, (.int .i64 x0.2.2.1), (.int .i64 x0.2.2.2)]) rfl rfl rfl hB hS ?_
  intro b2 w3 hb4 hB5 hS6
  refine wl_alloc (cs := [(.slice none 0 0), (.slice none 0 0), (.int .i64 0), (.int .i64 0)]) tf_53 rfl rfl hB5 hS6 ?_
  intro b7 w8 hb9 hB10 hS11
  refine WL.nil ?_
  refine fun a ha => hK1 _ _ ?_ a ha
  refine W.seq fun K12 hK12 => ?_
  obtain ⟨k22, hk22, hF⟩ := jE3 hF
  have hJ23 : ∀ (l17 : (List Int)) (y20 : Int) (y21 : Int) (v18 : Value) (F19 : List Nat) (b16 : Nat) (w13 : World) (_ : k22 l17 y20 y21 = some r) (_ : Below w0.heap.size w0 w13) (_ : Sep w0.heap.size w13 [R.blk b2 53 [v0_0, v0_1, (.int .i64 x0.2.2.1), (.int .i64 x0.2.2.2)], R.blk b7 53 [(.slice none 0 0), (.slice none 0 0), (.int .i64 0), (.int .i64 0)], R.own ty_3 F19 v18 l17, R.blk b16 53 [(.slice none 0 0), v18, (.int .i64 y20), (.int .i64 y21)]]), ∀ a, St 30 [(1, (.pointer (some ⟨b2, 0, none⟩))), (2, (.pointer (some ⟨b7, 0, none⟩))), (3, (.pointer (some ⟨b16, 0, none⟩)))] a → K12 a w13 := by
    intro l17 y20 y21 v18 F19 b16 w13 hF hB14 hS15
    subst hk22
    refine fun a ha => hK12 _ _ ?_ a ha
    refine W.seq fun K24 hK24 => ?_
    refine W.seq fun K25 hK25 => ?_
    refine W.region ?_
    refine wl_field (o := 0) (off' := 0) ff_53_0 rfl rfl rfl ?_
    refine wl_load_blk (i := 0) (vs := [v0_0]) (v := v0_0) tf_51 rfl rfl hS15 rfl rfl rfl ?_
    refine wl_lenr (e := ty_63) (l := x0.1) Try.underlying51 rfl rfl h0_0 ?_
    refine wl_move rfl rfl ?_
    refine WL.nil ?_
    refine fun a ha => hK25 _ _ ?_ a ha
    refine W.block ?_
    refine W.loopk (fun m a w26 => ∃ (l29 : (List (List (Int × Int)))) (y32 : Int) (v30 : Value) (F31 : List Nat), St 30 [(2, (.pointer (some ⟨b7, 0, none⟩))), (3, (.pointer (some ⟨b16, 0, none⟩))), (15, v0_0), (16, (.int .i64 (List.length x0.1 : Int))), (17, (.int .i64 y32))] a ∧ Below w0.heap.size w0 w26 ∧ Sep w0.heap.size w26 [R.blk b7 53 [(.slice none 0 0), (.slice none 0 0), (.int .i64 0), (.int .i64 0)], R.own ty_63 F31 v30 l29, R.own ty_3 F19 v18 l17, R.blk b16 53 [v30, v18, (.int .i64 y20), (.int .i64 y21)]] ∧ F_spec_swOwn_L1 x0 l17 y20 y21 m l29 y32 = some r) FU ?_ ?_
    ·
      have hS34 := hS15.push0 (r := R.own ty_63 [] (.slice none 0 0) []) rfl fun _ => .inl ⟨rfl, rfl, rfl⟩
      exact fun a ha => ⟨[], 0, (.slice none 0 0), [], ha.sub ⟨rfl, rfl, rfl, rfl, rfl, trivial⟩, hB14, (hS34.sel [2, 0, 3, 4] rfl), hF⟩
    ·
      rintro m36 a w26 ⟨l29, y32, v30, F31, ha, hB27, hS28, hF⟩ KL35 hKL35
      refine W.at ?_ ha
      cases m36 with
      | zero => exact noneE hF
      | succ m36 =>
        obtain ⟨nx33, hnx33⟩ : ∃ k, k = F_spec_swOwn_L1 x0 l17 y20 y21 m36 := ⟨_, rfl⟩
        rw [F_spec_swOwn_L1, ← hnx33] at hF
        refine W.seq fun K37 hK37 => ?_
        refine W.region ?_
        refine wl_lss rfl rfl rfl ?_
        refine WL.nil ?_
        refine fun a ha => hK37 _ _ ?_ a ha
        refine W.seq fun K38 hK38 => ?_
        refine W.cond rfl (fun h39 => ?_) (fun h39 => ?_)
        · replace hF := ifP h39 hF
          refine W.skip ?_
          refine fun a ha => hK38 _ _ ?_ a ha
          refine W.seq fun K40 hK40 => ?_
          obtain ⟨k47, hk47, hF⟩ := jE1 hF
          have hJ48 : ∀ (l44 : (List (List (Int × Int)))) (v45 : Value) (F46 : List Nat) (w41 : World) (_ : k47 l44 = some r) (_ : Below w0.heap.size w0 w41) (_ : Sep w0.heap.size w41 [R.blk b7 53 [(.slice none 0 0), (.slice none 0 0), (.int .i64 0), (.int .i64 0)], R.own ty_63 F46 v45 l44, R.own ty_3 F19 v18 l17, R.blk b16 53 [v45, v18, (.int .i64 y20), (.int .i64 y21)]]), ∀ a, St 30 [(2, (.pointer (some ⟨b7, 0, none⟩))), (3, (.pointer (some ⟨b16, 0, none⟩))), (15, v0_0), (16, (.int .i64 (List.length x0.1 : Int))), (17, (.int .i64 y32))] a → K40 a w41 := by
            intro l44 v45 F46 w41 hF hB42 hS43
            subst hk47
            refine fun a ha => hK40 _ _ ?_ a ha
            refine W.region ?_
            refine wl_add rfl rfl rfl ?_
            refine wl_move rfl rfl ?_
            refine WL.nil ?_
            rw [hnx33] at hF
            exact fun a ha => hKL35 a _ m36 (Nat.lt_succ_self m36) ⟨l44, (w64 (y32 + 1)), v45, F46, ha.sub ⟨rfl, rfl, rfl, rfl, rfl, trivial⟩, hB42, (hS43.sel [0, 1, 2, 3] rfl), hF⟩
          refine W.block ?_
          refine W.seq fun K49 hK49 => ?_
          refine W.region ?_
          obtain ⟨u50, hu50, hF⟩ := bindE hF
          refine wl_index (e := ty_63) Try.underlying51 rfl rfl rfl h0_0 hu50 ?_
          rintro p51 _ ⟨v53, rfl, hv54⟩ hp52
          refine wl_load_p (vs := [v53]) (v := v53) tf_63 rfl rfl (hp52.ro hB27) rfl rfl ?_
          refine wl_assign rfl rfl ?_
          refine WL.nil ?_
          refine fun a ha => hK49 _ _ ?_ a ha
          refine W.regionH mixed_ (F31 ++ [b16]) hB27 hS28 ?_
          intro w55 hb56 hB57 hS58
          have hSW59 := KeepX.refl w55 (F31 ++ [b16])
          refine WH.takex (i := 0) rfl (by kernel_rfl) (by kernel_rfl) (by kernel_rfl) hP hSW59 ?_
          refine pr_field (o := 0) (off' := 0) ff_53_0 rfl rfl rfl ?_
          refine WH.takex (i := 2) rfl (by kernel_rfl) (by kernel_rfl) (by kernel_rfl) hP hSW59 ?_
          refine pr_move rfl rfl ?_
          refine WH.many (is := [1, 3]) (by kernel_rfl) rfl ?_
          refine List.forall_mem_cons.2 ⟨⟨_, rfl, ?_⟩, List.forall_mem_cons.2 ⟨⟨_, rfl, ?_⟩, fun _ h => by cases h⟩⟩
          ·
            refine wl_load_blk (i := 3) (vs := [v30]) (v := v30) tf_51 rfl rfl hS58 rfl rfl rfl ?_
            refine WL.nil (WH.ret hSW59 ?_)
            refine WH.one (i := 3) (by kernel_rfl) rfl ?_
            obtain ⟨u60, hu60, hF⟩ := bindE hF
            refine wl_call rfl Try.call171 (C_spec_chOwn w55 u50 v53 (hv54.ro hB57) _ hu60) rfl ?_
            rintro _ w63 ⟨v61, F62, rfl, hb64, hM67⟩
            refine ⟨_, rfl, ?_⟩
            have hB65 := hB57.trans (hb64.mono hB57.size)
            have hn68 : ∀ b ∈ F62, w55.heap.size ≤ b := fun b hb => Nat.le_trans hSW59.size ((hM67.get (i := 0) rfl).2.1 b hb).1
            have hS66 := hS58.join hb64 hM67 hB57.size
            have hSW69 := hSW59.ext hb64
            have hbS70 : Below w55.heap.size w55 w63 := hb64
            refine WL.nil (WH.ret hSW69 ?_)
            refine WH.one (i := 4) (by kernel_rfl) rfl ?_
            have hq71 := hS66.sel [0, 1, 2, 3, 4] rfl
            have hq72 := hq71.head (r' := R.cel ty_63 F62 [v61] u60) (rfl) fun _ h0 => ⟨_, rfl, h0⟩
            refine wl_lit1 (e := ty_63) (vs := [v61]) Try.underlying51 rfl rfl (cells_one (hS66.own_ro (i := 0) rfl).one) rfl hB65 hq72 ?_
            intro v73 F74 w75 hb76 hf77 hB78 hS79
            have hn80 : ∀ b ∈ F74, w55.heap.size ≤ b := fun b hb => (hf77 b hb).elim (hn68 b) fun h => Nat.le_trans hSW69.size h
            have hSW81 := hSW69.ext hb76
            have hbS82 : Below w55.heap.size w55 w75 := hbS70.trans (hb76.mono hbS70.size)
            refine WL.nil (WH.ret hSW81 ?_)
            refine WH.one (i := 5) (by kernel_rfl) rfl ?_
            obtain ⟨u83, hu83, hF⟩ := bindE hF
            refine wl_appendn (e := ty_63) Try.underlying51 rfl rfl rfl hB78 (hS79.sel [2, 0, 1, 3, 4] rfl) hu83 ?_
            intro v84 F85 w86 hk87 hB88 hS89
            have hSW90 := hSW81.wr' hk87.1 hk87.2.1 (fun _ _ h => List.mem_append_left _ (h))
            have hbs91 : ∀ b, b < w55.heap.size → b ∈ F85 → b ∈ (F31 ++ [b16]) := fun b hlt hb => (hk87.2.2 b hb).elim ((fun _ _ h => List.mem_append_left _ (h)) b hlt) (fun h => h.elim (fun h => absurd hlt (Nat.not_lt.2 (hn80 b h))) fun h => absurd hlt (Nat.not_lt.2 (Nat.le_trans hSW81.size h)))
            refine WL.nil (WH.ret hSW90 ?_)
            refine WH.takex (i := 6) rfl (by kernel_rfl) (by kernel_rfl) (by kernel_rfl) hP hSW90 ?_
            refine pr_field (o := 0) (off' := 0) ff_53_0 rfl rfl rfl ?_
            refine WH.one (i := 7) (by kernel_rfl) rfl ?_
            refine wl_store_blk (i := 3) (vs := [v84]) (cs' := [v84, v18, (.int .i64 y20), (.int .i64 y21)]) tf_51 rfl rfl (cells_one (hS89.own_ro (i := 0) rfl).one) rfl hB88 hS89 rfl rfl ⟨(hS89.own_ro (i := 0) rfl).one, trivial⟩ rfl ?_
            intro w92 hk95 hB93 hS94
            have hSW96 := hSW90.wr' hk95.1 hk95.2.1 (fun _ _ h => List.mem_append_right _ h)
            have hbs97 : ∀ b, b < w55.heap.size → b ∈ [b16] → b ∈ (F31 ++ [b16]) := fun b hlt hb => (hk95.2.2 b hb).elim ((fun _ _ h => List.mem_append_right _ h) b hlt) (fun h => absurd hlt (Nat.not_lt.2 (Nat.le_trans hSW90.size h)))
            refine WL.nil (WH.ret hSW96 ?_)
            refine WH.done (by kernel_rfl) ?_
            exact fun a ha => hJ48 (u83) (v84) (F85) _ hF hB93 (hS94.sel [1, 0, 2, 3] rfl) a (ha.sub ⟨rfl, rfl, rfl, rfl, rfl, trivial⟩)
          ·
            obtain ⟨u98, hu98, hF⟩ := bindE hF
            refine wl_call rfl Try.call171 (C_spec_chOwn w55 u50 v53 (hv54.ro hB57) _ hu98) rfl ?_
            rintro _ w101 ⟨v99, F100, rfl, hb102, hM105⟩
            refine ⟨_, rfl, ?_⟩
            have hB103 := hB57.trans (hb102.mono hB57.size)
            have hn106 : ∀ b ∈ F100, w55.heap.size ≤ b := fun b hb => Nat.le_trans hSW59.size ((hM105.get (i := 0) rfl).2.1 b hb).1
            have hS104 := hS58.join hb102 hM105 hB57.size
            have hSW107 := hSW59.ext hb102
            have hbS108 : Below w55.heap.size w55 w101 := hb102
            refine WL.nil (WH.ret hSW107 ?_)
            refine WH.many (is := [1, 4]) (by kernel_rfl) rfl ?_
            refine List.forall_mem_cons.2 ⟨⟨_, rfl, ?_⟩, List.forall_mem_cons.2 ⟨⟨_, rfl, ?_⟩, fun _ h => by cases h⟩⟩
            ·
              refine wl_load_blk (i := 4) (vs := [v30]) (v := v30) tf_51 rfl rfl hS104 rfl rfl rfl ?_
              refine WL.nil (WH.ret hSW107 ?_)
              refine WH.one (i := 4) (by kernel_rfl) rfl ?_
              have hq109 := hS104.sel [0, 1, 2, 3, 4] rfl
              have hq110 := hq109.head (r' := R.cel ty_63 F100 [v99] u98) (rfl) fun _ h0 => ⟨_, rfl, h0⟩
              refine wl_lit1 (e := ty_63) (vs := [v99]) Try.underlying51 rfl rfl (cells_one (hS104.own_ro (i := 0) rfl).one) rfl hB103 hq110 ?_
              intro v111 F112 w113 hb114 hf115 hB116 hS117
              have hn118 : ∀ b ∈ F112, w55.heap.size ≤ b := fun b hb => (hf115 b hb).elim (hn106 b) fun h => Nat.le_trans hSW107.size h
              have hSW119 := hSW107.ext hb114
              have hbS120 : Below w55.heap.size w55 w113 := hbS108.trans (hb114.mono hbS108.size)
              refine WL.nil (WH.ret hSW119 ?_)
              refine WH.one (i := 5) (by kernel_rfl) rfl ?_
              obtain ⟨u121, hu121, hF⟩ := bindE hF
              refine wl_appendn (e := ty_63) Try.underlying51 rfl rfl rfl hB116 (hS117.sel [2, 0, 1, 3, 4] rfl) hu121 ?_
              intro v122 F123 w124 hk125 hB126 hS127
              have hSW128 := hSW119.wr' hk125.1 hk125.2.1 (fun _ _ h => List.mem_append_left _ (h))
              have hbs129 : ∀ b, b < w55.heap.size → b ∈ F123 → b ∈ (F31 ++ [b16]) := fun b hlt hb => (hk125.2.2 b hb).elim ((fun _ _ h => List.mem_append_left _ (h)) b hlt) (fun h => h.elim (fun h => absurd hlt (Nat.not_lt.2 (hn118 b h))) fun h => absurd hlt (Nat.not_lt.2 (Nat.le_trans hSW119.size h)))
              refine WL.nil (WH.ret hSW128 ?_)
              refine WH.takex (i := 6) rfl (by kernel_rfl) (by kernel_rfl) (by kernel_rfl) hP hSW128 ?_
              refine pr_field (o := 0) (off' := 0) ff_53_0 rfl rfl rfl ?_
              refine WH.one (i := 7) (by kernel_rfl) rfl ?_
              refine wl_store_blk (i := 3) (vs := [v122]) (cs' := [v122, v18, (.int .i64 y20), (.int .i64 y21)]) tf_51 rfl rfl (cells_one (hS127.own_ro (i := 0) rfl).one) rfl hB126 hS127 rfl rfl ⟨(hS127.own_ro (i := 0) rfl).one, trivial⟩ rfl ?_
              intro w130 hk133 hB131 hS132
              have hSW134 := hSW128.wr' hk133.1 hk133.2.1 (fun _ _ h => List.mem_append_right _ h)
              have hbs135 : ∀ b, b < w55.heap.size → b ∈ [b16] → b ∈ (F31 ++ [b16]) := fun b hlt hb => (hk133.2.2 b hb).elim ((fun _ _ h => List.mem_append_right _ h) b hlt) (fun h => absurd hlt (Nat.not_lt.2 (Nat.le_trans hSW128.size h)))
              refine WL.nil (WH.ret hSW134 ?_)
              refine WH.done (by kernel_rfl) ?_
              exact fun a ha => hJ48 (u121) (v122) (F123) _ hF hB131 (hS132.sel [1, 0, 2, 3] rfl) a (ha.sub ⟨rfl, rfl, rfl, rfl, rfl, trivial⟩)
            ·
              have hq136 := hS104.sel [0, 1, 2, 3, 4] rfl
              have hq137 := hq136.head (r' := R.cel ty_63 F100 [v99] u98) (rfl) fun _ h0 => ⟨_, rfl, h0⟩
              refine wl_lit1 (e := ty_63) (vs := [v99]) Try.underlying51 rfl rfl (cells_one (hS104.own_ro (i := 0) rfl).one) rfl hB103 hq137 ?_
              intro v138 F139 w140 hb141 hf142 hB143 hS144
              have hn145 : ∀ b ∈ F139, w55.heap.size ≤ b := fun b hb => (hf142 b hb).elim (hn106 b) fun h => Nat.le_trans hSW107.size h
              have hSW146 := hSW107.ext hb141
              have hbS147 : Below w55.heap.size w55 w140 := hbS108.trans (hb141.mono hbS108.size)
              refine WL.nil (WH.ret hSW146 ?_)
              refine WH.one (i := 1) (by kernel_rfl) rfl ?_
              refine wl_load_blk (i := 4) (vs := [v30]) (v := v30) tf_51 rfl rfl hS144 rfl rfl rfl ?_
              refine WL.nil (WH.ret hSW146 ?_)
              refine WH.one (i := 5) (by kernel_rfl) rfl ?_
              obtain ⟨u148, hu148, hF⟩ := bindE hF
              refine wl_appendn (e := ty_63) Try.underlying51 rfl rfl rfl hB143 (hS144.sel [2, 0, 1, 3, 4] rfl) hu148 ?_
              intro v149 F150 w151 hk152 hB153 hS154
              have hSW155 := hSW146.wr' hk152.1 hk152.2.1 (fun _ _ h => List.mem_append_left _ (h))
              have hbs156 : ∀ b, b < w55.heap.size → b ∈ F150 → b ∈ (F31 ++ [b16]) := fun b hlt hb => (hk152.2.2 b hb).elim ((fun _ _ h => List.mem_append_left _ (h)) b hlt) (fun h => h.elim (fun h => absurd hlt (Nat.not_lt.2 (hn145 b h))) fun h => absurd hlt (Nat.not_lt.2 (Nat.le_trans hSW146.size h)))
              refine WL.nil (WH.ret hSW155 ?_)
              refine WH.takex (i := 6) rfl (by kernel_rfl) (by kernel_rfl) (by kernel_rfl) hP hSW155 ?_
              refine pr_field (o := 0) (off' := 0) ff_53_0 rfl rfl rfl ?_
              refine WH.one (i := 7) (by kernel_rfl) rfl ?_
              refine wl_store_blk (i := 3) (vs := [v149]) (cs' := [v149, v18, (.int .i64 y20), (.int .i64 y21)]) tf_51 rfl rfl (cells_one (hS154.own_ro (i := 0) rfl).one) rfl hB153 hS154 rfl rfl ⟨(hS154.own_ro (i := 0) rfl).one, trivial⟩ rfl ?_
              intro w157 hk160 hB158 hS159
              have hSW161 := hSW155.wr' hk160.1 hk160.2.1 (fun _ _ h => List.mem_append_right _ h)
              have hbs162 : ∀ b, b < w55.heap.size → b ∈ [b16] → b ∈ (F31 ++ [b16]) := fun b hlt hb => (hk160.2.2 b hb).elim ((fun _ _ h => List.mem_append_right _ h) b hlt) (fun h => absurd hlt (Nat.not_lt.2 (Nat.le_trans hSW155.size h)))
              refine WL.nil (WH.ret hSW161 ?_)
              refine WH.done (by kernel_rfl) ?_
              exact fun a ha => hJ48 (u148) (v149) (F150) _ hF hB158 (hS159.sel [1, 0, 2, 3] rfl) a (ha.sub ⟨rfl, rfl, rfl, rfl, rfl, trivial⟩)
        · replace hF := ifN h39 hF
          refine W.exit ?_
          refine fun a ha => hK24 _ _ ?_ a ha
          refine W.seq fun K163 hK163 => ?_
          refine W.region ?_
          refine wl_load_blk (i := 3) (vs := [v30, v18, (.int .i64 y20), (.int .i64 y21)]) (v := (.agg #[v30, v18, (.int .i64 y20), (.int .i64 y21)])) tf_53 rfl rfl hS28 rfl rfl rfl ?_
          refine wl_store_blk (i := 0) (vs := [v30, v18, (.int .i64 y20), (.int .i64 y21)]) (cs' := [v30, v18, (.int .i64 y20), (.int .i64 y21)]) tf_53 rfl rfl rfl rfl hB27 hS28 rfl rfl ⟨(hS28.own_ro (i := 1) rfl).one, (hS28.own_ro (i := 2) rfl).one, rfl, rfl, trivial⟩ rfl ?_
          intro w164 hk167 hB165 hS166
          refine WL.nil ?_
          refine fun a ha => hK163 _ _ ?_ a ha
          refine W.ret ?_
          have hr := Option.some.inj hF
          subst hr
          exact rets (vs := [(.agg #[v30, v18, (.int .i64 y20), (.int .i64 y21)])]) hQ rfl ⟨rv_cell (i := 0) tf_53 rfl hS166 rfl rfl rfl, trivial⟩ ⟨v30, F31, v18, F19, rfl, hB165, hS166.sel [1, 2] rfl⟩
  refine W.regionH mixed_ [] hB10 hS11 ?_
  intro w168 hb169 hB170 hS171
  have hSW172 := KeepX.refl w168 []
  refine WH.takex (i := 0) rfl (by kernel_rfl) (by kernel_rfl) (by kernel_rfl) hP hSW172 ?_
  refine pr_field (o := 1) (off' := 1) ff_53_1 rfl rfl rfl ?_
  refine WH.takex (i := 1) rfl (by kernel_rfl) (by kernel_rfl) (by kernel_rfl) hP hSW172 ?_
  refine pr_load_blk (i := 1) (vs := [v0_1]) (v := v0_1) tf_29 rfl rfl hS171 rfl rfl rfl (by simp) ?_
  refine WH.takex (i := 3) rfl (by kernel_rfl) (by kernel_rfl) (by kernel_rfl) hP hSW172 ?_
  refine pr_field (o := 2) (off' := 2) ff_53_2 rfl rfl rfl ?_
  refine WH.takex (i := 4) rfl (by kernel_rfl) (by kernel_rfl) (by kernel_rfl) hP hSW172 ?_
  refine pr_load_blk (i := 1) (vs := [(.int .i64 x0.2.2.1)]) (v := (.int .i64 x0.2.2.1)) tf_3 rfl rfl hS171 rfl rfl rfl (by simp) ?_
  refine WH.takex (i := 5) rfl (by kernel_rfl) (by kernel_rfl) (by kernel_rfl) hP hSW172 ?_
  refine pr_field (o := 3) (off' := 3) ff_53_3 rfl rfl rfl ?_
  refine WH.takex (i := 6) rfl (by kernel_rfl) (by kernel_rfl) (by kernel_rfl) hP hSW172 ?_
  refine pr_load_blk (i := 1) (vs := [(.int .i64 x0.2.2.2)]) (v := (.int .i64 x0.2.2.2)) tf_3 rfl rfl hS171 rfl rfl rfl (by simp) ?_
  refine WH.many (is := [2, 8]) (by kernel_rfl) rfl ?_
  refine List.forall_mem_cons.2 ⟨⟨_, rfl, ?_⟩, List.forall_mem_cons.2 ⟨⟨_, rfl, ?_⟩, fun _ h => by cases h⟩⟩
  ·
    obtain ⟨u173, hu173, hF⟩ := bindE hF
    refine wl_call rfl Try.call216 (C_spec_l1Own w168 x0.2.1 v0_1 (h0_1.ro hB170) _ hu173) rfl ?_
    rintro _ w176 ⟨v174, F175, rfl, hb177, hM180⟩
    refine ⟨_, rfl, ?_⟩
    have hB178 := hB170.trans (hb177.mono hB170.size)
    have hn181 : ∀ b ∈ F175, w168.heap.size ≤ b := fun b hb => Nat.le_trans hSW172.size ((hM180.get (i := 0) rfl).2.1 b hb).1
    have hS179 := hS171.join hb177 hM180 hB170.size
    have hSW182 := hSW172.ext hb177
    refine WL.nil (WH.ret hSW182 ?_)
    refine WH.takex (i := 7) rfl (by kernel_rfl) (by kernel_rfl) (by kernel_rfl) hP hSW182 ?_
    refine pr_build (zs := [(.slice none 0 0), (.slice none 0 0), (.int .i64 0), (.int .i64 0)]) (out := [(.slice none 0 0), v174, (.int .i64 x0.2.2.1), (.int .i64 x0.2.2.2)]) (vs := [v174, (.int .i64 x0.2.2.1), (.int .i64 x0.2.2.2)]) (css := [[v174], [(.int .i64 x0.2.2.1)], [(.int .i64 x0.2.2.2)]]) tf_53 pl_53 rfl rfl (by simp only [List.map_cons, List.map_nil, cells_one ((hS179.own_ro (i := 0) rfl).one)] <;> rfl) rfl rfl ?_
    refine WH.one (i := 8) (by kernel_rfl) rfl ?_
    refine wl_alloc (cs := [(.slice none 0 0), (.slice none 0 0), (.int .i64 0), (.int .i64 0)]) tf_53 rfl rfl (Below.self w176) (Sep.nil _ _) ?_
    intro b183 w184 hb185 hB188 hM189
    have hB186 := hB178.trans (hb185.mono hB178.size)
    have hS187 := hS179.join hb185 hM189 hB178.size
    have hn190 : ∀ b ∈ [b183], w168.heap.size ≤ b := fun b hb => Nat.le_trans hSW182.size ((hM189.1 _ (List.mem_cons_self ..)).2.1 b hb).1
    have hSW191 := hSW182.ext hb185
    refine WL.nil (WH.ret hSW191 ?_)
    refine WH.one (i := 9) (by kernel_rfl) rfl ?_
    refine wl_store_blk (i := 0) (vs := [(.slice none 0 0), v174, (.int .i64 x0.2.2.1), (.int .i64 x0.2.2.2)]) (cs' := [(.slice none 0 0), v174, (.int .i64 x0.2.2.1), (.int .i64 x0.2.2.2)]) tf_53 rfl rfl rfl rfl hB186 hS187 rfl rfl ⟨rfl, (hS187.own_ro (i := 1) rfl).one, rfl, rfl, trivial⟩ rfl ?_
    intro w192 hk195 hB193 hS194
    have hSW196 := hSW191.wr' hk195.1 hk195.2.1 (fun b hlt hb => absurd hlt (Nat.not_lt.2 (hn190 b hb)))
    have hn197 : ∀ b ∈ [b183], w168.heap.size ≤ b := fun b hb => (hk195.2.2 b hb).elim (hn190 b) fun h => Nat.le_trans hSW191.size h
    refine WL.nil (WH.ret hSW196 ?_)
    refine WH.done (by kernel_rfl) ?_
    exact fun a ha => hJ23 (u173) (x0.2.2.1) (x0.2.2.2) (v174) (F175) (b183) _ hF hB193 (hS194.sel [3, 2, 1, 0] rfl) a (ha.sub ⟨rfl, rfl, rfl, trivial⟩)
  ·
    refine wl_alloc (cs := [(.slice none 0 0), (.slice none 0 0), (.int .i64 0), (.int .i64 0)]) tf_53 rfl rfl (Below.self w168) (Sep.nil _ _) ?_
    intro b198 w199 hb200 hB203 hM204
    have hB201 := hB170.trans (hb200.mono hB170.size)
    have hS202 := hS171.join hb200 hM204 hB170.size
    have hn205 : ∀ b ∈ [b198], w168.heap.size ≤ b := fun b hb => Nat.le_trans hSW172.size ((hM204.1 _ (List.mem_cons_self ..)).2.1 b hb).1
    have hSW206 := hSW172.ext hb200
    refine WL.nil (WH.ret hSW206 ?_)
    refine WH.one (i := 2) (by kernel_rfl) rfl ?_
    obtain ⟨u207, hu207, hF⟩ := bindE hF
    refine wl_call rfl Try.call216 (C_spec_l1Own w199 x0.2.1 v0_1 (h0_1.ro hB201) _ hu207) rfl ?_
    rintro _ w210 ⟨v208, F209, rfl, hb211, hM214⟩
    refine ⟨_, rfl, ?_⟩
    have hB212 := hB201.trans (hb211.mono hB201.size)
    have hn215 : ∀ b ∈ F209, w168.heap.size ≤ b := fun b hb => Nat.le_trans hSW206.size ((hM214.get (i := 0) rfl).2.1 b hb).1
    have hS213 := hS202.join hb211 hM214 hB201.size
    have hSW216 := hSW206.ext hb211
    refine WL.nil (WH.ret hSW216 ?_)
    refine WH.takex (i := 7) rfl (by kernel_rfl) (by kernel_rfl) (by kernel_rfl) hP hSW216 ?_
    refine pr_build (zs := [(.slice none 0 0), (.slice none 0 0), (.int .i64 0), (.int .i64 0)]) (out := [(.slice none 0 0), v208, (.int .i64 x0.2.2.1), (.int .i64 x0.2.2.2)]) (vs := [v208, (.int .i64 x0.2.2.1), (.int .i64 x0.2.2.2)]) (css := [[v208], [(.int .i64 x0.2.2.1)], [(.int .i64 x0.2.2.2)]]) tf_53 pl_53 rfl rfl (by simp only [List.map_cons, List.map_nil, cells_one ((hS213.own_ro (i := 0) rfl).one)] <;> rfl) rfl rfl ?_
    refine WH.one (i := 9) (by kernel_rfl) rfl ?_
    refine wl_store_blk (i := 1) (vs := [(.slice none 0 0), v208, (.int .i64 x0.2.2.1), (.int .i64 x0.2.2.2)]) (cs' := [(.slice none 0 0), v208, (.int .i64 x0.2.2.1), (.int .i64 x0.2.2.2)]) tf_53 rfl rfl rfl rfl hB212 hS213 rfl rfl ⟨rfl, (hS213.own_ro (i := 0) rfl).one, rfl, rfl, trivial⟩ rfl ?_
    intro w217 hk220 hB218 hS219
    have hSW221 := hSW216.wr' hk220.1 hk220.2.1 (fun b hlt hb => absurd hlt (Nat.not_lt.2 (hn205 b hb)))
    have hn222 : ∀ b ∈ [b198], w168.heap.size ≤ b := fun b hb => (hk220.2.2 b hb).elim (hn205 b) fun h => Nat.le_trans hSW216.size h
    refine WL.nil (WH.ret hSW221 ?_)
    refine WH.done (by kernel_rfl) ?_
    exact fun a ha => hJ23 (u207) (x0.2.2.1) (x0.2.2.2) (v208) (F209) (b198) _ hF hB218 (hS219.sel [3, 2, 0, 1] rfl) a (ha.sub ⟨rfl, rfl, rfl, trivial⟩)
theorem C_spec_swIf__take (w0 : World) (x0 : ((List (List (Int × Int))) × (List Int) × Int × Int)) (v0_0 : Value) (B0_0 : List Nat) (v0_1 : Value) (B0_1 : List Nat) (hS0 : Sep 0 w0 [R.own ty_63 B0_0 v0_0 x0.1, R.own ty_3 B0_1 v0_1 x0.2.1]) (r : (((List (List (Int × Int))) × (List Int) × Int × Int) × Bool)) (hF : F_spec_swIf__take x0 = some r) :
    Calls Try.prog 172 [(.agg #[v0_0, v0_1, (.int .i64 x0.2.2.1), (.int .i64 x0.2.2.2)])].toArray w0 fun e w' => ∃ (q0 : Value) (G0 : List Nat) (q1 : Value) (G1 : List Nat), e = .returned (.tuple #[(.agg #[q0, q1, (.int .i64 r.1.2.2.1), (.int .i64 r.1.2.2.2)]), (.bool r.2)]) ∧ Below 0 (wE w0) w' ∧ Sep 0 w' [R.rest w0 (fps [R.own ty_63 B0_0 v0_0 x0.1, R.own ty_3 B0_1 v0_1 x0.2.1]), R.own ty_63 G0 q0 r.1.1, R.own ty_3 G1 q1 r.1.2.1] := by
  refine calls_mk' Try.func172 rfl Try.ntmps172 rfl rfl fun Q hQ hP => ?_
  have hB : Below (wE w0).heap.size (wE w0) w0 := wE_below w0
  have hS : Sep (wE w0).heap.size w0 [R.rest w0 (fps [R.own ty_63 B0_0 v0_0 x0.1, R.own ty_3 B0_1 v0_1 x0.2.1]), R.own ty_63 B0_0 v0_0 x0.1, R.own ty_3 B0_1 v0_1 x0.2.1] := hS0.rest
  unfold F_spec_swIf__take at hF
  refine W.seq fun K1 hK1 => ?_
  refine W.region ?_
  refine wl_box (cs := [v0_0, v0_1, (.int .i64 x0.2.2.1), (.int .i64 x0.2.2.2)]) rfl rfl rfl hB hS ?_
  intro b2 w3 hb4 hB5 hS6
  refine wl_alloc (cs := [(.slice none 0 0), (.slice none 0 0), (.int .i64 0), (.int .i64 0)]) tf_53 rfl rfl hB5 hS6 ?_
  intro b7 w8 hb9 hB10 hS11
  refine wl_assign rfl rfl ?_
  refine WL.nil ?_
  refine fun a ha => hK1 _ _ ?_ a ha
  refine W.seq fun K12 hK12 => ?_
  refine W.seq fun K13 hK13 => ?_
  refine W.region ?_
  refine wl_load_blk (i := 1) (vs := [v0_0, v0_1, (.int .i64 x0.2.2.1), (.int .i64 x0.2.2.2)]) (v := (.agg #[v0_0, v0_1, (.int .i64 x0.2.2.1), (.int .i64 x0.2.2.2)])) tf_53 rfl rfl hS11 rfl rfl rfl ?_
  obtain ⟨u14, hu14, hF⟩ := bindE hF
  refine wl_call rfl Try.call145 (C_spec_swGood w8 x0 v0_0 (hS11.own_ro (i := 3) rfl) v0_1 (hS11.own_ro (i := 4) rfl) _ hu14) rfl ?_
  rintro _ w15 ⟨rfl, hb16⟩
  refine ⟨_, rfl, ?_⟩
  have hB17 := hB10.trans (hb16.mono hB10.size)
  have hS18 := hS11.below hb16
  refine wl_not rfl rfl ?_
  refine WL.nil ?_
  refine fun a ha => hK13 _ _ ?_ a ha
  refine W.cond rfl (fun h20 => ?_) (fun h20 => ?_)
  · replace hF := ifP h20 hF
    refine W.seq fun K21 hK21 => ?_
    refine W.region ?_
    refine wl_build (zs := [(.slice none 0 0), (.slice none 0 0), (.int .i64 0), (.int .i64 0)]) (out := [(.slice none 0 0), (.slice none 0 0), (.int .i64 0), (.int .i64 0)]) (vs := []) (css := []) tf_53 pl_53 rfl rfl rfl rfl rfl ?_
    refine wl_store_blk (i := 0) (vs := [(.slice none 0 0), (.slice none 0 0), (.int .i64 0), (.int .i64 0)]) (cs' := [(.slice none 0 0), (.slice none 0 0), (.int .i64 0), (.int .i64 0)]) tf_53 rfl rfl rfl rfl hB17 hS18 rfl rfl ⟨rfl, rfl, rfl, rfl, trivial⟩ rfl ?_
    intro w22 hk25 hB23 hS24
    refine wl_assign rfl rfl ?_
    refine WL.nil ?_
    refine fun a ha => hK21 _ _ ?_ a ha
    refine W.ret ?_
    have hS26 := hS24.push0 (r := R.own ty_63 [] (.slice none 0 0) []) rfl fun _ => .inl ⟨rfl, rfl, rfl⟩
    have hS27 := hS26.push0 (r := R.own ty_3 [] (.slice none 0 0) []) rfl fun _ => .inl ⟨rfl, rfl, rfl⟩
    have hr := Option.some.inj hF
    subst hr
    exact rets (vs := [(.agg #[(.slice none 0 0), (.slice none 0 0), (.int .i64 0), (.int .i64 0)]), (.bool false)]) hQ rfl ⟨rv_cell (i := 0) tf_53 rfl hS24 rfl rfl rfl, rv_tmp rfl, trivial⟩ ⟨(.slice none 0 0), [], (.slice none 0 0), [], rfl, hB23, hS27.sel [4, 1, 0] rfl⟩
  · replace hF := ifN h20 hF
    refine W.skip ?_
    refine fun a ha => hK12 _ _ ?_ a ha
    refine W.seq fun K28 hK28 => ?_
    refine W.region ?_
    refine wl_load_blk (i := 1) (vs := [v0_0, v0_1, (.int .i64 x0.2.2.1), (.int .i64 x0.2.2.2)]) (v := (.agg #[v0_0, v0_1, (.int .i64 x0.2.2.1), (.int .i64 x0.2.2.2)])) tf_53 rfl rfl hS18 rfl rfl rfl ?_
    refine wl_store_blk (i := 0) (vs := [v0_0, v0_1, (.int .i64 x0.2.2.1), (.int .i64 x0.2.2.2)]) (cs' := [v0_0, v0_1, (.int .i64 x0.2.2.1), (.int .i64 x0.2.2.2)]) tf_53 rfl rfl rfl rfl hB17 hS18 rfl rfl ⟨(hS18.own_ro (i := 3) rfl).one, (hS18.own_ro (i := 4) rfl).one, rfl, rfl, trivial⟩ rfl ?_
    intro w29 hk32 hB30 hS31
    refine wl_assign rfl rfl ?_
    refine WL.nil ?_
    refine fun a ha => hK28 _ _ ?_ a ha
    refine W.ret ?_
    have hr := Option.some.inj hF
    subst hr
    exact rets (vs := [(.agg #[v0_0, v0_1, (.int .i64 x0.2.2.1), (.int .i64 x0.2.2.2)]), (.bool true)]) hQ rfl ⟨rv_cell (i := 0) tf_53 rfl hS31 rfl rfl rfl, rv_tmp rfl, trivial⟩ ⟨v0_0, B0_0, v0_1, B0_1, rfl, hB30, hS31.sel [2, 3, 4] rfl⟩
end Go.Proofs.Ytmkignciedkidaa
