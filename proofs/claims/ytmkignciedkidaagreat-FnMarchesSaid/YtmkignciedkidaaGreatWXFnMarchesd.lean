/-
  THE WALKS of functions of this seat, by program (gen.py, prune.py).
-/
import Derived.Test.YtmkignciedkidaaGreatWXFnMarchesc
set_option linter.unusedSimpArgs false
set_option linter.unusedVariables false
set_option maxRecDepth 100000
set_option maxHeartbeats 1600000
namespace Go.Proofs.YtmkignciedkidaaGreat
open Go Go.RowKit
theorem C_impl_RunBeats (w0 : World) (x0 : (((List (List (Int × Int))) × (List Int) × Int × Int) × Int × (List Int) × (List Int))) (v0_0 : Value) (h0_0 : rdS ty_66 (· < w0.heap.size) w0 v0_0 x0.1.1) (v0_1 : Value) (h0_1 : rdS ty_3 (· < w0.heap.size) w0 v0_1 x0.1.2.1) (v0_2 : Value) (h0_2 : rdS ty_3 (· < w0.heap.size) w0 v0_2 x0.2.2.1) (v0_3 : Value) (h0_3 : rdS ty_3 (· < w0.heap.size) w0 v0_3 x0.2.2.2) (x1 : (List (Int × Int))) (v1_0 : Value) (h1_0 : rdS ty_59 (· < w0.heap.size) w0 v1_0 x1) (r : ((((List (List (Int × Int))) × (List Int) × Int × Int) × Int × (List Int) × (List Int)) × Int × Bool)) (hF : F_impl_RunBeats x0 x1 = some r) :
  Calls Tryz.prog 6 [(.agg #[v0_0, v0_1, (.int .i64 x0.1.2.2.1), (.int .i64 x0.1.2.2.2), (.int .i64 x0.2.1), v0_2, v0_3]), v1_0].toArray w0 fun e w' => ∃ (q0 : Value) (G0 : List Nat) (q1 : Value) (G1 : List Nat) (q2 : Value) (G2 : List Nat) (q3 : Value) (G3 : List Nat), e = .returned (.tuple #[(.agg #[q0, q1, (.int .i64 r.1.1.2.2.1), (.int .i64 r.1.1.2.2.2), (.int .i64 r.1.2.1), q2, q3]), (.int .i64 r.2.1), (.bool r.2.2)]) ∧ Below w0.heap.size w0 w' ∧ Sep w0.heap.size w' [R.own ty_66 G0 q0 r.1.1.1, R.own ty_3 G1 q1 r.1.1.2.1, R.own ty_3 G2 q2 r.1.2.2.1, R.own ty_3 G3 q3 r.1.2.2.2] := by
 refine calls_mk' Tryz.func6 rfl Tryz.ntmps6 rfl rfl fun Q hQ hP => ?_
 have hB : Below w0.heap.size w0 w0 := Below.refl _ _
 have hS : Sep w0.heap.size w0 [] := Sep.nil _ _
 unfold F_impl_RunBeats at hF
 refine W.seq fun K1 hK1 => W.region (wl_box (cs := [v0_0, v0_1, (.int .i64 x0.1.2.2.1), (.int .i64 x0.1.2.2.2), (.int .i64 x0.2.1), v0_2, v0_3]) rfl rfl rfl hB hS ?_)
 intro b2 w3 hb4 hB5 hS6
 refine wl_alloc (cs := [(.slice none 0 0), (.slice none 0 0), (.int .i64 0), (.int .i64 0), (.int .i64 0), (.slice none 0 0), (.slice none 0 0)]) tf_29 rfl rfl hB5 hS6 ?_
 intro b7 w8 hb9 hB10 hS11
 refine wl_assign rfl rfl (wl_assign rfl rfl (WL.nil (fun a ha => hK1 _ _ (W.seq fun K12 hK12 => (W.seq fun K13 hK13 => ?_)) a ha)))
 obtain ⟨k18, hk18, hF⟩ := jE1 hF
 have hJ19 : ∀ (y17 : Bool) (w14 : World) (_ : k18 y17 = some r) (_ : Below w0.heap.size w0 w14) (_ : Sep w0.heap.size w14 [R.blk b2 29 [v0_0, v0_1, (.int .i64 x0.1.2.2.1), (.int .i64 x0.1.2.2.2), (.int .i64 x0.2.1), v0_2, v0_3], R.blk b7 29 [(.slice none 0 0), (.slice none 0 0), (.int .i64 0), (.int .i64 0), (.int .i64 0), (.slice none 0 0), (.slice none 0 0)]]), ∀ a, St 45 [(1, v1_0), (2, (.pointer (some ⟨b2, 0, none⟩))), (4, (.pointer (some ⟨b7, 0, none⟩))), (19, (.bool y17))] a → K13 a w14 := by
  intro y17 w14 hF hB15 hS16
  subst hk18
  refine fun a ha => hK13 _ _ (W.cond rfl (fun h20 => ?_) (fun h20 => ?_)) a ha
  ·replace hF := ifP h20 hF
   refine W.seq fun K21 hK21 => W.region (wl_build (zs := [(.slice none 0 0), (.slice none 0 0), (.int .i64 0), (.int .i64 0), (.int .i64 0), (.slice none 0 0), (.slice none 0 0)]) (out := [(.slice none 0 0), (.slice none 0 0), (.int .i64 0), (.int .i64 0), (.int .i64 0), (.slice none 0 0), (.slice none 0 0)]) (vs := []) (css := []) tf_29 pl_29 rfl rfl rfl rfl rfl (wl_store_blk (i := 1) (vs := [(.slice none 0 0), (.slice none 0 0), (.int .i64 0), (.int .i64 0), (.int .i64 0), (.slice none 0 0), (.slice none 0 0)]) (cs' := [(.slice none 0 0), (.slice none 0 0), (.int .i64 0), (.int .i64 0), (.int .i64 0), (.slice none 0 0), (.slice none 0 0)]) tf_29 rfl rfl rfl rfl hB15 hS16 rfl rfl ⟨rfl, rfl, rfl, rfl, rfl, rfl, rfl, trivial⟩ rfl ?_))
   intro w22 hk25 hB23 hS24
   refine wl_assign rfl rfl (wl_assign rfl rfl (WL.nil (fun a ha => hK21 _ _ (W.ret ?_) a ha)))
   have hS26 := hS24.push0 (r := R.own ty_66 [] (.slice none 0 0) []) rfl fun _ => .inl ⟨rfl, rfl, rfl⟩
   have hS27 := hS26.push0 (r := R.own ty_3 [] (.slice none 0 0) []) rfl fun _ => .inl ⟨rfl, rfl, rfl⟩
   have hS28 := hS27.push0 (r := R.own ty_3 [] (.slice none 0 0) []) rfl fun _ => .inl ⟨rfl, rfl, rfl⟩
   have hS29 := hS28.push0 (r := R.own ty_3 [] (.slice none 0 0) []) rfl fun _ => .inl ⟨rfl, rfl, rfl⟩
   have hr := Option.some.inj hF
   subst hr
   exact rets (vs := [(.agg #[(.slice none 0 0), (.slice none 0 0), (.int .i64 0), (.int .i64 0), (.int .i64 0), (.slice none 0 0), (.slice none 0 0)]), (.int .i64 0), (.bool false)]) hQ rfl ⟨rv_cell (i := 1) tf_29 rfl hS24 rfl rfl rfl, rv_tmp rfl, rv_tmp rfl, trivial⟩ ⟨(.slice none 0 0), [], (.slice none 0 0), [], (.slice none 0 0), [], (.slice none 0 0), [], rfl, hB23, hS29.sel [3, 2, 1, 0] rfl⟩
  ·replace hF := ifN h20 hF
   refine W.skip fun a ha => hK12 _ _ (W.seq fun K30 hK30 => (W.region (wl_load_blk (i := 0) (vs := [v0_0, v0_1, (.int .i64 x0.1.2.2.1), (.int .i64 x0.1.2.2.2), (.int .i64 x0.2.1), v0_2, v0_3]) (v := (.agg #[v0_0, v0_1, (.int .i64 x0.1.2.2.1), (.int .i64 x0.1.2.2.2), (.int .i64 x0.2.1), v0_2, v0_3])) tf_29 rfl rfl hS16 rfl rfl rfl ?_))) a ha
   obtain ⟨u31, hu31, hF⟩ := bindE hF
   refine wl_call rfl Tryz.call29 (C_impl_copyMarch w14 x0 v0_0 (h0_0.ro hB15) v0_1 (h0_1.ro hB15) v0_2 (h0_2.ro hB15) v0_3 (h0_3.ro hB15) _ hu31) rfl ?_
   rintro _ w40 ⟨v32, F33, v34, F35, v36, F37, v38, F39, rfl, hb41, hM44⟩
   refine ⟨_, rfl, ?_⟩
   have hB42 := hB15.trans (hb41.mono hB15.size)
   have hS43 := hS16.join hb41 hM44 hB15.size
   refine wl_alloc (cs := [(.slice none 0 0), (.slice none 0 0), (.int .i64 0), (.int .i64 0), (.int .i64 0), (.slice none 0 0), (.slice none 0 0)]) tf_29 rfl rfl hB42 hS43 ?_
   intro b45 w46 hb47 hB48 hS49
   refine wl_store_blk (i := 0) (vs := [v32, v34, (.int .i64 u31.1.2.2.1), (.int .i64 u31.1.2.2.2), (.int .i64 u31.2.1), v36, v38]) (cs' := [v32, v34, (.int .i64 u31.1.2.2.1), (.int .i64 u31.1.2.2.2), (.int .i64 u31.2.1), v36, v38]) tf_29 rfl rfl rfl rfl hB48 hS49 rfl rfl ⟨(hS49.own_ro (i := 1) rfl).one, (hS49.own_ro (i := 2) rfl).one, rfl, rfl, rfl, (hS49.own_ro (i := 3) rfl).one, (hS49.own_ro (i := 4) rfl).one, trivial⟩ rfl ?_
   intro w50 hk53 hB51 hS52
   refine WL.nil fun a ha => hK30 _ _ (W.seq fun K54 hK54 => (W.seq fun K55 hK55 => (W.region (wl_move rfl rfl (wl_lenr (e := ty_59) (l := x1) Tryz.underlying30 rfl rfl h1_0 (wl_move rfl rfl (WL.nil (fun a ha => hK55 _ _ (W.block ?_) a ha)))))))) a ha
   refine W.loopk (fun m a w56 => ∃ (l59 : (List (List (Int × Int)))) (l62 : (List Int)) (y65 : Int) (y66 : Int) (y67 : Int) (l68 : (List Int)) (l71 : (List Int)) (y74 : Int) (v60 : Value) (F61 : List Nat) (v63 : Value) (F64 : List Nat) (v69 : Value) (F70 : List Nat) (v72 : Value) (F73 : List Nat), St 45 [(1, v1_0), (4, (.pointer (some ⟨b7, 0, none⟩))), (7, (.pointer (some ⟨b45, 0, none⟩))), (23, v1_0), (24, (.int .i64 (List.length x1 : Int))), (25, (.int .i64 y74))] a ∧ Below w0.heap.size w0 w56 ∧ Sep w0.heap.size w56 [R.blk b7 29 [(.slice none 0 0), (.slice none 0 0), (.int .i64 0), (.int .i64 0), (.int .i64 0), (.slice none 0 0), (.slice none 0 0)], R.own ty_66 F61 v60 l59, R.own ty_3 F64 v63 l62, R.own ty_3 F70 v69 l68, R.own ty_3 F73 v72 l71, R.blk b45 29 [v60, v63, (.int .i64 y65), (.int .i64 y66), (.int .i64 y67), v69, v72]] ∧ F_impl_RunBeats_L1 x1 m l59 l62 y65 y66 y67 l68 l71 y74 = some r) FU ?_ ?_
   ·
    exact fun a ha => ⟨u31.1.1, u31.1.2.1, u31.1.2.2.1, u31.1.2.2.2, u31.2.1, u31.2.2.1, u31.2.2.2, 0, v32, F33, v34, F35, v36, F37, v38, F39, ha.sub ⟨rfl, rfl, rfl, rfl, rfl, rfl, trivial⟩, hB51, (hS52.sel [6, 1, 2, 3, 4, 0] rfl), hF⟩
   ·
    rintro m77 a w56 ⟨l59, l62, y65, y66, y67, l68, l71, y74, v60, F61, v63, F64, v69, F70, v72, F73, ha, hB57, hS58, hF⟩ KL76 hKL76
    refine W.at ?_ ha
    cases m77 with
    | zero => exact noneE hF
    | succ m77 =>
     obtain ⟨nx75, hnx75⟩ : ∃ k, k = F_impl_RunBeats_L1 x1 m77 := ⟨_, rfl⟩
     rw [F_impl_RunBeats_L1, ← hnx75] at hF
     refine W.seq fun K78 hK78 => W.region (wl_lss rfl rfl rfl (WL.nil (fun a ha => hK78 _ _ (W.seq fun K79 hK79 => (W.cond rfl (fun h80 => ?_) (fun h80 => ?_))) a ha)))
     ·replace hF := ifP h80 hF
      refine W.skip fun a ha => hK79 _ _ (W.seq fun K81 hK81 => (W.block (W.seq fun K82 hK82 => (W.region (wl_move rfl rfl ?_))))) a ha
      obtain ⟨u83, hu83, hF⟩ := bindE hF
      refine wl_index (e := ty_59) Tryz.underlying30 rfl rfl rfl h1_0 hu83 ?_
      rintro p84 _ rfl hp85
      refine wl_load_p (vs := [(.int .i64 u83.1), (.int .i64 u83.2)]) (v := (.agg #[(.int .i64 u83.1), (.int .i64 u83.2)])) tf_59 rfl rfl (hp85.ro hB57) rfl rfl (wl_alloc (cs := [(.int .i64 0), (.int .i64 0)]) tf_59 rfl rfl hB57 hS58 ?_)
      intro b86 w87 hb88 hB89 hS90
      refine wl_assign rfl rfl (wl_store_blk (i := 0) (vs := [(.int .i64 u83.1), (.int .i64 u83.2)]) (cs' := [(.int .i64 u83.1), (.int .i64 u83.2)]) tf_59 rfl rfl rfl rfl hB89 hS90 rfl rfl ⟨rfl, rfl, trivial⟩ rfl ?_)
      intro w91 hk94 hB92 hS93
      refine WL.nil fun a ha => hK82 _ _ (W.seq fun K95 hK95 => (W.region (wl_load_blk (i := 6) (vs := [v60, v63, (.int .i64 y65), (.int .i64 y66), (.int .i64 y67), v69, v72]) (v := (.agg #[v60, v63, (.int .i64 y65), (.int .i64 y66), (.int .i64 y67), v69, v72])) tf_29 rfl rfl hS93 rfl rfl rfl (wl_load_blk (i := 0) (vs := [(.int .i64 u83.1), (.int .i64 u83.2)]) (v := (.agg #[(.int .i64 u83.1), (.int .i64 u83.2)])) tf_59 rfl rfl hS93 rfl rfl rfl ?_)))) a ha
      obtain ⟨u96, hu96, hF⟩ := bindE hF
      refine wl_call rfl Tryz.call30 (C_impl_doBeat w91 ((l59, l62, y65, y66), y67, l68, l71) v60 (hS93.own_ro (i := 2) rfl) v63 (hS93.own_ro (i := 3) rfl) v69 (hS93.own_ro (i := 4) rfl) v72 (hS93.own_ro (i := 5) rfl) u83 _ hu96) rfl ?_
      rintro _ w105 ⟨v97, F98, v99, F100, v101, F102, v103, F104, rfl, hb106, hM109⟩
      refine ⟨_, rfl, ?_⟩
      have hB107 := hB92.trans (hb106.mono hB92.size)
      have hS108 := hS93.join hb106 hM109 hB92.size
      refine wl_move rfl rfl (wl_extract rfl rfl rfl (wl_extract rfl rfl rfl (wl_alloc (cs := [(.slice none 0 0), (.slice none 0 0), (.int .i64 0), (.int .i64 0), (.int .i64 0), (.slice none 0 0), (.slice none 0 0)]) tf_29 rfl rfl hB107 hS108 ?_)))
      intro b110 w111 hb112 hB113 hS114
      refine wl_store_blk (i := 0) (vs := [v97, v99, (.int .i64 u96.1.1.2.2.1), (.int .i64 u96.1.1.2.2.2), (.int .i64 u96.1.2.1), v101, v103]) (cs' := [v97, v99, (.int .i64 u96.1.1.2.2.1), (.int .i64 u96.1.1.2.2.2), (.int .i64 u96.1.2.1), v101, v103]) tf_29 rfl rfl rfl rfl hB113 hS114 rfl rfl ⟨(hS114.own_ro (i := 1) rfl).one, (hS114.own_ro (i := 2) rfl).one, rfl, rfl, rfl, (hS114.own_ro (i := 3) rfl).one, (hS114.own_ro (i := 4) rfl).one, trivial⟩ rfl ?_
      intro w115 hk118 hB116 hS117
      refine wl_assign rfl rfl (WL.nil (fun a ha => hK95 _ _ (W.seq fun K119 hK119 => (W.seq fun K120 hK120 => (W.region (wl_move rfl rfl (wl_not rfl rfl (WL.nil (fun a ha => hK120 _ _ (W.cond rfl (fun h121 => ?_) (fun h121 => ?_)) a ha))))))) a ha))
      ·replace hF := ifP h121 hF
       refine W.seq fun K122 hK122 => W.region (wl_load_blk (i := 11) (vs := [v60, v63, (.int .i64 y65), (.int .i64 y66), (.int .i64 y67), v69, v72]) (v := (.agg #[v60, v63, (.int .i64 y65), (.int .i64 y66), (.int .i64 y67), v69, v72])) tf_29 rfl rfl hS117 rfl rfl rfl (wl_move rfl rfl (wl_store_blk (i := 6) (vs := [v60, v63, (.int .i64 y65), (.int .i64 y66), (.int .i64 y67), v69, v72]) (cs' := [v60, v63, (.int .i64 y65), (.int .i64 y66), (.int .i64 y67), v69, v72]) tf_29 rfl rfl rfl rfl hB116 hS117 rfl rfl ⟨(hS117.own_ro (i := 7) rfl).one, (hS117.own_ro (i := 8) rfl).one, rfl, rfl, rfl, (hS117.own_ro (i := 9) rfl).one, (hS117.own_ro (i := 10) rfl).one, trivial⟩ rfl ?_)))
       intro w123 hk126 hB124 hS125
       refine wl_assign rfl rfl (wl_assign rfl rfl (WL.nil (fun a ha => hK122 _ _ (W.ret ?_) a ha)))
       have hr := Option.some.inj hF
       subst hr
       exact rets (vs := [(.agg #[v60, v63, (.int .i64 y65), (.int .i64 y66), (.int .i64 y67), v69, v72]), (.int .i64 y74), (.bool true)]) hQ rfl ⟨rv_cell (i := 6) tf_29 rfl hS125 rfl rfl rfl, rv_tmp rfl, rv_tmp rfl, trivial⟩ ⟨v60, F61, v63, F64, v69, F70, v72, F73, rfl, hB124, hS125.sel [7, 8, 9, 10] rfl⟩
      ·replace hF := ifN h121 hF
       refine W.skip fun a ha => hK119 _ _ (W.region (wl_load_blk (i := 0) (vs := [v97, v99, (.int .i64 u96.1.1.2.2.1), (.int .i64 u96.1.1.2.2.2), (.int .i64 u96.1.2.1), v101, v103]) (v := (.agg #[v97, v99, (.int .i64 u96.1.1.2.2.1), (.int .i64 u96.1.1.2.2.2), (.int .i64 u96.1.2.1), v101, v103])) tf_29 rfl rfl hS117 rfl rfl rfl (wl_store_blk (i := 11) (vs := [v97, v99, (.int .i64 u96.1.1.2.2.1), (.int .i64 u96.1.1.2.2.2), (.int .i64 u96.1.2.1), v101, v103]) (cs' := [v97, v99, (.int .i64 u96.1.1.2.2.1), (.int .i64 u96.1.1.2.2.2), (.int .i64 u96.1.2.1), v101, v103]) tf_29 rfl rfl rfl rfl hB116 hS117 rfl rfl ⟨(hS117.own_ro (i := 1) rfl).one, (hS117.own_ro (i := 2) rfl).one, rfl, rfl, rfl, (hS117.own_ro (i := 3) rfl).one, (hS117.own_ro (i := 4) rfl).one, trivial⟩ rfl ?_))) a ha
       intro w127 hk130 hB128 hS129
       refine WL.nil fun a ha => hK81 _ _ (W.region (wl_add rfl rfl rfl (wl_move rfl rfl (WL.nil ?_)))) a ha
       rw [hnx75] at hF
       exact fun a ha => hKL76 a _ m77 (Nat.lt_succ_self m77) ⟨u96.1.1.1, u96.1.1.2.1, u96.1.1.2.2.1, u96.1.1.2.2.2, u96.1.2.1, u96.1.2.2.1, u96.1.2.2.2, (w64 (y74 + 1)), v97, F98, v99, F100, v101, F102, v103, F104, ha.sub ⟨rfl, rfl, rfl, rfl, rfl, rfl, trivial⟩, hB128, (hS129.sel [6, 1, 2, 3, 4, 11] rfl), hF⟩
     ·replace hF := ifN h80 hF
      refine W.exit fun a ha => hK54 _ _ (W.seq fun K131 hK131 => (W.region (wl_load_blk (i := 5) (vs := [v60, v63, (.int .i64 y65), (.int .i64 y66), (.int .i64 y67), v69, v72]) (v := (.agg #[v60, v63, (.int .i64 y65), (.int .i64 y66), (.int .i64 y67), v69, v72])) tf_29 rfl rfl hS58 rfl rfl rfl (wl_move rfl rfl (wl_lenr (e := ty_59) (l := x1) Tryz.underlying30 rfl rfl h1_0 (wl_store_blk (i := 0) (vs := [v60, v63, (.int .i64 y65), (.int .i64 y66), (.int .i64 y67), v69, v72]) (cs' := [v60, v63, (.int .i64 y65), (.int .i64 y66), (.int .i64 y67), v69, v72]) tf_29 rfl rfl rfl rfl hB57 hS58 rfl rfl ⟨(hS58.own_ro (i := 1) rfl).one, (hS58.own_ro (i := 2) rfl).one, rfl, rfl, rfl, (hS58.own_ro (i := 3) rfl).one, (hS58.own_ro (i := 4) rfl).one, trivial⟩ rfl ?_)))))) a ha
      intro w132 hk135 hB133 hS134
      refine wl_assign rfl rfl (wl_assign rfl rfl (WL.nil (fun a ha => hK131 _ _ (W.ret ?_) a ha)))
      have hr := Option.some.inj hF
      subst hr
      exact rets (vs := [(.agg #[v60, v63, (.int .i64 y65), (.int .i64 y66), (.int .i64 y67), v69, v72]), (.int .i64 (List.length x1 : Int)), (.bool true)]) hQ rfl ⟨rv_cell (i := 0) tf_29 rfl hS134 rfl rfl rfl, rv_tmp rfl, rv_tmp rfl, trivial⟩ ⟨v60, F61, v63, F64, v69, F70, v72, F73, rfl, hB133, hS134.sel [1, 2, 3, 4] rfl⟩
 refine W.region (wl_load_blk (i := 1) (vs := [v0_0, v0_1, (.int .i64 x0.1.2.2.1), (.int .i64 x0.1.2.2.2), (.int .i64 x0.2.1), v0_2, v0_3]) (v := (.agg #[v0_0, v0_1, (.int .i64 x0.1.2.2.1), (.int .i64 x0.1.2.2.2), (.int .i64 x0.2.1), v0_2, v0_3])) tf_29 rfl rfl hS11 rfl rfl rfl ?_)
 obtain ⟨u136, hu136, hF⟩ := bindE hF
 refine wl_call rfl Tryz.call9 (C_impl_IsMarch w8 x0 v0_0 (h0_0.ro hB10) v0_1 (h0_1.ro hB10) v0_2 (h0_2.ro hB10) v0_3 (h0_3.ro hB10) _ hu136) rfl ?_
 rintro _ w137 ⟨rfl, hb138⟩
 refine ⟨_, rfl, ?_⟩
 have hB139 := hB10.trans (hb138.mono hB10.size)
 have hS140 := hS11.below hb138
 refine wl_not rfl rfl (wl_move rfl rfl ?_)
 rcases bE (!u136) with h142 | h142
 ·replace hF := ifP h142 hF
  refine wl_off rfl rfl rfl h142 (wl_off rfl rfl rfl h142 (wl_off rfl rfl rfl h142 (wl_pick_t rfl rfl h142 rfl (WL.nil ?_))))
  exact fun a ha => hJ19 (true) _ hF hB139 (hS140.sel [1, 0] rfl) a (ha.sub ⟨rfl, rfl, rfl, rfl, trivial⟩)
 ·replace hF := ifN h142 hF
  refine wl_on rfl rfl h142 (wl_move rfl rfl (wl_on rfl rfl h142 (wl_lenr (e := ty_59) (l := x1) Tryz.underlying30 rfl rfl h1_0 (wl_on rfl rfl h142 (wl_gtr rfl rfl rfl (wl_pick_f rfl rfl h142 rfl (WL.nil ?_)))))))
  exact fun a ha => hJ19 ((decide (100 < (List.length x1 : Int)))) _ hF hB139 (hS140.sel [1, 0] rfl) a (ha.sub ⟨rfl, rfl, rfl, rfl, trivial⟩)
theorem C_spec_l1Rising (w0 : World) (x0 : (List Int)) (v0_0 : Value) (h0_0 : rdS ty_3 (· < w0.heap.size) w0 v0_0 x0) (x1 : Int) (x2 : Int) (r : Bool) (hF : F_spec_l1Rising x0 x1 x2 = some r) :
  Calls Tryz.prog 58 [v0_0, (.int .i64 x1), (.int .i64 x2)].toArray w0 fun e w' => e = .returned (.bool r) ∧ Below w0.heap.size w0 w' := by
 refine calls_mk' Tryz.func58 rfl Tryz.ntmps58 rfl rfl fun Q hQ hP => ?_
 have hB : Below w0.heap.size w0 w0 := Below.refl _ _
 have hS : Sep w0.heap.size w0 [] := Sep.nil _ _
 unfold F_spec_l1Rising at hF
 refine W.seq fun K1 hK1 => W.region (wl_assign rfl rfl (WL.nil (fun a ha => hK1 _ _ (W.seq fun K2 hK2 => (W.seq fun K3 hK3 => (W.region (wl_move rfl rfl (wl_lenr (e := ty_3) (l := x0) Tryz.underlying25 rfl rfl h0_0 (wl_move rfl rfl (WL.nil (fun a ha => hK3 _ _ (W.block ?_) a ha)))))))) a ha)))
 refine W.loopk (fun m a w4 => ∃ (y7 : Int), St 35 [(0, v0_0), (1, (.int .i64 x1)), (2, (.int .i64 x2)), (9, v0_0), (10, (.int .i64 (List.length x0 : Int))), (11, (.int .i64 y7))] a ∧ Below w0.heap.size w0 w4 ∧ Sep w0.heap.size w4 [] ∧ F_spec_l1Rising_L1 x0 x1 x2 m y7 = some r) FU ?_ ?_
 ·
  exact fun a ha => ⟨0, ha.sub ⟨rfl, rfl, rfl, rfl, rfl, rfl, trivial⟩, hB, (hS.sel [] rfl), hF⟩
 ·
  rintro m10 a w4 ⟨y7, ha, hB5, hS6, hF⟩ KL9 hKL9
  refine W.at ?_ ha
  cases m10 with
  | zero => exact noneE hF
  | succ m10 =>
   obtain ⟨nx8, hnx8⟩ : ∃ k, k = F_spec_l1Rising_L1 x0 x1 x2 m10 := ⟨_, rfl⟩
   rw [F_spec_l1Rising_L1, ← hnx8] at hF
   refine W.seq fun K11 hK11 => W.region (wl_lss rfl rfl rfl (WL.nil (fun a ha => hK11 _ _ (W.seq fun K12 hK12 => (W.cond rfl (fun h13 => ?_) (fun h13 => ?_))) a ha)))
   ·replace hF := ifP h13 hF
    refine W.skip fun a ha => hK12 _ _ (W.seq fun K14 hK14 => (W.block (W.seq fun K15 hK15 => (W.region (wl_move rfl rfl ?_))))) a ha
    obtain ⟨u16, hu16, hF⟩ := bindE hF
    refine wl_index (e := ty_3) Tryz.underlying25 rfl rfl rfl h0_0 hu16 ?_
    rintro p17 _ rfl hp18
    refine wl_load_p (vs := [(.int .i64 u16)]) (v := (.int .i64 u16)) tf_3 rfl rfl (hp18.ro hB5) rfl rfl (wl_assign rfl rfl (wl_assign rfl rfl (WL.nil (fun a ha => hK15 _ _ (W.seq fun K19 hK19 => ?_) a ha))))
    obtain ⟨k24, hk24, hF⟩ := jE1 hF
    have hJ25 : ∀ (y23 : Bool) (w20 : World) (_ : k24 y23 = some r) (_ : Below w0.heap.size w0 w20) (_ : Sep w0.heap.size w20 []), ∀ a, St 35 [(0, v0_0), (1, (.int .i64 x1)), (2, (.int .i64 x2)), (9, v0_0), (10, (.int .i64 (List.length x0 : Int))), (11, (.int .i64 y7)), (33, (.bool y23))] a → K19 a w20 := by
     intro y23 w20 hF hB21 hS22
     subst hk24
     refine fun a ha => hK19 _ _ (W.cond rfl (fun h26 => ?_) (fun h26 => ?_)) a ha
     ·replace hF := ifP h26 hF
      refine W.seq fun K27 hK27 => W.region (wl_assign rfl rfl (WL.nil (fun a ha => hK27 _ _ (W.ret ?_) a ha)))
      have hr := Option.some.inj hF
      subst hr
      exact rets (vs := [(.bool false)]) hQ rfl ⟨rv_tmp rfl, trivial⟩ ⟨rfl, hB21⟩
     ·replace hF := ifN h26 hF
      refine W.skip fun a ha => hK14 _ _ (W.region (wl_add rfl rfl rfl (wl_move rfl rfl (WL.nil ?_)))) a ha
      rw [hnx8] at hF
      exact fun a ha => hKL9 a _ m10 (Nat.lt_succ_self m10) ⟨(w64 (y7 + 1)), ha.sub ⟨rfl, rfl, rfl, rfl, rfl, rfl, trivial⟩, hB21, (hS22.sel [] rfl), hF⟩
    refine W.region (wl_move rfl rfl (wl_move rfl rfl (wl_move rfl rfl ?_)))
    obtain ⟨u28, hu28, hF⟩ := bindE hF
    refine wl_call rfl Tryz.call57 (C_spec_l1In w4 u16 x1 x2 _ hu28) rfl ?_
    rintro _ w29 ⟨rfl, hb30⟩
    refine ⟨_, rfl, ?_⟩
    have hB31 := hB5.trans (hb30.mono hB5.size)
    have hS32 := hS6.below hb30
    refine wl_not rfl rfl (wl_move rfl rfl ?_)
    rcases bE (!u28) with h34 | h34
    ·replace hF := ifP h34 hF
     refine wl_off rfl rfl rfl h34 (wl_off rfl rfl rfl h34 (wl_off rfl rfl rfl h34 (wl_offu rfl rfl rfl (wl_offu rfl rfl rfl (wl_offu rfl rfl rfl (wl_offu rfl rfl rfl (wl_offu rfl rfl rfl (wl_offu rfl rfl rfl (wl_offu rfl rfl rfl (wl_off rfl rfl rfl h34 (wl_pick_t rfl rfl h34 rfl (WL.nil ?_))))))))))))
     exact fun a ha => hJ25 (true) _ hF hB31 (hS32.sel [] rfl) a (ha.sub ⟨rfl, rfl, rfl, rfl, rfl, rfl, rfl, trivial⟩)
    ·replace hF := ifN h34 hF
     refine wl_on rfl rfl h34 (wl_move rfl rfl (wl_on rfl rfl h34 (wl_gtr rfl rfl rfl (wl_on rfl rfl h34 (wl_move rfl rfl ?_)))))
     rcases bE (decide (0 < y7)) with h35 | h35
     ·replace hF := ifP h35 hF
      refine wl_on rfl rfl h35 (wl_move rfl rfl (wl_on rfl rfl h35 (wl_move rfl rfl (wl_on rfl rfl h35 (wl_sub rfl rfl rfl (wl_on rfl rfl h35 ?_))))))
      obtain ⟨u36, hu36, hF⟩ := bindE hF
      refine wl_index (e := ty_3) Tryz.underlying25 rfl rfl rfl h0_0 hu36 ?_
      rintro p37 _ rfl hp38
      refine wl_on rfl rfl h35 (wl_load_p (vs := [(.int .i64 u36)]) (v := (.int .i64 u36)) tf_3 rfl rfl (hp38.ro hB31) rfl rfl (wl_on rfl rfl h35 (wl_move rfl rfl (wl_on rfl rfl h35 (wl_geq rfl rfl rfl (wl_on rfl rfl h34 (wl_pick_t rfl rfl h35 rfl (wl_pick_f rfl rfl h34 rfl (WL.nil ?_)))))))))
      exact fun a ha => hJ25 ((decide (u16 ≤ u36))) _ hF hB31 (hS32.sel [] rfl) a (ha.sub ⟨rfl, rfl, rfl, rfl, rfl, rfl, rfl, trivial⟩)
     ·replace hF := ifN h35 hF
      refine wl_off rfl rfl rfl h35 (wl_off rfl rfl rfl h35 (wl_off rfl rfl rfl h35 (wl_off rfl rfl rfl h35 (wl_off rfl rfl rfl h35 (wl_off rfl rfl rfl h35 (wl_off rfl rfl rfl h35 (wl_on rfl rfl h34 (wl_pick_f rfl rfl h35 rfl (wl_pick_f rfl rfl h34 rfl (WL.nil ?_))))))))))
      exact fun a ha => hJ25 (false) _ hF hB31 (hS32.sel [] rfl) a (ha.sub ⟨rfl, rfl, rfl, rfl, rfl, rfl, rfl, trivial⟩)
   ·replace hF := ifN h13 hF
    refine W.exit fun a ha => hK2 _ _ (W.seq fun K39 hK39 => (W.region (wl_assign rfl rfl (WL.nil (fun a ha => hK39 _ _ (W.ret ?_) a ha))))) a ha
    have hr := Option.some.inj hF
    subst hr
    exact rets (vs := [(.bool true)]) hQ rfl ⟨rv_tmp rfl, trivial⟩ ⟨rfl, hB5⟩
theorem C_spec_mnGood (w0 : World) (x0 : (((List (List (Int × Int))) × (List Int) × Int × Int) × Int × (List Int) × (List Int))) (v0_0 : Value) (h0_0 : rdS ty_66 (· < w0.heap.size) w0 v0_0 x0.1.1) (v0_1 : Value) (h0_1 : rdS ty_3 (· < w0.heap.size) w0 v0_1 x0.1.2.1) (v0_2 : Value) (h0_2 : rdS ty_3 (· < w0.heap.size) w0 v0_2 x0.2.2.1) (v0_3 : Value) (h0_3 : rdS ty_3 (· < w0.heap.size) w0 v0_3 x0.2.2.2) (r : Bool) (hF : F_spec_mnGood x0 = some r) :
  Calls Tryz.prog 31 [(.agg #[v0_0, v0_1, (.int .i64 x0.1.2.2.1), (.int .i64 x0.1.2.2.2), (.int .i64 x0.2.1), v0_2, v0_3])].toArray w0 fun e w' => e = .returned (.bool r) ∧ Below w0.heap.size w0 w' := by
 refine calls_mk' Tryz.func31 rfl Tryz.ntmps31 rfl rfl fun Q hQ hP => ?_
 have hB : Below w0.heap.size w0 w0 := Below.refl _ _
 have hS : Sep w0.heap.size w0 [] := Sep.nil _ _
 unfold F_spec_mnGood at hF
 refine W.seq fun K1 hK1 => W.region (wl_box (cs := [v0_0, v0_1, (.int .i64 x0.1.2.2.1), (.int .i64 x0.1.2.2.2), (.int .i64 x0.2.1), v0_2, v0_3]) rfl rfl rfl hB hS ?_)
 intro b2 w3 hb4 hB5 hS6
 refine wl_assign rfl rfl (WL.nil (fun a ha => hK1 _ _ (W.seq fun K7 hK7 => (W.seq fun K8 hK8 => ?_)) a ha))
 obtain ⟨k13, hk13, hF⟩ := jE1 hF
 have hJ14 : ∀ (y12 : Bool) (w9 : World) (_ : k13 y12 = some r) (_ : Below w0.heap.size w0 w9) (_ : Sep w0.heap.size w9 [R.blk b2 29 [v0_0, v0_1, (.int .i64 x0.1.2.2.1), (.int .i64 x0.1.2.2.2), (.int .i64 x0.2.1), v0_2, v0_3]]), ∀ a, St 39 [(1, (.pointer (some ⟨b2, 0, none⟩))), (13, (.bool y12))] a → K8 a w9 := by
  intro y12 w9 hF hB10 hS11
  subst hk13
  refine fun a ha => hK8 _ _ (W.cond rfl (fun h15 => ?_) (fun h15 => ?_)) a ha
  ·replace hF := ifP h15 hF
   refine W.seq fun K16 hK16 => W.region (wl_assign rfl rfl (WL.nil (fun a ha => hK16 _ _ (W.ret ?_) a ha)))
   have hr := Option.some.inj hF
   subst hr
   exact rets (vs := [(.bool false)]) hQ rfl ⟨rv_tmp rfl, trivial⟩ ⟨rfl, hB10⟩
  ·replace hF := ifN h15 hF
   refine W.skip fun a ha => hK7 _ _ (W.seq fun K17 hK17 => (W.region (wl_field (o := 0) (off' := 0) ff_29_0 rfl rfl rfl (wl_field (o := 0) (off' := 0) ff_27_0 rfl rfl rfl (wl_load_blk (i := 0) (vs := [v0_0]) (v := v0_0) tf_24 rfl rfl hS11 rfl rfl rfl ?_))))) a ha
   obtain ⟨u18, hu18, hF⟩ := bindE hF
   refine wl_index (e := ty_66) Tryz.underlying24 rfl rfl rfl h0_0 hu18 ?_
   rintro p19 _ ⟨v21, rfl, hv22⟩ hp20
   refine wl_load_p (vs := [v21]) (v := v21) tf_66 rfl rfl (hp20.ro hB10) rfl rfl (wl_lenr (e := ty_42) (l := u18) Tryz.underlying66 rfl rfl hv22 (wl_assign rfl rfl (WL.nil (fun a ha => hK17 _ _ (W.seq fun K23 hK23 => ?_) a ha))))
   obtain ⟨k28, hk28, hF⟩ := jE1 hF
   have hJ29 : ∀ (y27 : Bool) (w24 : World) (_ : k28 y27 = some r) (_ : Below w0.heap.size w0 w24) (_ : Sep w0.heap.size w24 []), ∀ a, St 39 [(2, (.bool y27))] a → K23 a w24 := by
    intro y27 w24 hF hB25 hS26
    subst hk28
    refine fun a ha => hK23 _ _ (W.ret ?_) a ha
    have hr := Option.some.inj hF
    subst hr
    exact rets (vs := [(.bool y27)]) hQ rfl ⟨rv_tmp rfl, trivial⟩ ⟨rfl, hB25⟩
   refine W.region (wl_field (o := 5) (off' := 5) ff_29_2 rfl rfl rfl (wl_load_blk (i := 0) (vs := [v0_2]) (v := v0_2) tf_25 rfl rfl hS11 rfl rfl rfl (wl_move rfl rfl (wl_sub rfl rfl rfl ?_))))
   obtain ⟨u30, hu30, hF⟩ := bindE hF
   refine wl_call rfl Tryz.call58 (C_spec_l1Rising w9 x0.2.2.1 v0_2 (h0_2.ro hB10) 0 (w64 ((List.length u18 : Int) - 1)) _ hu30) rfl ?_
   rintro _ w31 ⟨rfl, hb32⟩
   refine ⟨_, rfl, ?_⟩
   have hB33 := hB10.trans (hb32.mono hB10.size)
   have hS34 := hS11.below hb32
   refine wl_move rfl rfl ?_
   rcases bE u30 with h36 | h36
   ·replace hF := ifP h36 hF
    refine wl_on rfl rfl h36 (wl_field (o := 6) (off' := 6) ff_29_3 rfl rfl rfl (wl_on rfl rfl h36 (wl_load_blk (i := 0) (vs := [v0_3]) (v := v0_3) tf_25 rfl rfl hS34 rfl rfl rfl (wl_on rfl rfl h36 (wl_lenr (e := ty_3) (l := x0.2.2.2) Tryz.underlying25 rfl rfl h0_3 (wl_on rfl rfl h36 (wl_move rfl rfl (wl_on rfl rfl h36 (wl_eql rfl rfl rfl (wl_pick_t rfl rfl h36 rfl (wl_move rfl rfl ?_)))))))))))
    rcases bE ((List.length x0.2.2.2 : Int) == (List.length u18 : Int)) with h37 | h37
    ·replace hF := ifP h37 hF
     refine wl_on rfl rfl h37 (wl_field (o := 6) (off' := 6) ff_29_3 rfl rfl rfl (wl_on rfl rfl h37 (wl_load_blk (i := 0) (vs := [v0_3]) (v := v0_3) tf_25 rfl rfl hS34 rfl rfl rfl (wl_on rfl rfl h37 (wl_field (o := 4) (off' := 4) ff_29_1 rfl rfl rfl (wl_on rfl rfl h37 (wl_load_blk (i := 0) (vs := [(.int .i64 x0.2.1)]) (v := (.int .i64 x0.2.1)) tf_3 rfl rfl hS34 rfl rfl rfl (wl_on rfl rfl h37 ?_))))))))
     obtain ⟨u38, hu38, hF⟩ := bindE hF
     refine wl_call rfl Tryz.call59 (C_spec_l1All w31 x0.2.2.2 v0_3 (h0_3.ro hB33) 0 x0.2.1 _ hu38) rfl ?_
     rintro _ w39 ⟨rfl, hb40⟩
     refine ⟨_, rfl, ?_⟩
     have hB41 := hB33.trans (hb40.mono hB33.size)
     have hS42 := hS34.below hb40
     refine wl_pick_t rfl rfl h37 rfl (wl_assign rfl rfl (WL.nil ?_))
     exact fun a ha => hJ29 (u38) _ hF hB41 (hS42.sel [] rfl) a (ha.sub ⟨rfl, trivial⟩)
    ·replace hF := ifN h37 hF
     refine wl_off rfl rfl rfl h37 (wl_off rfl rfl rfl h37 (wl_off rfl rfl rfl h37 (wl_off rfl rfl rfl h37 (wl_off rfl rfl rfl h37 (wl_pick_f rfl rfl h37 rfl (wl_assign rfl rfl (WL.nil ?_)))))))
     exact fun a ha => hJ29 (false) _ hF hB33 (hS34.sel [] rfl) a (ha.sub ⟨rfl, trivial⟩)
   ·replace hF := ifN h36 hF
    refine wl_off rfl rfl rfl h36 (wl_off rfl rfl rfl h36 (wl_off rfl rfl rfl h36 (wl_off rfl rfl rfl h36 (wl_off rfl rfl rfl h36 (wl_pick_f rfl rfl h36 rfl (wl_move rfl rfl (wl_off rfl rfl rfl rfl (wl_off rfl rfl rfl rfl (wl_off rfl rfl rfl rfl (wl_off rfl rfl rfl rfl (wl_off rfl rfl rfl rfl (wl_pick_f rfl rfl rfl rfl (wl_assign rfl rfl ?_)))))))))))))
    refine WL.nil ?_
    exact fun a ha => hJ29 (false) _ hF hB33 (hS34.sel [] rfl) a (ha.sub ⟨rfl, trivial⟩)
 refine W.region (wl_field (o := 0) (off' := 0) ff_29_0 rfl rfl rfl (wl_load_blk (i := 0) (vs := [v0_0, v0_1, (.int .i64 x0.1.2.2.1), (.int .i64 x0.1.2.2.2)]) (v := (.agg #[v0_0, v0_1, (.int .i64 x0.1.2.2.1), (.int .i64 x0.1.2.2.2)])) tf_27 rfl rfl hS6 rfl rfl rfl ?_))
 obtain ⟨u44, hu44, hF⟩ := bindE hF
 refine wl_call rfl Tryz.call51 (C_spec_swGood w3 x0.1 v0_0 (h0_0.ro hB5) v0_1 (h0_1.ro hB5) _ hu44) rfl ?_
 rintro _ w45 ⟨rfl, hb46⟩
 refine ⟨_, rfl, ?_⟩
 have hB47 := hB5.trans (hb46.mono hB5.size)
 have hS48 := hS6.below hb46
 refine wl_not rfl rfl (wl_move rfl rfl ?_)
 rcases bE (!u44) with h50 | h50
 ·replace hF := ifP h50 hF
  refine wl_off rfl rfl rfl h50 (wl_off rfl rfl rfl h50 (wl_off rfl rfl rfl h50 (wl_off rfl rfl rfl h50 (wl_pick_t rfl rfl h50 rfl (WL.nil ?_)))))
  exact fun a ha => hJ14 (true) _ hF hB47 (hS48.sel [0] rfl) a (ha.sub ⟨rfl, rfl, trivial⟩)
 ·replace hF := ifN h50 hF
  refine wl_on rfl rfl h50 (wl_field (o := 4) (off' := 4) ff_29_1 rfl rfl rfl (wl_on rfl rfl h50 (wl_load_blk (i := 0) (vs := [(.int .i64 x0.2.1)]) (v := (.int .i64 x0.2.1)) tf_3 rfl rfl hS48 rfl rfl rfl (wl_on rfl rfl h50 ?_))))
  obtain ⟨u51, hu51, hF⟩ := bindE hF
  refine wl_call rfl Tryz.call57 (C_spec_l1In w45 x0.2.1 0 1000 _ hu51) rfl ?_
  rintro _ w52 ⟨rfl, hb53⟩
  refine ⟨_, rfl, ?_⟩
  have hB54 := hB47.trans (hb53.mono hB47.size)
  have hS55 := hS48.below hb53
  refine wl_on rfl rfl h50 (wl_not rfl rfl (wl_pick_f rfl rfl h50 rfl (WL.nil ?_)))
  exact fun a ha => hJ14 ((!u51)) _ hF hB54 (hS55.sel [0] rfl) a (ha.sub ⟨rfl, rfl, trivial⟩)
theorem C_spec_RunBeats (w0 : World) (x0 : (((List (List (Int × Int))) × (List Int) × Int × Int) × Int × (List Int) × (List Int))) (v0_0 : Value) (h0_0 : rdS ty_66 (· < w0.heap.size) w0 v0_0 x0.1.1) (v0_1 : Value) (h0_1 : rdS ty_3 (· < w0.heap.size) w0 v0_1 x0.1.2.1) (v0_2 : Value) (h0_2 : rdS ty_3 (· < w0.heap.size) w0 v0_2 x0.2.2.1) (v0_3 : Value) (h0_3 : rdS ty_3 (· < w0.heap.size) w0 v0_3 x0.2.2.2) (x1 : (List (Int × Int))) (v1_0 : Value) (h1_0 : rdS ty_59 (· < w0.heap.size) w0 v1_0 x1) (r : ((((List (List (Int × Int))) × (List Int) × Int × Int) × Int × (List Int) × (List Int)) × Int × Bool)) (hF : F_spec_RunBeats x0 x1 = some r) :
  Calls Tryz.prog 7 [(.agg #[v0_0, v0_1, (.int .i64 x0.1.2.2.1), (.int .i64 x0.1.2.2.2), (.int .i64 x0.2.1), v0_2, v0_3]), v1_0].toArray w0 fun e w' => ∃ (q0 : Value) (G0 : List Nat) (q1 : Value) (G1 : List Nat) (q2 : Value) (G2 : List Nat) (q3 : Value) (G3 : List Nat), e = .returned (.tuple #[(.agg #[q0, q1, (.int .i64 r.1.1.2.2.1), (.int .i64 r.1.1.2.2.2), (.int .i64 r.1.2.1), q2, q3]), (.int .i64 r.2.1), (.bool r.2.2)]) ∧ Below w0.heap.size w0 w' ∧ Sep w0.heap.size w' [R.own ty_66 G0 q0 r.1.1.1, R.own ty_3 G1 q1 r.1.1.2.1, R.own ty_3 G2 q2 r.1.2.2.1, R.own ty_3 G3 q3 r.1.2.2.2] := by
 refine calls_mk' Tryz.func7 rfl Tryz.ntmps7 rfl rfl fun Q hQ hP => ?_
 have hB : Below w0.heap.size w0 w0 := Below.refl _ _
 have hS : Sep w0.heap.size w0 [] := Sep.nil _ _
 unfold F_spec_RunBeats at hF
 refine W.seq fun K1 hK1 => W.region (wl_box (cs := [v0_0, v0_1, (.int .i64 x0.1.2.2.1), (.int .i64 x0.1.2.2.2), (.int .i64 x0.2.1), v0_2, v0_3]) rfl rfl rfl hB hS ?_)
 intro b2 w3 hb4 hB5 hS6
 refine wl_alloc (cs := [(.slice none 0 0), (.slice none 0 0), (.int .i64 0), (.int .i64 0), (.int .i64 0), (.slice none 0 0), (.slice none 0 0)]) tf_29 rfl rfl hB5 hS6 ?_
 intro b7 w8 hb9 hB10 hS11
 refine wl_assign rfl rfl (wl_assign rfl rfl (WL.nil (fun a ha => hK1 _ _ (W.seq fun K12 hK12 => (W.seq fun K13 hK13 => ?_)) a ha)))
 obtain ⟨k18, hk18, hF⟩ := jE1 hF
 have hJ19 : ∀ (y17 : Bool) (w14 : World) (_ : k18 y17 = some r) (_ : Below w0.heap.size w0 w14) (_ : Sep w0.heap.size w14 [R.blk b2 29 [v0_0, v0_1, (.int .i64 x0.1.2.2.1), (.int .i64 x0.1.2.2.2), (.int .i64 x0.2.1), v0_2, v0_3], R.blk b7 29 [(.slice none 0 0), (.slice none 0 0), (.int .i64 0), (.int .i64 0), (.int .i64 0), (.slice none 0 0), (.slice none 0 0)]]), ∀ a, St 45 [(1, v1_0), (2, (.pointer (some ⟨b2, 0, none⟩))), (4, (.pointer (some ⟨b7, 0, none⟩))), (19, (.bool y17))] a → K13 a w14 := by
  intro y17 w14 hF hB15 hS16
  subst hk18
  refine fun a ha => hK13 _ _ (W.cond rfl (fun h20 => ?_) (fun h20 => ?_)) a ha
  ·replace hF := ifP h20 hF
   refine W.seq fun K21 hK21 => W.region (wl_build (zs := [(.slice none 0 0), (.slice none 0 0), (.int .i64 0), (.int .i64 0), (.int .i64 0), (.slice none 0 0), (.slice none 0 0)]) (out := [(.slice none 0 0), (.slice none 0 0), (.int .i64 0), (.int .i64 0), (.int .i64 0), (.slice none 0 0), (.slice none 0 0)]) (vs := []) (css := []) tf_29 pl_29 rfl rfl rfl rfl rfl (wl_store_blk (i := 1) (vs := [(.slice none 0 0), (.slice none 0 0), (.int .i64 0), (.int .i64 0), (.int .i64 0), (.slice none 0 0), (.slice none 0 0)]) (cs' := [(.slice none 0 0), (.slice none 0 0), (.int .i64 0), (.int .i64 0), (.int .i64 0), (.slice none 0 0), (.slice none 0 0)]) tf_29 rfl rfl rfl rfl hB15 hS16 rfl rfl ⟨rfl, rfl, rfl, rfl, rfl, rfl, rfl, trivial⟩ rfl ?_))
   intro w22 hk25 hB23 hS24
   refine wl_assign rfl rfl (wl_assign rfl rfl (WL.nil (fun a ha => hK21 _ _ (W.ret ?_) a ha)))
   have hS26 := hS24.push0 (r := R.own ty_66 [] (.slice none 0 0) []) rfl fun _ => .inl ⟨rfl, rfl, rfl⟩
   have hS27 := hS26.push0 (r := R.own ty_3 [] (.slice none 0 0) []) rfl fun _ => .inl ⟨rfl, rfl, rfl⟩
   have hS28 := hS27.push0 (r := R.own ty_3 [] (.slice none 0 0) []) rfl fun _ => .inl ⟨rfl, rfl, rfl⟩
   have hS29 := hS28.push0 (r := R.own ty_3 [] (.slice none 0 0) []) rfl fun _ => .inl ⟨rfl, rfl, rfl⟩
   have hr := Option.some.inj hF
   subst hr
   exact rets (vs := [(.agg #[(.slice none 0 0), (.slice none 0 0), (.int .i64 0), (.int .i64 0), (.int .i64 0), (.slice none 0 0), (.slice none 0 0)]), (.int .i64 0), (.bool false)]) hQ rfl ⟨rv_cell (i := 1) tf_29 rfl hS24 rfl rfl rfl, rv_tmp rfl, rv_tmp rfl, trivial⟩ ⟨(.slice none 0 0), [], (.slice none 0 0), [], (.slice none 0 0), [], (.slice none 0 0), [], rfl, hB23, hS29.sel [3, 2, 1, 0] rfl⟩
  ·replace hF := ifN h20 hF
   refine W.skip fun a ha => hK12 _ _ (W.seq fun K30 hK30 => (W.region (wl_load_blk (i := 0) (vs := [v0_0, v0_1, (.int .i64 x0.1.2.2.1), (.int .i64 x0.1.2.2.2), (.int .i64 x0.2.1), v0_2, v0_3]) (v := (.agg #[v0_0, v0_1, (.int .i64 x0.1.2.2.1), (.int .i64 x0.1.2.2.2), (.int .i64 x0.2.1), v0_2, v0_3])) tf_29 rfl rfl hS16 rfl rfl rfl ?_))) a ha
   obtain ⟨u31, hu31, hF⟩ := bindE hF
   refine wl_call rfl Tryz.call32 (C_spec_mnOwn w14 x0 v0_0 (h0_0.ro hB15) v0_1 (h0_1.ro hB15) v0_2 (h0_2.ro hB15) v0_3 (h0_3.ro hB15) _ hu31) rfl ?_
   rintro _ w40 ⟨v32, F33, v34, F35, v36, F37, v38, F39, rfl, hb41, hM44⟩
   refine ⟨_, rfl, ?_⟩
   have hB42 := hB15.trans (hb41.mono hB15.size)
   have hS43 := hS16.join hb41 hM44 hB15.size
   refine wl_alloc (cs := [(.slice none 0 0), (.slice none 0 0), (.int .i64 0), (.int .i64 0), (.int .i64 0), (.slice none 0 0), (.slice none 0 0)]) tf_29 rfl rfl hB42 hS43 ?_
   intro b45 w46 hb47 hB48 hS49
   refine wl_store_blk (i := 0) (vs := [v32, v34, (.int .i64 u31.1.2.2.1), (.int .i64 u31.1.2.2.2), (.int .i64 u31.2.1), v36, v38]) (cs' := [v32, v34, (.int .i64 u31.1.2.2.1), (.int .i64 u31.1.2.2.2), (.int .i64 u31.2.1), v36, v38]) tf_29 rfl rfl rfl rfl hB48 hS49 rfl rfl ⟨(hS49.own_ro (i := 1) rfl).one, (hS49.own_ro (i := 2) rfl).one, rfl, rfl, rfl, (hS49.own_ro (i := 3) rfl).one, (hS49.own_ro (i := 4) rfl).one, trivial⟩ rfl ?_
   intro w50 hk53 hB51 hS52
   refine WL.nil fun a ha => hK30 _ _ (W.seq fun K54 hK54 => (W.seq fun K55 hK55 => (W.region (wl_move rfl rfl (wl_lenr (e := ty_59) (l := x1) Tryz.underlying30 rfl rfl h1_0 (wl_move rfl rfl (WL.nil (fun a ha => hK55 _ _ (W.block ?_) a ha)))))))) a ha
   refine W.loopk (fun m a w56 => ∃ (l59 : (List (List (Int × Int)))) (l62 : (List Int)) (y65 : Int) (y66 : Int) (y67 : Int) (l68 : (List Int)) (l71 : (List Int)) (y74 : Int) (v60 : Value) (F61 : List Nat) (v63 : Value) (F64 : List Nat) (v69 : Value) (F70 : List Nat) (v72 : Value) (F73 : List Nat), St 45 [(1, v1_0), (4, (.pointer (some ⟨b7, 0, none⟩))), (7, (.pointer (some ⟨b45, 0, none⟩))), (23, v1_0), (24, (.int .i64 (List.length x1 : Int))), (25, (.int .i64 y74))] a ∧ Below w0.heap.size w0 w56 ∧ Sep w0.heap.size w56 [R.blk b7 29 [(.slice none 0 0), (.slice none 0 0), (.int .i64 0), (.int .i64 0), (.int .i64 0), (.slice none 0 0), (.slice none 0 0)], R.own ty_66 F61 v60 l59, R.own ty_3 F64 v63 l62, R.own ty_3 F70 v69 l68, R.own ty_3 F73 v72 l71, R.blk b45 29 [v60, v63, (.int .i64 y65), (.int .i64 y66), (.int .i64 y67), v69, v72]] ∧ F_spec_RunBeats_L1 x1 m l59 l62 y65 y66 y67 l68 l71 y74 = some r) FU ?_ ?_
   ·
    exact fun a ha => ⟨u31.1.1, u31.1.2.1, u31.1.2.2.1, u31.1.2.2.2, u31.2.1, u31.2.2.1, u31.2.2.2, 0, v32, F33, v34, F35, v36, F37, v38, F39, ha.sub ⟨rfl, rfl, rfl, rfl, rfl, rfl, trivial⟩, hB51, (hS52.sel [6, 1, 2, 3, 4, 0] rfl), hF⟩
   ·
    rintro m77 a w56 ⟨l59, l62, y65, y66, y67, l68, l71, y74, v60, F61, v63, F64, v69, F70, v72, F73, ha, hB57, hS58, hF⟩ KL76 hKL76
    refine W.at ?_ ha
    cases m77 with
    | zero => exact noneE hF
    | succ m77 =>
     obtain ⟨nx75, hnx75⟩ : ∃ k, k = F_spec_RunBeats_L1 x1 m77 := ⟨_, rfl⟩
     rw [F_spec_RunBeats_L1, ← hnx75] at hF
     refine W.seq fun K78 hK78 => W.region (wl_lss rfl rfl rfl (WL.nil (fun a ha => hK78 _ _ (W.seq fun K79 hK79 => (W.cond rfl (fun h80 => ?_) (fun h80 => ?_))) a ha)))
     ·replace hF := ifP h80 hF
      refine W.skip fun a ha => hK79 _ _ (W.seq fun K81 hK81 => (W.block (W.seq fun K82 hK82 => (W.region (wl_move rfl rfl ?_))))) a ha
      obtain ⟨u83, hu83, hF⟩ := bindE hF
      refine wl_index (e := ty_59) Tryz.underlying30 rfl rfl rfl h1_0 hu83 ?_
      rintro p84 _ rfl hp85
      refine wl_load_p (vs := [(.int .i64 u83.1), (.int .i64 u83.2)]) (v := (.agg #[(.int .i64 u83.1), (.int .i64 u83.2)])) tf_59 rfl rfl (hp85.ro hB57) rfl rfl (wl_alloc (cs := [(.int .i64 0), (.int .i64 0)]) tf_59 rfl rfl hB57 hS58 ?_)
      intro b86 w87 hb88 hB89 hS90
      refine wl_assign rfl rfl (wl_store_blk (i := 0) (vs := [(.int .i64 u83.1), (.int .i64 u83.2)]) (cs' := [(.int .i64 u83.1), (.int .i64 u83.2)]) tf_59 rfl rfl rfl rfl hB89 hS90 rfl rfl ⟨rfl, rfl, trivial⟩ rfl ?_)
      intro w91 hk94 hB92 hS93
      refine WL.nil fun a ha => hK82 _ _ (W.seq fun K95 hK95 => (W.region (wl_load_blk (i := 6) (vs := [v60, v63, (.int .i64 y65), (.int .i64 y66), (.int .i64 y67), v69, v72]) (v := (.agg #[v60, v63, (.int .i64 y65), (.int .i64 y66), (.int .i64 y67), v69, v72])) tf_29 rfl rfl hS93 rfl rfl rfl (wl_load_blk (i := 0) (vs := [(.int .i64 u83.1), (.int .i64 u83.2)]) (v := (.agg #[(.int .i64 u83.1), (.int .i64 u83.2)])) tf_59 rfl rfl hS93 rfl rfl rfl ?_)))) a ha
      obtain ⟨u96, hu96, hF⟩ := bindE hF
      refine wl_call rfl Tryz.call33 (C_spec_mnStep w91 ((l59, l62, y65, y66), y67, l68, l71) v60 (hS93.own_ro (i := 2) rfl) v63 (hS93.own_ro (i := 3) rfl) v69 (hS93.own_ro (i := 4) rfl) v72 (hS93.own_ro (i := 5) rfl) u83 _ hu96) rfl ?_
      rintro _ w105 ⟨v97, F98, v99, F100, v101, F102, v103, F104, rfl, hb106, hM109⟩
      refine ⟨_, rfl, ?_⟩
      have hB107 := hB92.trans (hb106.mono hB92.size)
      have hS108 := hS93.join hb106 hM109 hB92.size
      refine wl_move rfl rfl (wl_extract rfl rfl rfl (wl_extract rfl rfl rfl (wl_alloc (cs := [(.slice none 0 0), (.slice none 0 0), (.int .i64 0), (.int .i64 0), (.int .i64 0), (.slice none 0 0), (.slice none 0 0)]) tf_29 rfl rfl hB107 hS108 ?_)))
      intro b110 w111 hb112 hB113 hS114
      refine wl_store_blk (i := 0) (vs := [v97, v99, (.int .i64 u96.1.1.2.2.1), (.int .i64 u96.1.1.2.2.2), (.int .i64 u96.1.2.1), v101, v103]) (cs' := [v97, v99, (.int .i64 u96.1.1.2.2.1), (.int .i64 u96.1.1.2.2.2), (.int .i64 u96.1.2.1), v101, v103]) tf_29 rfl rfl rfl rfl hB113 hS114 rfl rfl ⟨(hS114.own_ro (i := 1) rfl).one, (hS114.own_ro (i := 2) rfl).one, rfl, rfl, rfl, (hS114.own_ro (i := 3) rfl).one, (hS114.own_ro (i := 4) rfl).one, trivial⟩ rfl ?_
      intro w115 hk118 hB116 hS117
      refine wl_assign rfl rfl (WL.nil (fun a ha => hK95 _ _ (W.seq fun K119 hK119 => (W.seq fun K120 hK120 => (W.region (wl_move rfl rfl (wl_not rfl rfl (WL.nil (fun a ha => hK120 _ _ (W.cond rfl (fun h121 => ?_) (fun h121 => ?_)) a ha))))))) a ha))
      ·replace hF := ifP h121 hF
       refine W.seq fun K122 hK122 => W.region (wl_load_blk (i := 11) (vs := [v60, v63, (.int .i64 y65), (.int .i64 y66), (.int .i64 y67), v69, v72]) (v := (.agg #[v60, v63, (.int .i64 y65), (.int .i64 y66), (.int .i64 y67), v69, v72])) tf_29 rfl rfl hS117 rfl rfl rfl (wl_move rfl rfl (wl_store_blk (i := 6) (vs := [v60, v63, (.int .i64 y65), (.int .i64 y66), (.int .i64 y67), v69, v72]) (cs' := [v60, v63, (.int .i64 y65), (.int .i64 y66), (.int .i64 y67), v69, v72]) tf_29 rfl rfl rfl rfl hB116 hS117 rfl rfl ⟨(hS117.own_ro (i := 7) rfl).one, (hS117.own_ro (i := 8) rfl).one, rfl, rfl, rfl, (hS117.own_ro (i := 9) rfl).one, (hS117.own_ro (i := 10) rfl).one, trivial⟩ rfl ?_)))
       intro w123 hk126 hB124 hS125
       refine wl_assign rfl rfl (wl_assign rfl rfl (WL.nil (fun a ha => hK122 _ _ (W.ret ?_) a ha)))
       have hr := Option.some.inj hF
       subst hr
       exact rets (vs := [(.agg #[v60, v63, (.int .i64 y65), (.int .i64 y66), (.int .i64 y67), v69, v72]), (.int .i64 y74), (.bool true)]) hQ rfl ⟨rv_cell (i := 6) tf_29 rfl hS125 rfl rfl rfl, rv_tmp rfl, rv_tmp rfl, trivial⟩ ⟨v60, F61, v63, F64, v69, F70, v72, F73, rfl, hB124, hS125.sel [7, 8, 9, 10] rfl⟩
      ·replace hF := ifN h121 hF
       refine W.skip fun a ha => hK119 _ _ (W.region (wl_load_blk (i := 0) (vs := [v97, v99, (.int .i64 u96.1.1.2.2.1), (.int .i64 u96.1.1.2.2.2), (.int .i64 u96.1.2.1), v101, v103]) (v := (.agg #[v97, v99, (.int .i64 u96.1.1.2.2.1), (.int .i64 u96.1.1.2.2.2), (.int .i64 u96.1.2.1), v101, v103])) tf_29 rfl rfl hS117 rfl rfl rfl (wl_store_blk (i := 11) (vs := [v97, v99, (.int .i64 u96.1.1.2.2.1), (.int .i64 u96.1.1.2.2.2), (.int .i64 u96.1.2.1), v101, v103]) (cs' := [v97, v99, (.int .i64 u96.1.1.2.2.1), (.int .i64 u96.1.1.2.2.2), (.int .i64 u96.1.2.1), v101, v103]) tf_29 rfl rfl rfl rfl hB116 hS117 rfl rfl ⟨(hS117.own_ro (i := 1) rfl).one, (hS117.own_ro (i := 2) rfl).one, rfl, rfl, rfl, (hS117.own_ro (i := 3) rfl).one, (hS117.own_ro (i := 4) rfl).one, trivial⟩ rfl ?_))) a ha
       intro w127 hk130 hB128 hS129
       refine WL.nil fun a ha => hK81 _ _ (W.region (wl_add rfl rfl rfl (wl_move rfl rfl (WL.nil ?_)))) a ha
       rw [hnx75] at hF
       exact fun a ha => hKL76 a _ m77 (Nat.lt_succ_self m77) ⟨u96.1.1.1, u96.1.1.2.1, u96.1.1.2.2.1, u96.1.1.2.2.2, u96.1.2.1, u96.1.2.2.1, u96.1.2.2.2, (w64 (y74 + 1)), v97, F98, v99, F100, v101, F102, v103, F104, ha.sub ⟨rfl, rfl, rfl, rfl, rfl, rfl, trivial⟩, hB128, (hS129.sel [6, 1, 2, 3, 4, 11] rfl), hF⟩
     ·replace hF := ifN h80 hF
      refine W.exit fun a ha => hK54 _ _ (W.seq fun K131 hK131 => (W.region (wl_load_blk (i := 5) (vs := [v60, v63, (.int .i64 y65), (.int .i64 y66), (.int .i64 y67), v69, v72]) (v := (.agg #[v60, v63, (.int .i64 y65), (.int .i64 y66), (.int .i64 y67), v69, v72])) tf_29 rfl rfl hS58 rfl rfl rfl (wl_move rfl rfl (wl_lenr (e := ty_59) (l := x1) Tryz.underlying30 rfl rfl h1_0 (wl_store_blk (i := 0) (vs := [v60, v63, (.int .i64 y65), (.int .i64 y66), (.int .i64 y67), v69, v72]) (cs' := [v60, v63, (.int .i64 y65), (.int .i64 y66), (.int .i64 y67), v69, v72]) tf_29 rfl rfl rfl rfl hB57 hS58 rfl rfl ⟨(hS58.own_ro (i := 1) rfl).one, (hS58.own_ro (i := 2) rfl).one, rfl, rfl, rfl, (hS58.own_ro (i := 3) rfl).one, (hS58.own_ro (i := 4) rfl).one, trivial⟩ rfl ?_)))))) a ha
      intro w132 hk135 hB133 hS134
      refine wl_assign rfl rfl (wl_assign rfl rfl (WL.nil (fun a ha => hK131 _ _ (W.ret ?_) a ha)))
      have hr := Option.some.inj hF
      subst hr
      exact rets (vs := [(.agg #[v60, v63, (.int .i64 y65), (.int .i64 y66), (.int .i64 y67), v69, v72]), (.int .i64 (List.length x1 : Int)), (.bool true)]) hQ rfl ⟨rv_cell (i := 0) tf_29 rfl hS134 rfl rfl rfl, rv_tmp rfl, rv_tmp rfl, trivial⟩ ⟨v60, F61, v63, F64, v69, F70, v72, F73, rfl, hB133, hS134.sel [1, 2, 3, 4] rfl⟩
 refine W.region (wl_load_blk (i := 1) (vs := [v0_0, v0_1, (.int .i64 x0.1.2.2.1), (.int .i64 x0.1.2.2.2), (.int .i64 x0.2.1), v0_2, v0_3]) (v := (.agg #[v0_0, v0_1, (.int .i64 x0.1.2.2.1), (.int .i64 x0.1.2.2.2), (.int .i64 x0.2.1), v0_2, v0_3])) tf_29 rfl rfl hS11 rfl rfl rfl ?_)
 obtain ⟨u136, hu136, hF⟩ := bindE hF
 refine wl_call rfl Tryz.call31 (C_spec_mnGood w8 x0 v0_0 (h0_0.ro hB10) v0_1 (h0_1.ro hB10) v0_2 (h0_2.ro hB10) v0_3 (h0_3.ro hB10) _ hu136) rfl ?_
 rintro _ w137 ⟨rfl, hb138⟩
 refine ⟨_, rfl, ?_⟩
 have hB139 := hB10.trans (hb138.mono hB10.size)
 have hS140 := hS11.below hb138
 refine wl_not rfl rfl (wl_move rfl rfl ?_)
 rcases bE (!u136) with h142 | h142
 ·replace hF := ifP h142 hF
  refine wl_off rfl rfl rfl h142 (wl_off rfl rfl rfl h142 (wl_off rfl rfl rfl h142 (wl_pick_t rfl rfl h142 rfl (WL.nil ?_))))
  exact fun a ha => hJ19 (true) _ hF hB139 (hS140.sel [1, 0] rfl) a (ha.sub ⟨rfl, rfl, rfl, rfl, trivial⟩)
 ·replace hF := ifN h142 hF
  refine wl_on rfl rfl h142 (wl_move rfl rfl (wl_on rfl rfl h142 (wl_lenr (e := ty_59) (l := x1) Tryz.underlying30 rfl rfl h1_0 (wl_on rfl rfl h142 (wl_gtr rfl rfl rfl (wl_pick_f rfl rfl h142 rfl (WL.nil ?_)))))))
  exact fun a ha => hJ19 ((decide (100 < (List.length x1 : Int)))) _ hF hB139 (hS140.sel [1, 0] rfl) a (ha.sub ⟨rfl, rfl, rfl, rfl, trivial⟩)
theorem C_laws_pSameSpots (w0 : World) (x0 : (List (Int × Int))) (v0_0 : Value) (h0_0 : rdS ty_42 (· < w0.heap.size) w0 v0_0 x0) (x1 : (List (Int × Int))) (v1_0 : Value) (h1_0 : rdS ty_42 (· < w0.heap.size) w0 v1_0 x1) (r : Bool) (hF : F_laws_pSameSpots x0 x1 = some r) :
  Calls Tryz.prog 81 [v0_0, v1_0].toArray w0 fun e w' => e = .returned (.bool r) ∧ Below w0.heap.size w0 w' := by
 refine calls_mk' Tryz.func81 rfl Tryz.ntmps81 rfl rfl fun Q hQ hP => ?_
 have hB : Below w0.heap.size w0 w0 := Below.refl _ _
 have hS : Sep w0.heap.size w0 [] := Sep.nil _ _
 unfold F_laws_pSameSpots at hF
 refine W.seq fun K1 hK1 => W.region (wl_assign rfl rfl (WL.nil (fun a ha => hK1 _ _ (W.seq fun K2 hK2 => (W.seq fun K3 hK3 => (W.region (wl_move rfl rfl (wl_lenr (e := ty_42) (l := x0) Tryz.underlying66 rfl rfl h0_0 (wl_move rfl rfl (wl_lenr (e := ty_42) (l := x1) Tryz.underlying66 rfl rfl h1_0 (wl_neq rfl rfl rfl (WL.nil ?_))))))))) a ha)))
 refine fun a ha => hK3 _ _ (W.cond rfl (fun h4 => ?_) (fun h4 => ?_)) a ha
 ·replace hF := ifP h4 hF
  refine W.seq fun K5 hK5 => W.region (wl_assign rfl rfl (WL.nil (fun a ha => hK5 _ _ (W.ret ?_) a ha)))
  have hr := Option.some.inj hF
  subst hr
  exact rets (vs := [(.bool false)]) hQ rfl ⟨rv_tmp rfl, trivial⟩ ⟨rfl, hB⟩
 ·replace hF := ifN h4 hF
  refine W.skip fun a ha => hK2 _ _ (W.seq fun K6 hK6 => (W.seq fun K7 hK7 => (W.region (wl_move rfl rfl (wl_lenr (e := ty_42) (l := x0) Tryz.underlying66 rfl rfl h0_0 (wl_move rfl rfl (WL.nil (fun a ha => hK7 _ _ (W.block (W.loopk (fun m a w8 => ∃ (y11 : Int), St 26 [(0, v0_0), (1, v1_0), (12, (.int .i64 (List.length x0 : Int))), (13, (.int .i64 y11))] a ∧ Below w0.heap.size w0 w8 ∧ Sep w0.heap.size w8 [] ∧ F_laws_pSameSpots_L1 x0 x1 m y11 = some r) FU ?_ ?_)) a ha)))))))) a ha
  ·
   exact fun a ha => ⟨0, ha.sub ⟨rfl, rfl, rfl, rfl, trivial⟩, hB, (hS.sel [] rfl), hF⟩
  ·
   rintro m14 a w8 ⟨y11, ha, hB9, hS10, hF⟩ KL13 hKL13
   refine W.at ?_ ha
   cases m14 with
   | zero => exact noneE hF
   | succ m14 =>
    obtain ⟨nx12, hnx12⟩ : ∃ k, k = F_laws_pSameSpots_L1 x0 x1 m14 := ⟨_, rfl⟩
    rw [F_laws_pSameSpots_L1, ← hnx12] at hF
    refine W.seq fun K15 hK15 => W.region (wl_lss rfl rfl rfl (WL.nil (fun a ha => hK15 _ _ (W.seq fun K16 hK16 => (W.cond rfl (fun h17 => ?_) (fun h17 => ?_))) a ha)))
    ·replace hF := ifP h17 hF
     refine W.skip fun a ha => hK16 _ _ (W.seq fun K18 hK18 => (W.block (W.seq fun K19 hK19 => (W.region (wl_move rfl rfl (wl_assign rfl rfl (WL.nil (fun a ha => hK19 _ _ (W.seq fun K20 hK20 => (W.regionH mixed_ [] hB9 hS10 ?_)) a ha)))))))) a ha
     intro w21 hb22 hB23 hS24
     have hSW25 := KeepX.refl w21 []
     refine WH.tk 0 rfl hP hSW25 (pr_move rfl rfl (WH.tk 1 rfl hP hSW25 (pr_move rfl rfl ?_)))
     obtain ⟨u26, hu26, hF⟩ := bindE hF
     refine WH.tk 2 rfl hP hSW25 (pr_index (e := ty_42) Tryz.underlying66 rfl rfl rfl h0_0 hu26 ?_)
     rintro p27 _ rfl hp28
     refine WH.tk 3 rfl hP hSW25 (pr_load_p (vs := [(.int .i64 u26.1), (.int .i64 u26.2)]) (v := (.agg #[(.int .i64 u26.1), (.int .i64 u26.2)])) tf_42 rfl rfl (hp28.kx hB23 (by simp)) rfl rfl (WH.tk 4 rfl hP hSW25 (pr_move rfl rfl (WH.tk 5 rfl hP hSW25 (pr_move rfl rfl ?_)))))
     obtain ⟨u29, hu29, hF⟩ := bindE hF
     refine WH.tk 6 rfl hP hSW25 (pr_index (e := ty_42) Tryz.underlying66 rfl rfl rfl h1_0 hu29 ?_)
     rintro p30 _ rfl hp31
     refine WH.tk 7 rfl hP hSW25 (pr_load_p (vs := [(.int .i64 u29.1), (.int .i64 u29.2)]) (v := (.agg #[(.int .i64 u29.1), (.int .i64 u29.2)])) tf_42 rfl rfl (hp31.kx hB23 (by simp)) rfl rfl (WH.tk 8 rfl hP hSW25 (pr_nes Tryz.eqGuardType42 (eq_42 u26 u29) rfl rfl rfl (WH.done (by kernel_rfl) (fun a ha => hK20 _ _ (W.cond rfl (fun h32 => ?_) (fun h32 => ?_)) a ha)))))
     ·replace hF := ifP h32 hF
      refine W.seq fun K33 hK33 => W.region (wl_assign rfl rfl (WL.nil (fun a ha => hK33 _ _ (W.ret ?_) a ha)))
      have hr := Option.some.inj hF
      subst hr
      exact rets (vs := [(.bool false)]) hQ rfl ⟨rv_tmp rfl, trivial⟩ ⟨rfl, hB23⟩
     ·replace hF := ifN h32 hF
      refine W.skip fun a ha => hK18 _ _ (W.region (wl_add rfl rfl rfl (wl_move rfl rfl (WL.nil ?_)))) a ha
      rw [hnx12] at hF
      exact fun a ha => hKL13 a _ m14 (Nat.lt_succ_self m14) ⟨(w64 (y11 + 1)), ha.sub ⟨rfl, rfl, rfl, rfl, trivial⟩, hB23, (hS24.sel [] rfl), hF⟩
    ·replace hF := ifN h17 hF
     refine W.exit fun a ha => hK6 _ _ (W.seq fun K34 hK34 => (W.region (wl_assign rfl rfl (WL.nil (fun a ha => hK34 _ _ (W.ret ?_) a ha))))) a ha
     have hr := Option.some.inj hF
     subst hr
     exact rets (vs := [(.bool true)]) hQ rfl ⟨rv_tmp rfl, trivial⟩ ⟨rfl, hB9⟩
theorem C_laws_pSameCharts (w0 : World) (x0 : (List (List (Int × Int)))) (v0_0 : Value) (h0_0 : rdS ty_66 (· < w0.heap.size) w0 v0_0 x0) (x1 : (List (List (Int × Int)))) (v1_0 : Value) (h1_0 : rdS ty_66 (· < w0.heap.size) w0 v1_0 x1) (r : Bool) (hF : F_laws_pSameCharts x0 x1 = some r) :
  Calls Tryz.prog 63 [v0_0, v1_0].toArray w0 fun e w' => e = .returned (.bool r) ∧ Below w0.heap.size w0 w' := by
 refine calls_mk' Tryz.func63 rfl Tryz.ntmps63 rfl rfl fun Q hQ hP => ?_
 have hB : Below w0.heap.size w0 w0 := Below.refl _ _
 have hS : Sep w0.heap.size w0 [] := Sep.nil _ _
 unfold F_laws_pSameCharts at hF
 refine W.seq fun K1 hK1 => W.region (wl_assign rfl rfl (WL.nil (fun a ha => hK1 _ _ (W.seq fun K2 hK2 => (W.seq fun K3 hK3 => (W.region (wl_move rfl rfl (wl_lenr (e := ty_66) (l := x0) Tryz.underlying24 rfl rfl h0_0 (wl_move rfl rfl (wl_lenr (e := ty_66) (l := x1) Tryz.underlying24 rfl rfl h1_0 (wl_neq rfl rfl rfl (WL.nil ?_))))))))) a ha)))
 refine fun a ha => hK3 _ _ (W.cond rfl (fun h4 => ?_) (fun h4 => ?_)) a ha
 ·replace hF := ifP h4 hF
  refine W.seq fun K5 hK5 => W.region (wl_assign rfl rfl (WL.nil (fun a ha => hK5 _ _ (W.ret ?_) a ha)))
  have hr := Option.some.inj hF
  subst hr
  exact rets (vs := [(.bool false)]) hQ rfl ⟨rv_tmp rfl, trivial⟩ ⟨rfl, hB⟩
 ·replace hF := ifN h4 hF
  refine W.skip fun a ha => hK2 _ _ (W.seq fun K6 hK6 => (W.seq fun K7 hK7 => (W.region (wl_move rfl rfl (wl_lenr (e := ty_66) (l := x0) Tryz.underlying24 rfl rfl h0_0 (wl_move rfl rfl (WL.nil (fun a ha => hK7 _ _ (W.block (W.loopk (fun m a w8 => ∃ (y11 : Int), St 27 [(0, v0_0), (1, v1_0), (12, (.int .i64 (List.length x0 : Int))), (13, (.int .i64 y11))] a ∧ Below w0.heap.size w0 w8 ∧ Sep w0.heap.size w8 [] ∧ F_laws_pSameCharts_L1 x0 x1 m y11 = some r) FU ?_ ?_)) a ha)))))))) a ha
  ·
   exact fun a ha => ⟨0, ha.sub ⟨rfl, rfl, rfl, rfl, trivial⟩, hB, (hS.sel [] rfl), hF⟩
  ·
   rintro m14 a w8 ⟨y11, ha, hB9, hS10, hF⟩ KL13 hKL13
   refine W.at ?_ ha
   cases m14 with
   | zero => exact noneE hF
   | succ m14 =>
    obtain ⟨nx12, hnx12⟩ : ∃ k, k = F_laws_pSameCharts_L1 x0 x1 m14 := ⟨_, rfl⟩
    rw [F_laws_pSameCharts_L1, ← hnx12] at hF
    refine W.seq fun K15 hK15 => W.region (wl_lss rfl rfl rfl (WL.nil (fun a ha => hK15 _ _ (W.seq fun K16 hK16 => (W.cond rfl (fun h17 => ?_) (fun h17 => ?_))) a ha)))
    ·replace hF := ifP h17 hF
     refine W.skip fun a ha => hK16 _ _ (W.seq fun K18 hK18 => (W.block (W.seq fun K19 hK19 => (W.region (wl_move rfl rfl (wl_assign rfl rfl (WL.nil (fun a ha => hK19 _ _ (W.seq fun K20 hK20 => (W.regionH mixed_ [] hB9 hS10 ?_)) a ha)))))))) a ha
     intro w21 hb22 hB23 hS24
     have hSW25 := KeepX.refl w21 []
     refine WH.tk 0 rfl hP hSW25 (pr_move rfl rfl (WH.tk 1 rfl hP hSW25 (pr_move rfl rfl ?_)))
     obtain ⟨u26, hu26, hF⟩ := bindE hF
     refine WH.tk 2 rfl hP hSW25 (pr_index (e := ty_66) Tryz.underlying24 rfl rfl rfl h0_0 hu26 ?_)
     rintro p27 _ ⟨v29, rfl, hv30⟩ hp28
     refine WH.tk 3 rfl hP hSW25 (pr_load_p (vs := [v29]) (v := v29) tf_66 rfl rfl (hp28.kx hB23 (by simp)) rfl rfl (WH.tk 4 rfl hP hSW25 (pr_move rfl rfl (WH.tk 5 rfl hP hSW25 (pr_move rfl rfl ?_)))))
     obtain ⟨u31, hu31, hF⟩ := bindE hF
     refine WH.tk 6 rfl hP hSW25 (pr_index (e := ty_66) Tryz.underlying24 rfl rfl rfl h1_0 hu31 ?_)
     rintro p32 _ ⟨v34, rfl, hv35⟩ hp33
     refine WH.tk 7 rfl hP hSW25 (pr_load_p (vs := [v34]) (v := v34) tf_66 rfl rfl (hp33.kx hB23 (by simp)) rfl rfl (WH.on1 8 rfl ?_))
     obtain ⟨u36, hu36, hF⟩ := bindE hF
     refine wl_call rfl Tryz.call81 (C_laws_pSameSpots w21 u26 v29 (hv30.ro hB23) u31 v34 (hv35.ro hB23) _ hu36) rfl ?_
     rintro _ w37 ⟨rfl, hb38⟩
     refine ⟨_, rfl, ?_⟩
     have hB39 := hB23.trans (hb38.mono hB23.size)
     have hS40 := hS24.below hb38
     have hSW42 := hSW25.ext hb38
     refine WL.nil (WH.ret hSW42 (WH.tk 9 rfl hP hSW42 (pr_not rfl rfl (WH.done (by kernel_rfl) (fun a ha => hK20 _ _ (W.cond rfl (fun h43 => ?_) (fun h43 => ?_)) a ha)))))
     ·replace hF := ifP h43 hF
      refine W.seq fun K44 hK44 => W.region (wl_assign rfl rfl (WL.nil (fun a ha => hK44 _ _ (W.ret ?_) a ha)))
      have hr := Option.some.inj hF
      subst hr
      exact rets (vs := [(.bool false)]) hQ rfl ⟨rv_tmp rfl, trivial⟩ ⟨rfl, hB39⟩
     ·replace hF := ifN h43 hF
      refine W.skip fun a ha => hK18 _ _ (W.region (wl_add rfl rfl rfl (wl_move rfl rfl (WL.nil ?_)))) a ha
      rw [hnx12] at hF
      exact fun a ha => hKL13 a _ m14 (Nat.lt_succ_self m14) ⟨(w64 (y11 + 1)), ha.sub ⟨rfl, rfl, rfl, rfl, trivial⟩, hB39, (hS40.sel [] rfl), hF⟩
    ·replace hF := ifN h17 hF
     refine W.exit fun a ha => hK6 _ _ (W.seq fun K45 hK45 => (W.region (wl_assign rfl rfl (WL.nil (fun a ha => hK45 _ _ (W.ret ?_) a ha))))) a ha
     have hr := Option.some.inj hF
     subst hr
     exact rets (vs := [(.bool true)]) hQ rfl ⟨rv_tmp rfl, trivial⟩ ⟨rfl, hB9⟩
theorem C_laws_sameInts (w0 : World) (x0 : (List Int)) (v0_0 : Value) (h0_0 : rdS ty_3 (· < w0.heap.size) w0 v0_0 x0) (x1 : (List Int)) (v1_0 : Value) (h1_0 : rdS ty_3 (· < w0.heap.size) w0 v1_0 x1) (r : Bool) (hF : F_laws_sameInts x0 x1 = some r) :
  Calls Tryz.prog 35 [v0_0, v1_0].toArray w0 fun e w' => e = .returned (.bool r) ∧ Below w0.heap.size w0 w' := by
 refine calls_mk' Tryz.func35 rfl Tryz.ntmps35 rfl rfl fun Q hQ hP => ?_
 have hB : Below w0.heap.size w0 w0 := Below.refl _ _
 have hS : Sep w0.heap.size w0 [] := Sep.nil _ _
 unfold F_laws_sameInts at hF
 refine W.seq fun K1 hK1 => W.region (wl_assign rfl rfl (WL.nil (fun a ha => hK1 _ _ (W.seq fun K2 hK2 => (W.seq fun K3 hK3 => (W.region (wl_move rfl rfl (wl_lenr (e := ty_3) (l := x0) Tryz.underlying25 rfl rfl h0_0 (wl_move rfl rfl (wl_lenr (e := ty_3) (l := x1) Tryz.underlying25 rfl rfl h1_0 (wl_neq rfl rfl rfl (WL.nil ?_))))))))) a ha)))
 refine fun a ha => hK3 _ _ (W.cond rfl (fun h4 => ?_) (fun h4 => ?_)) a ha
 ·replace hF := ifP h4 hF
  refine W.seq fun K5 hK5 => W.region (wl_assign rfl rfl (WL.nil (fun a ha => hK5 _ _ (W.ret ?_) a ha)))
  have hr := Option.some.inj hF
  subst hr
  exact rets (vs := [(.bool false)]) hQ rfl ⟨rv_tmp rfl, trivial⟩ ⟨rfl, hB⟩
 ·replace hF := ifN h4 hF
  refine W.skip fun a ha => hK2 _ _ (W.seq fun K6 hK6 => (W.seq fun K7 hK7 => (W.region (wl_move rfl rfl (wl_lenr (e := ty_3) (l := x0) Tryz.underlying25 rfl rfl h0_0 (wl_move rfl rfl (WL.nil (fun a ha => hK7 _ _ (W.block (W.loopk (fun m a w8 => ∃ (y11 : Int), St 26 [(0, v0_0), (1, v1_0), (12, (.int .i64 (List.length x0 : Int))), (13, (.int .i64 y11))] a ∧ Below w0.heap.size w0 w8 ∧ Sep w0.heap.size w8 [] ∧ F_laws_sameInts_L1 x0 x1 m y11 = some r) FU ?_ ?_)) a ha)))))))) a ha
  ·
   exact fun a ha => ⟨0, ha.sub ⟨rfl, rfl, rfl, rfl, trivial⟩, hB, (hS.sel [] rfl), hF⟩
  ·
   rintro m14 a w8 ⟨y11, ha, hB9, hS10, hF⟩ KL13 hKL13
   refine W.at ?_ ha
   cases m14 with
   | zero => exact noneE hF
   | succ m14 =>
    obtain ⟨nx12, hnx12⟩ : ∃ k, k = F_laws_sameInts_L1 x0 x1 m14 := ⟨_, rfl⟩
    rw [F_laws_sameInts_L1, ← hnx12] at hF
    refine W.seq fun K15 hK15 => W.region (wl_lss rfl rfl rfl (WL.nil (fun a ha => hK15 _ _ (W.seq fun K16 hK16 => (W.cond rfl (fun h17 => ?_) (fun h17 => ?_))) a ha)))
    ·replace hF := ifP h17 hF
     refine W.skip fun a ha => hK16 _ _ (W.seq fun K18 hK18 => (W.block (W.seq fun K19 hK19 => (W.region (wl_move rfl rfl (wl_assign rfl rfl (WL.nil (fun a ha => hK19 _ _ (W.seq fun K20 hK20 => (W.regionH mixed_ [] hB9 hS10 ?_)) a ha)))))))) a ha
     intro w21 hb22 hB23 hS24
     have hSW25 := KeepX.refl w21 []
     refine WH.tk 0 rfl hP hSW25 (pr_move rfl rfl (WH.tk 1 rfl hP hSW25 (pr_move rfl rfl ?_)))
     obtain ⟨u26, hu26, hF⟩ := bindE hF
     refine WH.tk 2 rfl hP hSW25 (pr_index (e := ty_3) Tryz.underlying25 rfl rfl rfl h0_0 hu26 ?_)
     rintro p27 _ rfl hp28
     refine WH.tk 3 rfl hP hSW25 (pr_load_p (vs := [(.int .i64 u26)]) (v := (.int .i64 u26)) tf_3 rfl rfl (hp28.kx hB23 (by simp)) rfl rfl (WH.tk 4 rfl hP hSW25 (pr_move rfl rfl (WH.tk 5 rfl hP hSW25 (pr_move rfl rfl ?_)))))
     obtain ⟨u29, hu29, hF⟩ := bindE hF
     refine WH.tk 6 rfl hP hSW25 (pr_index (e := ty_3) Tryz.underlying25 rfl rfl rfl h1_0 hu29 ?_)
     rintro p30 _ rfl hp31
     refine WH.tk 7 rfl hP hSW25 (pr_load_p (vs := [(.int .i64 u29)]) (v := (.int .i64 u29)) tf_3 rfl rfl (hp31.kx hB23 (by simp)) rfl rfl (WH.tk 8 rfl hP hSW25 (pr_neq rfl rfl rfl (WH.done (by kernel_rfl) (fun a ha => hK20 _ _ (W.cond rfl (fun h32 => ?_) (fun h32 => ?_)) a ha)))))
     ·replace hF := ifP h32 hF
      refine W.seq fun K33 hK33 => W.region (wl_assign rfl rfl (WL.nil (fun a ha => hK33 _ _ (W.ret ?_) a ha)))
      have hr := Option.some.inj hF
      subst hr
      exact rets (vs := [(.bool false)]) hQ rfl ⟨rv_tmp rfl, trivial⟩ ⟨rfl, hB23⟩
     ·replace hF := ifN h32 hF
      refine W.skip fun a ha => hK18 _ _ (W.region (wl_add rfl rfl rfl (wl_move rfl rfl (WL.nil ?_)))) a ha
      rw [hnx12] at hF
      exact fun a ha => hKL13 a _ m14 (Nat.lt_succ_self m14) ⟨(w64 (y11 + 1)), ha.sub ⟨rfl, rfl, rfl, rfl, trivial⟩, hB23, (hS24.sel [] rfl), hF⟩
    ·replace hF := ifN h17 hF
     refine W.exit fun a ha => hK6 _ _ (W.seq fun K34 hK34 => (W.region (wl_assign rfl rfl (WL.nil (fun a ha => hK34 _ _ (W.ret ?_) a ha))))) a ha
     have hr := Option.some.inj hF
     subst hr
     exact rets (vs := [(.bool true)]) hQ rfl ⟨rv_tmp rfl, trivial⟩ ⟨rfl, hB9⟩
theorem C_laws_pSameShow (w0 : World) (x0 : ((List (List (Int × Int))) × (List Int) × Int × Int)) (v0_0 : Value) (h0_0 : rdS ty_66 (· < w0.heap.size) w0 v0_0 x0.1) (v0_1 : Value) (h0_1 : rdS ty_3 (· < w0.heap.size) w0 v0_1 x0.2.1) (x1 : ((List (List (Int × Int))) × (List Int) × Int × Int)) (v1_0 : Value) (h1_0 : rdS ty_66 (· < w0.heap.size) w0 v1_0 x1.1) (v1_1 : Value) (h1_1 : rdS ty_3 (· < w0.heap.size) w0 v1_1 x1.2.1) (r : Bool) (hF : F_laws_pSameShow x0 x1 = some r) :
  Calls Tryz.prog 34 [(.agg #[v0_0, v0_1, (.int .i64 x0.2.2.1), (.int .i64 x0.2.2.2)]), (.agg #[v1_0, v1_1, (.int .i64 x1.2.2.1), (.int .i64 x1.2.2.2)])].toArray w0 fun e w' => e = .returned (.bool r) ∧ Below w0.heap.size w0 w' := by
 refine calls_mk' Tryz.func34 rfl Tryz.ntmps34 rfl rfl fun Q hQ hP => ?_
 have hB : Below w0.heap.size w0 w0 := Below.refl _ _
 have hS : Sep w0.heap.size w0 [] := Sep.nil _ _
 unfold F_laws_pSameShow at hF
 refine W.seq fun K1 hK1 => W.region (wl_box (cs := [v0_0, v0_1, (.int .i64 x0.2.2.1), (.int .i64 x0.2.2.2)]) rfl rfl rfl hB hS ?_)
 intro b2 w3 hb4 hB5 hS6
 refine wl_box (cs := [v1_0, v1_1, (.int .i64 x1.2.2.1), (.int .i64 x1.2.2.2)]) rfl rfl rfl hB5 hS6 ?_
 intro b7 w8 hb9 hB10 hS11
 refine wl_assign rfl rfl (WL.nil (fun a ha => hK1 _ _ (W.seq fun K12 hK12 => ?_) a ha))
 obtain ⟨k17, hk17, hF⟩ := jE1 hF
 have hJ18 : ∀ (y16 : Bool) (w13 : World) (_ : k17 y16 = some r) (_ : Below w0.heap.size w0 w13) (_ : Sep w0.heap.size w13 []), ∀ a, St 31 [(4, (.bool y16))] a → K12 a w13 := by
  intro y16 w13 hF hB14 hS15
  subst hk17
  refine fun a ha => hK12 _ _ (W.ret ?_) a ha
  have hr := Option.some.inj hF
  subst hr
  exact rets (vs := [(.bool y16)]) hQ rfl ⟨rv_tmp rfl, trivial⟩ ⟨rfl, hB14⟩
 refine W.region (wl_field (o := 0) (off' := 0) ff_27_0 rfl rfl rfl (wl_load_blk (i := 1) (vs := [v0_0]) (v := v0_0) tf_24 rfl rfl hS11 rfl rfl rfl (wl_field (o := 0) (off' := 0) ff_27_0 rfl rfl rfl (wl_load_blk (i := 0) (vs := [v1_0]) (v := v1_0) tf_24 rfl rfl hS11 rfl rfl rfl ?_))))
 obtain ⟨u19, hu19, hF⟩ := bindE hF
 refine wl_call rfl Tryz.call63 (C_laws_pSameCharts w8 x0.1 v0_0 (h0_0.ro hB10) x1.1 v1_0 (h1_0.ro hB10) _ hu19) rfl ?_
 rintro _ w20 ⟨rfl, hb21⟩
 refine ⟨_, rfl, ?_⟩
 have hB22 := hB10.trans (hb21.mono hB10.size)
 have hS23 := hS11.below hb21
 refine wl_move rfl rfl ?_
 rcases bE u19 with h25 | h25
 ·replace hF := ifP h25 hF
  refine wl_on rfl rfl h25 (wl_field (o := 1) (off' := 1) ff_27_1 rfl rfl rfl (wl_on rfl rfl h25 (wl_load_blk (i := 1) (vs := [v0_1]) (v := v0_1) tf_25 rfl rfl hS23 rfl rfl rfl (wl_on rfl rfl h25 (wl_field (o := 1) (off' := 1) ff_27_1 rfl rfl rfl (wl_on rfl rfl h25 (wl_load_blk (i := 0) (vs := [v1_1]) (v := v1_1) tf_25 rfl rfl hS23 rfl rfl rfl (wl_on rfl rfl h25 ?_))))))))
  obtain ⟨u26, hu26, hF⟩ := bindE hF
  refine wl_call rfl Tryz.call35 (C_laws_sameInts w20 x0.2.1 v0_1 (h0_1.ro hB22) x1.2.1 v1_1 (h1_1.ro hB22) _ hu26) rfl ?_
  rintro _ w27 ⟨rfl, hb28⟩
  refine ⟨_, rfl, ?_⟩
  have hB29 := hB22.trans (hb28.mono hB22.size)
  have hS30 := hS23.below hb28
  refine wl_pick_t rfl rfl h25 rfl (wl_move rfl rfl ?_)
  rcases bE u26 with h32 | h32
  ·replace hF := ifP h32 hF
   refine wl_on rfl rfl h32 (wl_field (o := 2) (off' := 2) ff_27_2 rfl rfl rfl (wl_on rfl rfl h32 (wl_load_blk (i := 1) (vs := [(.int .i64 x0.2.2.1)]) (v := (.int .i64 x0.2.2.1)) tf_3 rfl rfl hS30 rfl rfl rfl (wl_on rfl rfl h32 (wl_field (o := 2) (off' := 2) ff_27_2 rfl rfl rfl (wl_on rfl rfl h32 (wl_load_blk (i := 0) (vs := [(.int .i64 x1.2.2.1)]) (v := (.int .i64 x1.2.2.1)) tf_3 rfl rfl hS30 rfl rfl rfl (wl_on rfl rfl h32 (wl_eql rfl rfl rfl (wl_pick_t rfl rfl h32 rfl (wl_move rfl rfl ?_)))))))))))
   rcases bE (x0.2.2.1 == x1.2.2.1) with h33 | h33
   ·replace hF := ifP h33 hF
    refine wl_on rfl rfl h33 (wl_field (o := 3) (off' := 3) ff_27_3 rfl rfl rfl (wl_on rfl rfl h33 (wl_load_blk (i := 1) (vs := [(.int .i64 x0.2.2.2)]) (v := (.int .i64 x0.2.2.2)) tf_3 rfl rfl hS30 rfl rfl rfl (wl_on rfl rfl h33 (wl_field (o := 3) (off' := 3) ff_27_3 rfl rfl rfl (wl_on rfl rfl h33 (wl_load_blk (i := 0) (vs := [(.int .i64 x1.2.2.2)]) (v := (.int .i64 x1.2.2.2)) tf_3 rfl rfl hS30 rfl rfl rfl (wl_on rfl rfl h33 (wl_eql rfl rfl rfl (wl_pick_t rfl rfl h33 rfl (wl_assign rfl rfl (WL.nil ?_))))))))))))
    exact fun a ha => hJ18 ((x0.2.2.2 == x1.2.2.2)) _ hF hB29 (hS30.sel [] rfl) a (ha.sub ⟨rfl, trivial⟩)
   ·replace hF := ifN h33 hF
    refine wl_off rfl rfl rfl h33 (wl_off rfl rfl rfl h33 (wl_off rfl rfl rfl h33 (wl_off rfl rfl rfl h33 (wl_off rfl rfl rfl h33 (wl_pick_f rfl rfl h33 rfl (wl_assign rfl rfl (WL.nil ?_)))))))
    exact fun a ha => hJ18 (false) _ hF hB29 (hS30.sel [] rfl) a (ha.sub ⟨rfl, trivial⟩)
  ·replace hF := ifN h32 hF
   refine wl_off rfl rfl rfl h32 (wl_off rfl rfl rfl h32 (wl_off rfl rfl rfl h32 (wl_off rfl rfl rfl h32 (wl_off rfl rfl rfl h32 (wl_pick_f rfl rfl h32 rfl (wl_move rfl rfl (wl_off rfl rfl rfl rfl (wl_off rfl rfl rfl rfl (wl_off rfl rfl rfl rfl (wl_off rfl rfl rfl rfl (wl_off rfl rfl rfl rfl (wl_pick_f rfl rfl rfl rfl (wl_assign rfl rfl ?_)))))))))))))
   refine WL.nil ?_
   exact fun a ha => hJ18 (false) _ hF hB29 (hS30.sel [] rfl) a (ha.sub ⟨rfl, trivial⟩)
 ·replace hF := ifN h25 hF
  refine wl_off rfl rfl rfl h25 (wl_off rfl rfl rfl h25 (wl_off rfl rfl rfl h25 (wl_off rfl rfl rfl h25 (wl_off rfl rfl rfl h25 (wl_pick_f rfl rfl h25 rfl (wl_move rfl rfl (wl_off rfl rfl rfl rfl (wl_off rfl rfl rfl rfl (wl_off rfl rfl rfl rfl (wl_off rfl rfl rfl rfl (wl_off rfl rfl rfl rfl (wl_pick_f rfl rfl rfl rfl (wl_move rfl rfl ?_)))))))))))))
  refine wl_off rfl rfl rfl rfl (wl_off rfl rfl rfl rfl (wl_off rfl rfl rfl rfl (wl_off rfl rfl rfl rfl (wl_off rfl rfl rfl rfl (wl_pick_f rfl rfl rfl rfl (wl_assign rfl rfl (WL.nil ?_)))))))
  exact fun a ha => hJ18 (false) _ hF hB22 (hS23.sel [] rfl) a (ha.sub ⟨rfl, trivial⟩)
theorem C_laws_pSameMarch (w0 : World) (x0 : (((List (List (Int × Int))) × (List Int) × Int × Int) × Int × (List Int) × (List Int))) (v0_0 : Value) (h0_0 : rdS ty_66 (· < w0.heap.size) w0 v0_0 x0.1.1) (v0_1 : Value) (h0_1 : rdS ty_3 (· < w0.heap.size) w0 v0_1 x0.1.2.1) (v0_2 : Value) (h0_2 : rdS ty_3 (· < w0.heap.size) w0 v0_2 x0.2.2.1) (v0_3 : Value) (h0_3 : rdS ty_3 (· < w0.heap.size) w0 v0_3 x0.2.2.2) (x1 : (((List (List (Int × Int))) × (List Int) × Int × Int) × Int × (List Int) × (List Int))) (v1_0 : Value) (h1_0 : rdS ty_66 (· < w0.heap.size) w0 v1_0 x1.1.1) (v1_1 : Value) (h1_1 : rdS ty_3 (· < w0.heap.size) w0 v1_1 x1.1.2.1) (v1_2 : Value) (h1_2 : rdS ty_3 (· < w0.heap.size) w0 v1_2 x1.2.2.1) (v1_3 : Value) (h1_3 : rdS ty_3 (· < w0.heap.size) w0 v1_3 x1.2.2.2) (r : Bool) (hF : F_laws_pSameMarch x0 x1 = some r) :
  Calls Tryz.prog 8 [(.agg #[v0_0, v0_1, (.int .i64 x0.1.2.2.1), (.int .i64 x0.1.2.2.2), (.int .i64 x0.2.1), v0_2, v0_3]), (.agg #[v1_0, v1_1, (.int .i64 x1.1.2.2.1), (.int .i64 x1.1.2.2.2), (.int .i64 x1.2.1), v1_2, v1_3])].toArray w0 fun e w' => e = .returned (.bool r) ∧ Below w0.heap.size w0 w' := by
 refine calls_mk' Tryz.func8 rfl Tryz.ntmps8 rfl rfl fun Q hQ hP => ?_
 have hB : Below w0.heap.size w0 w0 := Below.refl _ _
 have hS : Sep w0.heap.size w0 [] := Sep.nil _ _
 unfold F_laws_pSameMarch at hF
 refine W.seq fun K1 hK1 => W.region (wl_box (cs := [v0_0, v0_1, (.int .i64 x0.1.2.2.1), (.int .i64 x0.1.2.2.2), (.int .i64 x0.2.1), v0_2, v0_3]) rfl rfl rfl hB hS ?_)
 intro b2 w3 hb4 hB5 hS6
 refine wl_box (cs := [v1_0, v1_1, (.int .i64 x1.1.2.2.1), (.int .i64 x1.1.2.2.2), (.int .i64 x1.2.1), v1_2, v1_3]) rfl rfl rfl hB5 hS6 ?_
 intro b7 w8 hb9 hB10 hS11
 refine wl_assign rfl rfl (WL.nil (fun a ha => hK1 _ _ (W.seq fun K12 hK12 => ?_) a ha))
 obtain ⟨k17, hk17, hF⟩ := jE1 hF
 have hJ18 : ∀ (y16 : Bool) (w13 : World) (_ : k17 y16 = some r) (_ : Below w0.heap.size w0 w13) (_ : Sep w0.heap.size w13 []), ∀ a, St 31 [(4, (.bool y16))] a → K12 a w13 := by
  intro y16 w13 hF hB14 hS15
  subst hk17
  refine fun a ha => hK12 _ _ (W.ret ?_) a ha
  have hr := Option.some.inj hF
  subst hr
  exact rets (vs := [(.bool y16)]) hQ rfl ⟨rv_tmp rfl, trivial⟩ ⟨rfl, hB14⟩
 refine W.region (wl_field (o := 0) (off' := 0) ff_29_0 rfl rfl rfl (wl_load_blk (i := 1) (vs := [v0_0, v0_1, (.int .i64 x0.1.2.2.1), (.int .i64 x0.1.2.2.2)]) (v := (.agg #[v0_0, v0_1, (.int .i64 x0.1.2.2.1), (.int .i64 x0.1.2.2.2)])) tf_27 rfl rfl hS11 rfl rfl rfl (wl_field (o := 0) (off' := 0) ff_29_0 rfl rfl rfl (wl_load_blk (i := 0) (vs := [v1_0, v1_1, (.int .i64 x1.1.2.2.1), (.int .i64 x1.1.2.2.2)]) (v := (.agg #[v1_0, v1_1, (.int .i64 x1.1.2.2.1), (.int .i64 x1.1.2.2.2)])) tf_27 rfl rfl hS11 rfl rfl rfl ?_))))
 obtain ⟨u19, hu19, hF⟩ := bindE hF
 refine wl_call rfl Tryz.call34 (C_laws_pSameShow w8 x0.1 v0_0 (h0_0.ro hB10) v0_1 (h0_1.ro hB10) x1.1 v1_0 (h1_0.ro hB10) v1_1 (h1_1.ro hB10) _ hu19) rfl ?_
 rintro _ w20 ⟨rfl, hb21⟩
 refine ⟨_, rfl, ?_⟩
 have hB22 := hB10.trans (hb21.mono hB10.size)
 have hS23 := hS11.below hb21
 refine wl_move rfl rfl ?_
 rcases bE u19 with h25 | h25
 ·replace hF := ifP h25 hF
  refine wl_on rfl rfl h25 (wl_field (o := 4) (off' := 4) ff_29_1 rfl rfl rfl (wl_on rfl rfl h25 (wl_load_blk (i := 1) (vs := [(.int .i64 x0.2.1)]) (v := (.int .i64 x0.2.1)) tf_3 rfl rfl hS23 rfl rfl rfl (wl_on rfl rfl h25 (wl_field (o := 4) (off' := 4) ff_29_1 rfl rfl rfl (wl_on rfl rfl h25 (wl_load_blk (i := 0) (vs := [(.int .i64 x1.2.1)]) (v := (.int .i64 x1.2.1)) tf_3 rfl rfl hS23 rfl rfl rfl (wl_on rfl rfl h25 (wl_eql rfl rfl rfl (wl_pick_t rfl rfl h25 rfl (wl_move rfl rfl ?_)))))))))))
  rcases bE (x0.2.1 == x1.2.1) with h26 | h26
  ·replace hF := ifP h26 hF
   refine wl_on rfl rfl h26 (wl_field (o := 5) (off' := 5) ff_29_2 rfl rfl rfl (wl_on rfl rfl h26 (wl_load_blk (i := 1) (vs := [v0_2]) (v := v0_2) tf_25 rfl rfl hS23 rfl rfl rfl (wl_on rfl rfl h26 (wl_field (o := 5) (off' := 5) ff_29_2 rfl rfl rfl (wl_on rfl rfl h26 (wl_load_blk (i := 0) (vs := [v1_2]) (v := v1_2) tf_25 rfl rfl hS23 rfl rfl rfl (wl_on rfl rfl h26 ?_))))))))
   obtain ⟨u27, hu27, hF⟩ := bindE hF
   refine wl_call rfl Tryz.call35 (C_laws_sameInts w20 x0.2.2.1 v0_2 (h0_2.ro hB22) x1.2.2.1 v1_2 (h1_2.ro hB22) _ hu27) rfl ?_
   rintro _ w28 ⟨rfl, hb29⟩
   refine ⟨_, rfl, ?_⟩
   have hB30 := hB22.trans (hb29.mono hB22.size)
   have hS31 := hS23.below hb29
   refine wl_pick_t rfl rfl h26 rfl (wl_move rfl rfl ?_)
   rcases bE u27 with h33 | h33
   ·replace hF := ifP h33 hF
    refine wl_on rfl rfl h33 (wl_field (o := 6) (off' := 6) ff_29_3 rfl rfl rfl (wl_on rfl rfl h33 (wl_load_blk (i := 1) (vs := [v0_3]) (v := v0_3) tf_25 rfl rfl hS31 rfl rfl rfl (wl_on rfl rfl h33 (wl_field (o := 6) (off' := 6) ff_29_3 rfl rfl rfl (wl_on rfl rfl h33 (wl_load_blk (i := 0) (vs := [v1_3]) (v := v1_3) tf_25 rfl rfl hS31 rfl rfl rfl (wl_on rfl rfl h33 ?_))))))))
    obtain ⟨u34, hu34, hF⟩ := bindE hF
    refine wl_call rfl Tryz.call35 (C_laws_sameInts w28 x0.2.2.2 v0_3 (h0_3.ro hB30) x1.2.2.2 v1_3 (h1_3.ro hB30) _ hu34) rfl ?_
    rintro _ w35 ⟨rfl, hb36⟩
    refine ⟨_, rfl, ?_⟩
    have hB37 := hB30.trans (hb36.mono hB30.size)
    have hS38 := hS31.below hb36
    refine wl_pick_t rfl rfl h33 rfl (wl_assign rfl rfl (WL.nil ?_))
    exact fun a ha => hJ18 (u34) _ hF hB37 (hS38.sel [] rfl) a (ha.sub ⟨rfl, trivial⟩)
   ·replace hF := ifN h33 hF
    refine wl_off rfl rfl rfl h33 (wl_off rfl rfl rfl h33 (wl_off rfl rfl rfl h33 (wl_off rfl rfl rfl h33 (wl_off rfl rfl rfl h33 (wl_pick_f rfl rfl h33 rfl (wl_assign rfl rfl (WL.nil ?_)))))))
    exact fun a ha => hJ18 (false) _ hF hB30 (hS31.sel [] rfl) a (ha.sub ⟨rfl, trivial⟩)
  ·replace hF := ifN h26 hF
   refine wl_off rfl rfl rfl h26 (wl_off rfl rfl rfl h26 (wl_off rfl rfl rfl h26 (wl_off rfl rfl rfl h26 (wl_off rfl rfl rfl h26 (wl_pick_f rfl rfl h26 rfl (wl_move rfl rfl (wl_off rfl rfl rfl rfl (wl_off rfl rfl rfl rfl (wl_off rfl rfl rfl rfl (wl_off rfl rfl rfl rfl (wl_off rfl rfl rfl rfl (wl_pick_f rfl rfl rfl rfl (wl_assign rfl rfl ?_)))))))))))))
   refine WL.nil ?_
   exact fun a ha => hJ18 (false) _ hF hB22 (hS23.sel [] rfl) a (ha.sub ⟨rfl, trivial⟩)
 ·replace hF := ifN h25 hF
  refine wl_off rfl rfl rfl h25 (wl_off rfl rfl rfl h25 (wl_off rfl rfl rfl h25 (wl_off rfl rfl rfl h25 (wl_off rfl rfl rfl h25 (wl_pick_f rfl rfl h25 rfl (wl_move rfl rfl (wl_off rfl rfl rfl rfl (wl_off rfl rfl rfl rfl (wl_off rfl rfl rfl rfl (wl_off rfl rfl rfl rfl (wl_off rfl rfl rfl rfl (wl_pick_f rfl rfl rfl rfl (wl_move rfl rfl ?_)))))))))))))
  refine wl_off rfl rfl rfl rfl (wl_off rfl rfl rfl rfl (wl_off rfl rfl rfl rfl (wl_off rfl rfl rfl rfl (wl_off rfl rfl rfl rfl (wl_pick_f rfl rfl rfl rfl (wl_assign rfl rfl (WL.nil ?_)))))))
  exact fun a ha => hJ18 (false) _ hF hB22 (hS23.sel [] rfl) a (ha.sub ⟨rfl, trivial⟩)
theorem C_spec_DrawIsMarch (w0 : World) (x0 : (List Int)) (v0_0 : Value) (h0_0 : rdS ty_5 (· < w0.heap.size) w0 v0_0 x0) (r : (((List (List (Int × Int))) × (List Int) × Int × Int) × Int × (List Int) × (List Int))) (hF : F_spec_DrawIsMarch x0 = some r) :
  Calls Tryz.prog 39 [v0_0].toArray w0 fun e w' => ∃ (q0 : Value) (G0 : List Nat) (q1 : Value) (G1 : List Nat) (q2 : Value) (G2 : List Nat) (q3 : Value) (G3 : List Nat), e = .returned (.agg #[q0, q1, (.int .i64 r.1.2.2.1), (.int .i64 r.1.2.2.2), (.int .i64 r.2.1), q2, q3]) ∧ Below w0.heap.size w0 w' ∧ Sep w0.heap.size w' [R.own ty_66 G0 q0 r.1.1, R.own ty_3 G1 q1 r.1.2.1, R.own ty_3 G2 q2 r.2.2.1, R.own ty_3 G3 q3 r.2.2.2] := by
 refine calls_mk' Tryz.func39 rfl Tryz.ntmps39 rfl rfl fun Q hQ hP => ?_
 have hB : Below w0.heap.size w0 w0 := Below.refl _ _
 have hS : Sep w0.heap.size w0 [] := Sep.nil _ _
 unfold F_spec_DrawIsMarch at hF
 refine W.seq fun K1 hK1 => W.region (wl_alloc (cs := [(.slice none 0 0), (.slice none 0 0), (.int .i64 0), (.int .i64 0), (.int .i64 0), (.slice none 0 0), (.slice none 0 0)]) tf_29 rfl rfl hB hS ?_)
 intro b2 w3 hb4 hB5 hS6
 refine WL.nil fun a ha => hK1 _ _ (W.seq fun K7 hK7 => (W.region (wl_move rfl rfl (wl_build (zs := [(.slice none 0 0), (.int .i64 0), (.int .u64 0)]) (out := [v0_0, (.int .i64 0), (.int .u64 0)]) (vs := [v0_0]) (css := [[v0_0]]) tf_53 pl_53 rfl rfl (by simp only [List.map_cons, List.map_nil, cells_one ((h0_0.ro hB5).one)] <;> rfl) rfl rfl (wl_box (cs := [v0_0, (.int .i64 0), (.int .u64 0)]) rfl rfl rfl hB5 hS6 ?_))))) a ha
 intro b8 w9 hb10 hB11 hS12
 refine wl_assign rfl rfl (WL.nil (fun a ha => hK7 _ _ (W.seq fun K13 hK13 => (W.region (wl_move rfl rfl ?_))) a ha))
 obtain ⟨u14, hu14, hF⟩ := bindE hF
 refine wl_call rfl Tryz.call25 (C_spec_l1Cur__march__mut__box w9 (x0, 0, 0) b8 v0_0 (h0_0.oldo hB11 (hS12.sel [0] rfl)) (hS12.sel [0] rfl).base0 _ hu14) rfl ?_
 rintro _ w15 ⟨v20, F21, v22, F23, v24, F25, v26, F27, rfl, hE16, hM17⟩
 refine ⟨_, rfl, ?_⟩
 have hB18 := hS12.takeB [0] rfl (M := [R.blk b8 53 [v0_0, (.int .i64 0), (.int .u64 0)]]) rfl hB11 hE16 hM17
 have hS19 : Sep w0.heap.size w15 [R.blk b8 53 [v0_0, (.int .i64 u14.2.2.1), (.int .u64 u14.2.2.2)], R.own ty_66 F21 v20 u14.1.1.1, R.own ty_3 F23 v22 u14.1.1.2.1, R.own ty_3 F25 v24 u14.1.2.2.1, R.own ty_3 F27 v26 u14.1.2.2.2, R.blk b2 29 [(.slice none 0 0), (.slice none 0 0), (.int .i64 0), (.int .i64 0), (.int .i64 0), (.slice none 0 0), (.slice none 0 0)]] := hS12.take [0] [1] rfl (M := [R.blk b8 53 [v0_0, (.int .i64 0), (.int .u64 0)]]) rfl hM17 hB11.size
 refine wl_store_blk (i := 5) (vs := [v20, v22, (.int .i64 u14.1.1.2.2.1), (.int .i64 u14.1.1.2.2.2), (.int .i64 u14.1.2.1), v24, v26]) (cs' := [v20, v22, (.int .i64 u14.1.1.2.2.1), (.int .i64 u14.1.1.2.2.2), (.int .i64 u14.1.2.1), v24, v26]) tf_29 rfl rfl rfl rfl hB18 hS19 rfl rfl ⟨(hS19.own_ro (i := 1) rfl).one, (hS19.own_ro (i := 2) rfl).one, rfl, rfl, rfl, (hS19.own_ro (i := 3) rfl).one, (hS19.own_ro (i := 4) rfl).one, trivial⟩ rfl ?_
 intro w28 hk31 hB29 hS30
 refine WL.nil fun a ha => hK13 _ _ (W.ret ?_) a ha
 have hr := Option.some.inj hF
 subst hr
 exact rets (vs := [(.agg #[v20, v22, (.int .i64 u14.1.1.2.2.1), (.int .i64 u14.1.1.2.2.2), (.int .i64 u14.1.2.1), v24, v26])]) hQ rfl ⟨rv_cell (i := 5) tf_29 rfl hS30 rfl rfl rfl, trivial⟩ ⟨v20, F21, v22, F23, v24, F25, v26, F27, rfl, hB29, hS30.sel [1, 2, 3, 4] rfl⟩
theorem C_spec_DrawBeatOnce (w0 : World) (x0 : (List Int)) (v0_0 : Value) (h0_0 : rdS ty_5 (· < w0.heap.size) w0 v0_0 x0) (r : (((List (List (Int × Int))) × (List Int) × Int × Int) × Int × (List Int) × (List Int))) (hF : F_spec_DrawBeatOnce x0 = some r) :
  Calls Tryz.prog 10 [v0_0].toArray w0 fun e w' => ∃ (q0 : Value) (G0 : List Nat) (q1 : Value) (G1 : List Nat) (q2 : Value) (G2 : List Nat) (q3 : Value) (G3 : List Nat), e = .returned (.agg #[q0, q1, (.int .i64 r.1.2.2.1), (.int .i64 r.1.2.2.2), (.int .i64 r.2.1), q2, q3]) ∧ Below w0.heap.size w0 w' ∧ Sep w0.heap.size w' [R.own ty_66 G0 q0 r.1.1, R.own ty_3 G1 q1 r.1.2.1, R.own ty_3 G2 q2 r.2.2.1, R.own ty_3 G3 q3 r.2.2.2] := by
 refine calls_mk' Tryz.func10 rfl Tryz.ntmps10 rfl rfl fun Q hQ hP => ?_
 have hB : Below w0.heap.size w0 w0 := Below.refl _ _
 have hS : Sep w0.heap.size w0 [] := Sep.nil _ _
 unfold F_spec_DrawBeatOnce at hF
 refine W.seq fun K1 hK1 => W.region (wl_alloc (cs := [(.slice none 0 0), (.slice none 0 0), (.int .i64 0), (.int .i64 0), (.int .i64 0), (.slice none 0 0), (.slice none 0 0)]) tf_29 rfl rfl hB hS ?_)
 intro b2 w3 hb4 hB5 hS6
 refine WL.nil fun a ha => hK1 _ _ (W.seq fun K7 hK7 => (W.region (wl_move rfl rfl ?_))) a ha
 obtain ⟨u8, hu8, hF⟩ := bindE hF
 refine wl_call rfl Tryz.call39 (C_spec_DrawIsMarch w3 x0 v0_0 (h0_0.ro hB5) _ hu8) rfl ?_
 rintro _ w17 ⟨v9, F10, v11, F12, v13, F14, v15, F16, rfl, hb18, hM21⟩
 refine ⟨_, rfl, ?_⟩
 have hB19 := hB5.trans (hb18.mono hB5.size)
 have hS20 := hS6.join hb18 hM21 hB5.size
 refine wl_store_blk (i := 4) (vs := [v9, v11, (.int .i64 u8.1.2.2.1), (.int .i64 u8.1.2.2.2), (.int .i64 u8.2.1), v13, v15]) (cs' := [v9, v11, (.int .i64 u8.1.2.2.1), (.int .i64 u8.1.2.2.2), (.int .i64 u8.2.1), v13, v15]) tf_29 rfl rfl rfl rfl hB19 hS20 rfl rfl ⟨(hS20.own_ro (i := 0) rfl).one, (hS20.own_ro (i := 1) rfl).one, rfl, rfl, rfl, (hS20.own_ro (i := 2) rfl).one, (hS20.own_ro (i := 3) rfl).one, trivial⟩ rfl ?_
 intro w22 hk25 hB23 hS24
 refine WL.nil fun a ha => hK7 _ _ (W.ret ?_) a ha
 have hr := Option.some.inj hF
 subst hr
 exact rets (vs := [(.agg #[v9, v11, (.int .i64 u8.1.2.2.1), (.int .i64 u8.1.2.2.2), (.int .i64 u8.2.1), v13, v15])]) hQ rfl ⟨rv_cell (i := 4) tf_29 rfl hS24 rfl rfl rfl, trivial⟩ ⟨v9, F10, v11, F12, v13, F14, v15, F16, rfl, hB23, hS24.sel [0, 1, 2, 3] rfl⟩
theorem C_spec_mnAsked (w0 : World) (x0 : (((List (List (Int × Int))) × (List Int) × Int × Int) × Int × (List Int) × (List Int))) (v0_0 : Value) (h0_0 : rdS ty_66 (· < w0.heap.size) w0 v0_0 x0.1.1) (v0_1 : Value) (h0_1 : rdS ty_3 (· < w0.heap.size) w0 v0_1 x0.1.2.1) (v0_2 : Value) (h0_2 : rdS ty_3 (· < w0.heap.size) w0 v0_2 x0.2.2.1) (v0_3 : Value) (h0_3 : rdS ty_3 (· < w0.heap.size) w0 v0_3 x0.2.2.2) (x1 : (Int × Int)) (r : ((((List (List (Int × Int))) × (List Int) × Int × Int) × Int × (List Int) × (List Int)) × Bool)) (hF : F_spec_mnAsked x0 x1 = some r) :
  Calls Tryz.prog 40 [(.agg #[v0_0, v0_1, (.int .i64 x0.1.2.2.1), (.int .i64 x0.1.2.2.2), (.int .i64 x0.2.1), v0_2, v0_3]), (.agg #[(.int .i64 x1.1), (.int .i64 x1.2)])].toArray w0 fun e w' => ∃ (q0 : Value) (G0 : List Nat) (q1 : Value) (G1 : List Nat) (q2 : Value) (G2 : List Nat) (q3 : Value) (G3 : List Nat), e = .returned (.tuple #[(.agg #[q0, q1, (.int .i64 r.1.1.2.2.1), (.int .i64 r.1.1.2.2.2), (.int .i64 r.1.2.1), q2, q3]), (.bool r.2)]) ∧ Below w0.heap.size w0 w' ∧ Sep w0.heap.size w' [R.own ty_66 G0 q0 r.1.1.1, R.own ty_3 G1 q1 r.1.1.2.1, R.own ty_3 G2 q2 r.1.2.2.1, R.own ty_3 G3 q3 r.1.2.2.2] := by
 refine calls_mk' Tryz.func40 rfl Tryz.ntmps40 rfl rfl fun Q hQ hP => ?_
 have hB : Below w0.heap.size w0 w0 := Below.refl _ _
 have hS : Sep w0.heap.size w0 [] := Sep.nil _ _
 unfold F_spec_mnAsked at hF
 refine W.seq fun K1 hK1 => W.region (wl_box (cs := [v0_0, v0_1, (.int .i64 x0.1.2.2.1), (.int .i64 x0.1.2.2.2), (.int .i64 x0.2.1), v0_2, v0_3]) rfl rfl rfl hB hS ?_)
 intro b2 w3 hb4 hB5 hS6
 refine wl_box (cs := [(.int .i64 x1.1), (.int .i64 x1.2)]) rfl rfl rfl hB5 hS6 ?_
 intro b7 w8 hb9 hB10 hS11
 refine wl_alloc (cs := [(.slice none 0 0), (.slice none 0 0), (.int .i64 0), (.int .i64 0), (.int .i64 0), (.slice none 0 0), (.slice none 0 0)]) tf_29 rfl rfl hB10 hS11 ?_
 intro b12 w13 hb14 hB15 hS16
 refine wl_assign rfl rfl (WL.nil (fun a ha => hK1 _ _ (W.seq fun K17 hK17 => (W.seq fun K18 hK18 => (W.region (wl_load_blk (i := 2) (vs := [v0_0, v0_1, (.int .i64 x0.1.2.2.1), (.int .i64 x0.1.2.2.2), (.int .i64 x0.2.1), v0_2, v0_3]) (v := (.agg #[v0_0, v0_1, (.int .i64 x0.1.2.2.1), (.int .i64 x0.1.2.2.2), (.int .i64 x0.2.1), v0_2, v0_3])) tf_29 rfl rfl hS16 rfl rfl rfl ?_)))) a ha))
 obtain ⟨u19, hu19, hF⟩ := bindE hF
 refine wl_call rfl Tryz.call31 (C_spec_mnGood w13 x0 v0_0 (h0_0.ro hB15) v0_1 (h0_1.ro hB15) v0_2 (h0_2.ro hB15) v0_3 (h0_3.ro hB15) _ hu19) rfl ?_
 rintro _ w20 ⟨rfl, hb21⟩
 refine ⟨_, rfl, ?_⟩
 have hB22 := hB15.trans (hb21.mono hB15.size)
 have hS23 := hS16.below hb21
 refine wl_not rfl rfl (WL.nil (fun a ha => hK18 _ _ (W.cond rfl (fun h25 => ?_) (fun h25 => ?_)) a ha))
 ·replace hF := ifP h25 hF
  refine W.seq fun K26 hK26 => W.region (wl_build (zs := [(.slice none 0 0), (.slice none 0 0), (.int .i64 0), (.int .i64 0), (.int .i64 0), (.slice none 0 0), (.slice none 0 0)]) (out := [(.slice none 0 0), (.slice none 0 0), (.int .i64 0), (.int .i64 0), (.int .i64 0), (.slice none 0 0), (.slice none 0 0)]) (vs := []) (css := []) tf_29 pl_29 rfl rfl rfl rfl rfl (wl_store_blk (i := 0) (vs := [(.slice none 0 0), (.slice none 0 0), (.int .i64 0), (.int .i64 0), (.int .i64 0), (.slice none 0 0), (.slice none 0 0)]) (cs' := [(.slice none 0 0), (.slice none 0 0), (.int .i64 0), (.int .i64 0), (.int .i64 0), (.slice none 0 0), (.slice none 0 0)]) tf_29 rfl rfl rfl rfl hB22 hS23 rfl rfl ⟨rfl, rfl, rfl, rfl, rfl, rfl, rfl, trivial⟩ rfl ?_))
  intro w27 hk30 hB28 hS29
  refine wl_assign rfl rfl (WL.nil (fun a ha => hK26 _ _ (W.ret ?_) a ha))
  have hS31 := hS29.push0 (r := R.own ty_66 [] (.slice none 0 0) []) rfl fun _ => .inl ⟨rfl, rfl, rfl⟩
  have hS32 := hS31.push0 (r := R.own ty_3 [] (.slice none 0 0) []) rfl fun _ => .inl ⟨rfl, rfl, rfl⟩
  have hS33 := hS32.push0 (r := R.own ty_3 [] (.slice none 0 0) []) rfl fun _ => .inl ⟨rfl, rfl, rfl⟩
  have hS34 := hS33.push0 (r := R.own ty_3 [] (.slice none 0 0) []) rfl fun _ => .inl ⟨rfl, rfl, rfl⟩
  have hr := Option.some.inj hF
  subst hr
  exact rets (vs := [(.agg #[(.slice none 0 0), (.slice none 0 0), (.int .i64 0), (.int .i64 0), (.int .i64 0), (.slice none 0 0), (.slice none 0 0)]), (.bool false)]) hQ rfl ⟨rv_cell (i := 0) tf_29 rfl hS29 rfl rfl rfl, rv_tmp rfl, trivial⟩ ⟨(.slice none 0 0), [], (.slice none 0 0), [], (.slice none 0 0), [], (.slice none 0 0), [], rfl, hB28, hS34.sel [3, 2, 1, 0] rfl⟩
 ·replace hF := ifN h25 hF
  refine W.skip fun a ha => hK17 _ _ (W.seq fun K35 hK35 => (W.region (wl_load_blk (i := 2) (vs := [v0_0, v0_1, (.int .i64 x0.1.2.2.1), (.int .i64 x0.1.2.2.2), (.int .i64 x0.2.1), v0_2, v0_3]) (v := (.agg #[v0_0, v0_1, (.int .i64 x0.1.2.2.1), (.int .i64 x0.1.2.2.2), (.int .i64 x0.2.1), v0_2, v0_3])) tf_29 rfl rfl hS23 rfl rfl rfl (wl_load_blk (i := 1) (vs := [(.int .i64 x1.1), (.int .i64 x1.2)]) (v := (.agg #[(.int .i64 x1.1), (.int .i64 x1.2)])) tf_59 rfl rfl hS23 rfl rfl rfl ?_)))) a ha
  obtain ⟨u36, hu36, hF⟩ := bindE hF
  refine wl_call rfl Tryz.call33 (C_spec_mnStep w20 x0 v0_0 (h0_0.ro hB22) v0_1 (h0_1.ro hB22) v0_2 (h0_2.ro hB22) v0_3 (h0_3.ro hB22) x1 _ hu36) rfl ?_
  rintro _ w45 ⟨v37, F38, v39, F40, v41, F42, v43, F44, rfl, hb46, hM49⟩
  refine ⟨_, rfl, ?_⟩
  have hB47 := hB22.trans (hb46.mono hB22.size)
  have hS48 := hS23.join hb46 hM49 hB22.size
  refine wl_extract rfl rfl rfl (wl_extract rfl rfl rfl (wl_store_blk (i := 4) (vs := [v37, v39, (.int .i64 u36.1.1.2.2.1), (.int .i64 u36.1.1.2.2.2), (.int .i64 u36.1.2.1), v41, v43]) (cs' := [v37, v39, (.int .i64 u36.1.1.2.2.1), (.int .i64 u36.1.1.2.2.2), (.int .i64 u36.1.2.1), v41, v43]) tf_29 rfl rfl rfl rfl hB47 hS48 rfl rfl ⟨(hS48.own_ro (i := 0) rfl).one, (hS48.own_ro (i := 1) rfl).one, rfl, rfl, rfl, (hS48.own_ro (i := 2) rfl).one, (hS48.own_ro (i := 3) rfl).one, trivial⟩ rfl ?_))
  intro w50 hk53 hB51 hS52
  refine wl_assign rfl rfl (WL.nil (fun a ha => hK35 _ _ (W.ret ?_) a ha))
  have hr := Option.some.inj hF
  subst hr
  exact rets (vs := [(.agg #[v37, v39, (.int .i64 u36.1.1.2.2.1), (.int .i64 u36.1.1.2.2.2), (.int .i64 u36.1.2.1), v41, v43]), (.bool u36.2)]) hQ rfl ⟨rv_cell (i := 4) tf_29 rfl hS52 rfl rfl rfl, rv_tmp rfl, trivial⟩ ⟨v37, F38, v39, F40, v41, F42, v43, F44, rfl, hB51, hS52.sel [0, 1, 2, 3] rfl⟩
theorem C_spec_BeatOnce (w0 : World) (x0 : (((List (List (Int × Int))) × (List Int) × Int × Int) × Int × (List Int) × (List Int))) (v0_0 : Value) (h0_0 : rdS ty_66 (· < w0.heap.size) w0 v0_0 x0.1.1) (v0_1 : Value) (h0_1 : rdS ty_3 (· < w0.heap.size) w0 v0_1 x0.1.2.1) (v0_2 : Value) (h0_2 : rdS ty_3 (· < w0.heap.size) w0 v0_2 x0.2.2.1) (v0_3 : Value) (h0_3 : rdS ty_3 (· < w0.heap.size) w0 v0_3 x0.2.2.2) (r : ((((List (List (Int × Int))) × (List Int) × Int × Int) × Int × (List Int) × (List Int)) × Bool)) (hF : F_spec_BeatOnce x0 = some r) :
  Calls Tryz.prog 12 [(.agg #[v0_0, v0_1, (.int .i64 x0.1.2.2.1), (.int .i64 x0.1.2.2.2), (.int .i64 x0.2.1), v0_2, v0_3])].toArray w0 fun e w' => ∃ (q0 : Value) (G0 : List Nat) (q1 : Value) (G1 : List Nat) (q2 : Value) (G2 : List Nat) (q3 : Value) (G3 : List Nat), e = .returned (.tuple #[(.agg #[q0, q1, (.int .i64 r.1.1.2.2.1), (.int .i64 r.1.1.2.2.2), (.int .i64 r.1.2.1), q2, q3]), (.bool r.2)]) ∧ Below w0.heap.size w0 w' ∧ Sep w0.heap.size w' [R.own ty_66 G0 q0 r.1.1.1, R.own ty_3 G1 q1 r.1.1.2.1, R.own ty_3 G2 q2 r.1.2.2.1, R.own ty_3 G3 q3 r.1.2.2.2] := by
 refine calls_mk' Tryz.func12 rfl Tryz.ntmps12 rfl rfl fun Q hQ hP => ?_
 have hB : Below w0.heap.size w0 w0 := Below.refl _ _
 have hS : Sep w0.heap.size w0 [] := Sep.nil _ _
 unfold F_spec_BeatOnce at hF
 refine W.seq fun K1 hK1 => W.region (wl_box (cs := [v0_0, v0_1, (.int .i64 x0.1.2.2.1), (.int .i64 x0.1.2.2.2), (.int .i64 x0.2.1), v0_2, v0_3]) rfl rfl rfl hB hS ?_)
 intro b2 w3 hb4 hB5 hS6
 refine wl_alloc (cs := [(.slice none 0 0), (.slice none 0 0), (.int .i64 0), (.int .i64 0), (.int .i64 0), (.slice none 0 0), (.slice none 0 0)]) tf_29 rfl rfl hB5 hS6 ?_
 intro b7 w8 hb9 hB10 hS11
 refine wl_assign rfl rfl (WL.nil (fun a ha => hK1 _ _ (W.seq fun K12 hK12 => (W.region (wl_load_blk (i := 1) (vs := [v0_0, v0_1, (.int .i64 x0.1.2.2.1), (.int .i64 x0.1.2.2.2), (.int .i64 x0.2.1), v0_2, v0_3]) (v := (.agg #[v0_0, v0_1, (.int .i64 x0.1.2.2.1), (.int .i64 x0.1.2.2.2), (.int .i64 x0.2.1), v0_2, v0_3])) tf_29 rfl rfl hS11 rfl rfl rfl (wl_build (zs := [(.int .i64 0), (.int .i64 0)]) (out := [(.int .i64 1), (.int .i64 0)]) (vs := [(.int .i64 1)]) (css := [[(.int .i64 1)]]) tf_59 pl_59 rfl rfl rfl rfl rfl ?_)))) a ha))
 obtain ⟨u13, hu13, hF⟩ := bindE hF
 refine wl_call rfl Tryz.call40 (C_spec_mnAsked w8 x0 v0_0 (h0_0.ro hB10) v0_1 (h0_1.ro hB10) v0_2 (h0_2.ro hB10) v0_3 (h0_3.ro hB10) (1, 0) _ hu13) rfl ?_
 rintro _ w22 ⟨v14, F15, v16, F17, v18, F19, v20, F21, rfl, hb23, hM26⟩
 refine ⟨_, rfl, ?_⟩
 have hB24 := hB10.trans (hb23.mono hB10.size)
 have hS25 := hS11.join hb23 hM26 hB10.size
 refine wl_extract rfl rfl rfl (wl_extract rfl rfl rfl (wl_store_blk (i := 4) (vs := [v14, v16, (.int .i64 u13.1.1.2.2.1), (.int .i64 u13.1.1.2.2.2), (.int .i64 u13.1.2.1), v18, v20]) (cs' := [v14, v16, (.int .i64 u13.1.1.2.2.1), (.int .i64 u13.1.1.2.2.2), (.int .i64 u13.1.2.1), v18, v20]) tf_29 rfl rfl rfl rfl hB24 hS25 rfl rfl ⟨(hS25.own_ro (i := 0) rfl).one, (hS25.own_ro (i := 1) rfl).one, rfl, rfl, rfl, (hS25.own_ro (i := 2) rfl).one, (hS25.own_ro (i := 3) rfl).one, trivial⟩ rfl ?_))
 intro w27 hk30 hB28 hS29
 refine wl_assign rfl rfl (WL.nil (fun a ha => hK12 _ _ (W.ret ?_) a ha))
 have hr := Option.some.inj hF
 subst hr
 exact rets (vs := [(.agg #[v14, v16, (.int .i64 u13.1.1.2.2.1), (.int .i64 u13.1.1.2.2.2), (.int .i64 u13.1.2.1), v18, v20]), (.bool u13.2)]) hQ rfl ⟨rv_cell (i := 4) tf_29 rfl hS29 rfl rfl rfl, rv_tmp rfl, trivial⟩ ⟨v14, F15, v16, F17, v18, F19, v20, F21, rfl, hB28, hS29.sel [0, 1, 2, 3] rfl⟩
theorem C_laws_pIn (w0 : World) (x0 : (List Int)) (v0_0 : Value) (h0_0 : rdS ty_3 (· < w0.heap.size) w0 v0_0 x0) (x1 : Int) (r : Bool) (hF : F_laws_pIn x0 x1 = some r) :
  Calls Tryz.prog 13 [v0_0, (.int .i64 x1)].toArray w0 fun e w' => e = .returned (.bool r) ∧ Below w0.heap.size w0 w' := by
 refine calls_mk' Tryz.func13 rfl Tryz.ntmps13 rfl rfl fun Q hQ hP => ?_
 have hB : Below w0.heap.size w0 w0 := Below.refl _ _
 have hS : Sep w0.heap.size w0 [] := Sep.nil _ _
 unfold F_laws_pIn at hF
 refine W.seq fun K1 hK1 => W.region (wl_assign rfl rfl (WL.nil (fun a ha => hK1 _ _ (W.seq fun K2 hK2 => (W.seq fun K3 hK3 => (W.region (wl_move rfl rfl (wl_lenr (e := ty_3) (l := x0) Tryz.underlying25 rfl rfl h0_0 (wl_move rfl rfl (WL.nil (fun a ha => hK3 _ _ (W.block ?_) a ha)))))))) a ha)))
 refine W.loopk (fun m a w4 => ∃ (y7 : Int), St 17 [(1, (.int .i64 x1)), (7, v0_0), (8, (.int .i64 (List.length x0 : Int))), (9, (.int .i64 y7))] a ∧ Below w0.heap.size w0 w4 ∧ Sep w0.heap.size w4 [] ∧ F_laws_pIn_L1 x0 x1 m y7 = some r) FU ?_ ?_
 ·
  exact fun a ha => ⟨0, ha.sub ⟨rfl, rfl, rfl, rfl, trivial⟩, hB, (hS.sel [] rfl), hF⟩
 ·
  rintro m10 a w4 ⟨y7, ha, hB5, hS6, hF⟩ KL9 hKL9
  refine W.at ?_ ha
  cases m10 with
  | zero => exact noneE hF
  | succ m10 =>
   obtain ⟨nx8, hnx8⟩ : ∃ k, k = F_laws_pIn_L1 x0 x1 m10 := ⟨_, rfl⟩
   rw [F_laws_pIn_L1, ← hnx8] at hF
   refine W.seq fun K11 hK11 => W.region (wl_lss rfl rfl rfl (WL.nil (fun a ha => hK11 _ _ (W.seq fun K12 hK12 => (W.cond rfl (fun h13 => ?_) (fun h13 => ?_))) a ha)))
   ·replace hF := ifP h13 hF
    refine W.skip fun a ha => hK12 _ _ (W.seq fun K14 hK14 => (W.block (W.seq fun K15 hK15 => (W.region ?_)))) a ha
    obtain ⟨u16, hu16, hF⟩ := bindE hF
    refine wl_index (e := ty_3) Tryz.underlying25 rfl rfl rfl h0_0 hu16 ?_
    rintro p17 _ rfl hp18
    refine wl_load_p (vs := [(.int .i64 u16)]) (v := (.int .i64 u16)) tf_3 rfl rfl (hp18.ro hB5) rfl rfl (wl_assign rfl rfl (WL.nil (fun a ha => hK15 _ _ (W.seq fun K19 hK19 => (W.region (wl_move rfl rfl (wl_move rfl rfl (wl_eql rfl rfl rfl (WL.nil (fun a ha => hK19 _ _ (W.cond rfl (fun h20 => ?_) (fun h20 => ?_)) a ha))))))) a ha)))
    ·replace hF := ifP h20 hF
     refine W.seq fun K21 hK21 => W.region (wl_assign rfl rfl (WL.nil (fun a ha => hK21 _ _ (W.ret ?_) a ha)))
     have hr := Option.some.inj hF
     subst hr
     exact rets (vs := [(.bool true)]) hQ rfl ⟨rv_tmp rfl, trivial⟩ ⟨rfl, hB5⟩
    ·replace hF := ifN h20 hF
     refine W.skip fun a ha => hK14 _ _ (W.region (wl_add rfl rfl rfl (wl_move rfl rfl (WL.nil ?_)))) a ha
     rw [hnx8] at hF
     exact fun a ha => hKL9 a _ m10 (Nat.lt_succ_self m10) ⟨(w64 (y7 + 1)), ha.sub ⟨rfl, rfl, rfl, rfl, trivial⟩, hB5, (hS6.sel [] rfl), hF⟩
   ·replace hF := ifN h13 hF
    refine W.exit fun a ha => hK2 _ _ (W.seq fun K22 hK22 => (W.region (wl_assign rfl rfl (WL.nil (fun a ha => hK22 _ _ (W.ret ?_) a ha))))) a ha
    have hr := Option.some.inj hF
    subst hr
    exact rets (vs := [(.bool false)]) hQ rfl ⟨rv_tmp rfl, trivial⟩ ⟨rfl, hB5⟩
theorem C_impl_sheetOf (w0 : World) (x0 : (List (List (Int × Int)))) (v0_0 : Value) (h0_0 : rdS ty_66 (· < w0.heap.size) w0 v0_0 x0) (x1 : (List Int)) (v1_0 : Value) (h1_0 : rdS ty_3 (· < w0.heap.size) w0 v1_0 x1) (x2 : Int) (r : (Int × (Int × Int) × (List (Int × (Int × Int))))) (hF : F_impl_sheetOf x0 x1 x2 = some r) :
  Calls Tryz.prog 67 [v0_0, v1_0, (.int .i64 x2)].toArray w0 fun e w' => ∃ (q0 : Value) (G0 : List Nat), e = .returned (.agg #[(.int .i64 r.1), (.int .i64 r.2.1.1), (.int .i64 r.2.1.2), q0]) ∧ Below w0.heap.size w0 w' ∧ Sep w0.heap.size w' [R.own ty_104 G0 q0 r.2.2] := by
 refine calls_mk' Tryz.func67 rfl Tryz.ntmps67 rfl rfl fun Q hQ hP => ?_
 have hB : Below w0.heap.size w0 w0 := Below.refl _ _
 have hS : Sep w0.heap.size w0 [] := Sep.nil _ _
 unfold F_impl_sheetOf at hF
 refine W.seq fun K1 hK1 => W.region (wl_alloc (cs := [(.int .i64 0), (.int .i64 0), (.int .i64 0), (.slice none 0 0)]) tf_86 rfl rfl hB hS ?_)
 intro b2 w3 hb4 hB5 hS6
 refine WL.nil fun a ha => hK1 _ _ (W.seq fun K7 hK7 => (W.region (wl_move rfl rfl (wl_move rfl rfl ?_)))) a ha
 obtain ⟨u8, hu8, hF⟩ := bindE hF
 refine wl_index (e := ty_66) Tryz.underlying24 rfl rfl rfl h0_0 hu8 ?_
 rintro p9 _ ⟨v11, rfl, hv12⟩ hp10
 refine wl_load_p (vs := [v11]) (v := v11) tf_66 rfl rfl (hp10.ro hB5) rfl rfl (wl_move rfl rfl ?_)
 obtain ⟨u13, hu13, hF⟩ := bindE hF
 refine wl_index (e := ty_42) Tryz.underlying66 rfl rfl rfl hv12 hu13 ?_
 rintro p14 _ rfl hp15
 refine wl_load_p (vs := [(.int .i64 u13.1), (.int .i64 u13.2)]) (v := (.agg #[(.int .i64 u13.1), (.int .i64 u13.2)])) tf_42 rfl rfl (hp15.ro hB5) rfl rfl (wl_lit (vs := []) (l := []) fl_104 Tryz.underlying84 rfl rfl rfl rfl rfl rfl hB5 hS6 ?_)
 intro v16 F17 w18 hb19 hB20 hS21
 refine wl_build (zs := [(.int .i64 0), (.int .i64 0), (.int .i64 0), (.slice none 0 0)]) (out := [(.int .i64 x2), (.int .i64 u13.1), (.int .i64 u13.2), v16]) (vs := [(.int .i64 x2), (.agg #[(.int .i64 u13.1), (.int .i64 u13.2)]), v16]) (css := [[(.int .i64 x2)], [(.int .i64 u13.1), (.int .i64 u13.2)], [v16]]) tf_86 pl_86 rfl rfl (by simp only [List.map_cons, List.map_nil, cells_one ((hS21.own_ro (i := 0) rfl).one)] <;> rfl) rfl rfl (wl_alloc (cs := [(.int .i64 0), (.int .i64 0), (.int .i64 0), (.slice none 0 0)]) tf_86 rfl rfl hB20 hS21 ?_)
 intro b22 w23 hb24 hB25 hS26
 refine wl_store_blk (i := 0) (vs := [(.int .i64 x2), (.int .i64 u13.1), (.int .i64 u13.2), v16]) (cs' := [(.int .i64 x2), (.int .i64 u13.1), (.int .i64 u13.2), v16]) tf_86 rfl rfl rfl rfl hB25 hS26 rfl rfl ⟨rfl, rfl, rfl, (hS26.own_ro (i := 1) rfl).one, trivial⟩ rfl ?_
 intro w27 hk30 hB28 hS29
 refine WL.nil fun a ha => hK7 _ _ (W.seq fun K31 hK31 => (W.seq fun K32 hK32 => (W.region (wl_move rfl rfl (wl_lenr (e := ty_3) (l := x1) Tryz.underlying25 rfl rfl h1_0 (wl_move rfl rfl (WL.nil (fun a ha => hK32 _ _ (W.block (W.loopk (fun m a w33 => ∃ (l36 : (List (Int × (Int × Int)))) (y39 : Int) (v37 : Value) (F38 : List Nat), St 43 [(0, v0_0), (2, (.int .i64 x2)), (6, (.pointer (some ⟨b2, 0, none⟩))), (7, (.pointer (some ⟨b22, 0, none⟩))), (19, v1_0), (20, (.int .i64 (List.length x1 : Int))), (21, (.int .i64 y39))] a ∧ Below w0.heap.size w0 w33 ∧ Sep w0.heap.size w33 [R.blk b2 86 [(.int .i64 0), (.int .i64 0), (.int .i64 0), (.slice none 0 0)], R.own ty_104 F38 v37 l36, R.blk b22 86 [(.int .i64 x2), (.int .i64 u13.1), (.int .i64 u13.2), v37]] ∧ F_impl_sheetOf_L1 x1 x0 x2 u13 m l36 y39 = some r) FU ?_ ?_)) a ha)))))))) a ha
 ·
  exact fun a ha => ⟨[], 0, v16, F17, ha.sub ⟨rfl, rfl, rfl, rfl, rfl, rfl, rfl, trivial⟩, hB28, (hS29.sel [2, 1, 0] rfl), hF⟩
 ·
  rintro m42 a w33 ⟨l36, y39, v37, F38, ha, hB34, hS35, hF⟩ KL41 hKL41
  refine W.at ?_ ha
  cases m42 with
  | zero => exact noneE hF
  | succ m42 =>
   obtain ⟨nx40, hnx40⟩ : ∃ k, k = F_impl_sheetOf_L1 x1 x0 x2 u13 m42 := ⟨_, rfl⟩
   rw [F_impl_sheetOf_L1, ← hnx40] at hF
   refine W.seq fun K43 hK43 => W.region (wl_lss rfl rfl rfl (WL.nil (fun a ha => hK43 _ _ (W.seq fun K44 hK44 => (W.cond rfl (fun h45 => ?_) (fun h45 => ?_))) a ha)))
   ·replace hF := ifP h45 hF
    refine W.skip fun a ha => hK44 _ _ (W.seq fun K46 hK46 => ?_) a ha
    obtain ⟨k53, hk53, hF⟩ := jE1 hF
    have hJ54 : ∀ (l50 : (List (Int × (Int × Int)))) (v51 : Value) (F52 : List Nat) (w47 : World) (_ : k53 l50 = some r) (_ : Below w0.heap.size w0 w47) (_ : Sep w0.heap.size w47 [R.blk b2 86 [(.int .i64 0), (.int .i64 0), (.int .i64 0), (.slice none 0 0)], R.own ty_104 F52 v51 l50, R.blk b22 86 [(.int .i64 x2), (.int .i64 u13.1), (.int .i64 u13.2), v51]]), ∀ a, St 43 [(0, v0_0), (2, (.int .i64 x2)), (6, (.pointer (some ⟨b2, 0, none⟩))), (7, (.pointer (some ⟨b22, 0, none⟩))), (19, v1_0), (20, (.int .i64 (List.length x1 : Int))), (21, (.int .i64 y39))] a → K46 a w47 := by
     intro l50 v51 F52 w47 hF hB48 hS49
     subst hk53
     refine fun a ha => hK46 _ _ (W.region (wl_add rfl rfl rfl (wl_move rfl rfl (WL.nil ?_)))) a ha
     rw [hnx40] at hF
     exact fun a ha => hKL41 a _ m42 (Nat.lt_succ_self m42) ⟨l50, (w64 (y39 + 1)), v51, F52, ha.sub ⟨rfl, rfl, rfl, rfl, rfl, rfl, rfl, trivial⟩, hB48, (hS49.sel [0, 1, 2] rfl), hF⟩
    refine W.block (W.seq fun K55 hK55 => (W.region (wl_move rfl rfl ?_)))
    obtain ⟨u56, hu56, hF⟩ := bindE hF
    refine wl_index (e := ty_3) Tryz.underlying25 rfl rfl rfl h1_0 hu56 ?_
    rintro p57 _ rfl hp58
    refine wl_load_p (vs := [(.int .i64 u56)]) (v := (.int .i64 u56)) tf_3 rfl rfl (hp58.ro hB34) rfl rfl (wl_assign rfl rfl (wl_assign rfl rfl (WL.nil (fun a ha => hK55 _ _ (W.regionH mixed_ (F38 ++ [b22]) hB34 hS35 ?_) a ha))))
    intro w59 hb60 hB61 hS62
    have hSW63 := KeepX.refl w59 (F38 ++ [b22])
    refine WH.tk 0 rfl hP hSW63 (pr_field (o := 3) (off' := 3) ff_86_2 rfl rfl rfl (WH.tk 2 rfl hP hSW63 (pr_move rfl rfl (WH.tk 3 rfl hP hSW63 (pr_move rfl rfl (WH.tk 4 rfl hP hSW63 (pr_move rfl rfl (WH.tk 5 rfl hP hSW63 (pr_add rfl rfl rfl ?_)))))))))
    obtain ⟨u64, hu64, hF⟩ := bindE hF
    refine WH.tk 6 rfl hP hSW63 (pr_index (e := ty_66) Tryz.underlying24 rfl rfl rfl h0_0 hu64 ?_)
    rintro p65 _ ⟨v67, rfl, hv68⟩ hp66
    refine WH.tk 7 rfl hP hSW63 (pr_load_p (vs := [v67]) (v := v67) tf_66 rfl rfl (hp66.kx hB61 (fun b hb => ((List.mem_append.1 hb).elim (fun hb => (((hS62.get (i := 1) rfl).2.1 b hb).1)) (fun hb => (((hS62.get (i := 2) rfl).2.1 b hb).1))))) rfl rfl (WH.tk 8 rfl hP hSW63 (pr_move rfl rfl ?_)))
    obtain ⟨u69, hu69, hF⟩ := bindE hF
    refine WH.tk 9 rfl hP hSW63 (pr_index (e := ty_42) Tryz.underlying66 rfl rfl rfl hv68 hu69 ?_)
    rintro p70 _ rfl hp71
    refine WH.tk 10 rfl hP hSW63 (pr_load_p (vs := [(.int .i64 u69.1), (.int .i64 u69.2)]) (v := (.agg #[(.int .i64 u69.1), (.int .i64 u69.2)])) tf_42 rfl rfl (hp71.kx hB61 (fun b hb => ((List.mem_append.1 hb).elim (fun hb => (((hS62.get (i := 1) rfl).2.1 b hb).1)) (fun hb => (((hS62.get (i := 2) rfl).2.1 b hb).1))))) rfl rfl (WH.tk 11 rfl hP hSW63 (pr_build (zs := [(.int .i64 0), (.int .i64 0), (.int .i64 0)]) (out := [(.int .i64 u56), (.int .i64 u69.1), (.int .i64 u69.2)]) (vs := [(.int .i64 u56), (.agg #[(.int .i64 u69.1), (.int .i64 u69.2)])]) (css := [[(.int .i64 u56)], [(.int .i64 u69.1), (.int .i64 u69.2)]]) tf_104 pl_104 rfl rfl rfl rfl rfl (WH.many (is := [1, 12]) (by kernel_rfl) rfl (List.forall_mem_cons.2 ⟨⟨_, rfl, ?_⟩, List.forall_mem_cons.2 ⟨⟨_, rfl, ?_⟩, fun _ h => by cases h⟩⟩)))))
    ·
     refine wl_load_blk (i := 2) (vs := [v37]) (v := v37) tf_84 rfl rfl hS62 rfl rfl rfl (WL.nil (WH.ret hSW63 (WH.on1 12 rfl (wl_lit (vs := [(.agg #[(.int .i64 u56), (.int .i64 u69.1), (.int .i64 u69.2)])]) (l := [(u56, u69)]) fl_104 Tryz.underlying84 rfl rfl rfl rfl rfl rfl (Below.self w59) (Sep.nil _ _) ?_))))
     intro v72 F73 w74 hb75 hB78 hM79
     have hB76 := hB61.trans (hb75.mono hB61.size)
     have hS77 := hS62.join hb75 hM79 hB61.size
     have hSW81 := hSW63.ext hb75
     refine WL.nil (WH.ret hSW81 (WH.on1 13 rfl ?_))
     obtain ⟨u83, hu83, hF⟩ := bindE hF
     refine wl_append (i := 2) (S := (· < w74.heap.size)) fl_104 Tryz.underlying84 rfl rfl rfl hB76 hS77 rfl (hS77.own_ro (i := 0) rfl) hu83 ?_
     intro v84 F85 w86 hk87 hB88 hS89
     have hSW90 := hSW81.wr' hk87.1 hk87.2.1 (fun _ _ h => List.mem_append_left _ (h))
     refine WL.nil (WH.ret hSW90 (WH.tk 14 rfl hP hSW90 (pr_field (o := 3) (off' := 3) ff_86_2 rfl rfl rfl (WH.on1 15 rfl (wl_store_blk (i := 3) (vs := [v84]) (cs' := [(.int .i64 x2), (.int .i64 u13.1), (.int .i64 u13.2), v84]) tf_84 rfl rfl (cells_one (hS89.own_ro (i := 2) rfl).one) rfl hB88 hS89 rfl rfl ⟨(hS89.own_ro (i := 2) rfl).one, trivial⟩ rfl ?_)))))
     intro w92 hk95 hB93 hS94
     have hSW96 := hSW90.wr' hk95.1 hk95.2.1 (fun _ _ h => List.mem_append_right _ h)
     refine WL.nil (WH.ret hSW96 (WH.done (by kernel_rfl) ?_))
     exact fun a ha => hJ54 (u83) (v84) (F85) _ hF hB93 (hS94.sel [1, 2, 3] rfl) a (ha.sub ⟨rfl, rfl, rfl, rfl, rfl, rfl, rfl, trivial⟩)
    ·
     refine wl_lit (vs := [(.agg #[(.int .i64 u56), (.int .i64 u69.1), (.int .i64 u69.2)])]) (l := [(u56, u69)]) fl_104 Tryz.underlying84 rfl rfl rfl rfl rfl rfl (Below.self w59) (Sep.nil _ _) ?_
     intro v98 F99 w100 hb101 hB104 hM105
     have hB102 := hB61.trans (hb101.mono hB61.size)
     have hS103 := hS62.join hb101 hM105 hB61.size
     have hSW107 := hSW63.ext hb101
     refine WL.nil (WH.ret hSW107 (WH.on1 1 rfl (wl_load_blk (i := 3) (vs := [v37]) (v := v37) tf_84 rfl rfl hS103 rfl rfl rfl (WL.nil (WH.ret hSW107 (WH.on1 13 rfl ?_))))))
     obtain ⟨u109, hu109, hF⟩ := bindE hF
     refine wl_append (i := 2) (S := (· < w100.heap.size)) fl_104 Tryz.underlying84 rfl rfl rfl hB102 hS103 rfl (hS103.own_ro (i := 0) rfl) hu109 ?_
     intro v110 F111 w112 hk113 hB114 hS115
     have hSW116 := hSW107.wr' hk113.1 hk113.2.1 (fun _ _ h => List.mem_append_left _ (h))
     refine WL.nil (WH.ret hSW116 (WH.tk 14 rfl hP hSW116 (pr_field (o := 3) (off' := 3) ff_86_2 rfl rfl rfl (WH.on1 15 rfl (wl_store_blk (i := 3) (vs := [v110]) (cs' := [(.int .i64 x2), (.int .i64 u13.1), (.int .i64 u13.2), v110]) tf_84 rfl rfl (cells_one (hS115.own_ro (i := 2) rfl).one) rfl hB114 hS115 rfl rfl ⟨(hS115.own_ro (i := 2) rfl).one, trivial⟩ rfl ?_)))))
     intro w118 hk121 hB119 hS120
     have hSW122 := hSW116.wr' hk121.1 hk121.2.1 (fun _ _ h => List.mem_append_right _ h)
     refine WL.nil (WH.ret hSW122 (WH.done (by kernel_rfl) ?_))
     exact fun a ha => hJ54 (u109) (v110) (F111) _ hF hB119 (hS120.sel [1, 2, 3] rfl) a (ha.sub ⟨rfl, rfl, rfl, rfl, rfl, rfl, rfl, trivial⟩)
   ·replace hF := ifN h45 hF
    refine W.exit fun a ha => hK31 _ _ (W.seq fun K124 hK124 => (W.region (wl_load_blk (i := 2) (vs := [(.int .i64 x2), (.int .i64 u13.1), (.int .i64 u13.2), v37]) (v := (.agg #[(.int .i64 x2), (.int .i64 u13.1), (.int .i64 u13.2), v37])) tf_86 rfl rfl hS35 rfl rfl rfl (wl_store_blk (i := 0) (vs := [(.int .i64 x2), (.int .i64 u13.1), (.int .i64 u13.2), v37]) (cs' := [(.int .i64 x2), (.int .i64 u13.1), (.int .i64 u13.2), v37]) tf_86 rfl rfl rfl rfl hB34 hS35 rfl rfl ⟨rfl, rfl, rfl, (hS35.own_ro (i := 1) rfl).one, trivial⟩ rfl ?_)))) a ha
    intro w125 hk128 hB126 hS127
    refine WL.nil fun a ha => hK124 _ _ (W.ret ?_) a ha
    have hr := Option.some.inj hF
    subst hr
    exact rets (vs := [(.agg #[(.int .i64 x2), (.int .i64 u13.1), (.int .i64 u13.2), v37])]) hQ rfl ⟨rv_cell (i := 0) tf_86 rfl hS127 rfl rfl rfl, trivial⟩ ⟨v37, F38, rfl, hB126, hS127.sel [1] rfl⟩
theorem C_impl_totalCounts (w0 : World) (x0 : ((List (List (Int × Int))) × (List Int) × Int × Int)) (v0_0 : Value) (h0_0 : rdS ty_66 (· < w0.heap.size) w0 v0_0 x0.1) (v0_1 : Value) (h0_1 : rdS ty_3 (· < w0.heap.size) w0 v0_1 x0.2.1) (r : Int) (hF : F_impl_totalCounts x0 = some r) :
  Calls Tryz.prog 86 [(.agg #[v0_0, v0_1, (.int .i64 x0.2.2.1), (.int .i64 x0.2.2.2)])].toArray w0 fun e w' => e = .returned (.int .i64 r) ∧ Below w0.heap.size w0 w' := by
 refine calls_mk' Tryz.func86 rfl Tryz.ntmps86 rfl rfl fun Q hQ hP => ?_
 have hB : Below w0.heap.size w0 w0 := Below.refl _ _
 have hS : Sep w0.heap.size w0 [] := Sep.nil _ _
 unfold F_impl_totalCounts at hF
 refine W.seq fun K1 hK1 => W.region (wl_box (cs := [v0_0, v0_1, (.int .i64 x0.2.2.1), (.int .i64 x0.2.2.2)]) rfl rfl rfl hB hS ?_)
 intro b2 w3 hb4 hB5 hS6
 refine wl_assign rfl rfl (WL.nil (fun a ha => hK1 _ _ (W.seq fun K7 hK7 => (W.region (wl_assign rfl rfl (WL.nil (fun a ha => hK7 _ _ (W.seq fun K8 hK8 => (W.seq fun K9 hK9 => (W.region (wl_field (o := 1) (off' := 1) ff_27_1 rfl rfl rfl (wl_load_blk (i := 0) (vs := [v0_1]) (v := v0_1) tf_25 rfl rfl hS6 rfl rfl rfl (wl_lenr (e := ty_3) (l := x0.2.1) Tryz.underlying25 rfl rfl h0_1 ?_)))))) a ha))))) a ha))
 refine wl_move rfl rfl (WL.nil (fun a ha => hK9 _ _ (W.block (W.loopk (fun m a w10 => ∃ (y13 : Int) (y14 : Int), St 18 [(3, (.int .i64 y13)), (7, v0_1), (8, (.int .i64 (List.length x0.2.1 : Int))), (9, (.int .i64 y14))] a ∧ Below w0.heap.size w0 w10 ∧ Sep w0.heap.size w10 [] ∧ F_impl_totalCounts_L1 x0 m y13 y14 = some r) FU ?_ ?_)) a ha))
 ·
  exact fun a ha => ⟨0, 0, ha.sub ⟨rfl, rfl, rfl, rfl, trivial⟩, hB5, (hS6.sel [] rfl), hF⟩
 ·
  rintro m17 a w10 ⟨y13, y14, ha, hB11, hS12, hF⟩ KL16 hKL16
  refine W.at ?_ ha
  cases m17 with
  | zero => exact noneE hF
  | succ m17 =>
   obtain ⟨nx15, hnx15⟩ : ∃ k, k = F_impl_totalCounts_L1 x0 m17 := ⟨_, rfl⟩
   rw [F_impl_totalCounts_L1, ← hnx15] at hF
   refine W.seq fun K18 hK18 => W.region (wl_lss rfl rfl rfl (WL.nil (fun a ha => hK18 _ _ (W.seq fun K19 hK19 => (W.cond rfl (fun h20 => ?_) (fun h20 => ?_))) a ha)))
   ·replace hF := ifP h20 hF
    refine W.skip fun a ha => hK19 _ _ (W.seq fun K21 hK21 => (W.block (W.seq fun K22 hK22 => (W.region ?_)))) a ha
    obtain ⟨u23, hu23, hF⟩ := bindE hF
    refine wl_index (e := ty_3) Tryz.underlying25 rfl rfl rfl h0_1 hu23 ?_
    rintro p24 _ rfl hp25
    refine wl_load_p (vs := [(.int .i64 u23)]) (v := (.int .i64 u23)) tf_3 rfl rfl (hp25.ro hB11) rfl rfl (wl_assign rfl rfl (WL.nil (fun a ha => hK22 _ _ (W.region (wl_move rfl rfl (wl_move rfl rfl (wl_add rfl rfl rfl (wl_assign rfl rfl (WL.nil (fun a ha => hK21 _ _ (W.region (wl_add rfl rfl rfl (wl_move rfl rfl ?_))) a ha))))))) a ha)))
    refine WL.nil ?_
    rw [hnx15] at hF
    exact fun a ha => hKL16 a _ m17 (Nat.lt_succ_self m17) ⟨(w64 (y13 + u23)), (w64 (y14 + 1)), ha.sub ⟨rfl, rfl, rfl, rfl, trivial⟩, hB11, (hS12.sel [] rfl), hF⟩
   ·replace hF := ifN h20 hF
    refine W.exit fun a ha => hK8 _ _ (W.seq fun K26 hK26 => (W.region (wl_move rfl rfl (wl_assign rfl rfl (WL.nil (fun a ha => hK26 _ _ (W.ret ?_) a ha)))))) a ha
    have hr := Option.some.inj hF
    subst hr
    exact rets (vs := [(.int .i64 y13)]) hQ rfl ⟨rv_tmp rfl, trivial⟩ ⟨rfl, hB11⟩
theorem C_impl_ownCount (w0 : World) (x0 : (((List (List (Int × Int))) × (List Int) × Int × Int) × Int × (List Int) × (List Int))) (v0_0 : Value) (h0_0 : rdS ty_66 (· < w0.heap.size) w0 v0_0 x0.1.1) (v0_1 : Value) (h0_1 : rdS ty_3 (· < w0.heap.size) w0 v0_1 x0.1.2.1) (v0_2 : Value) (h0_2 : rdS ty_3 (· < w0.heap.size) w0 v0_2 x0.2.2.1) (v0_3 : Value) (h0_3 : rdS ty_3 (· < w0.heap.size) w0 v0_3 x0.2.2.2) (x1 : Int) (r : Int) (hF : F_impl_ownCount x0 x1 = some r) :
  Calls Tryz.prog 68 [(.agg #[v0_0, v0_1, (.int .i64 x0.1.2.2.1), (.int .i64 x0.1.2.2.2), (.int .i64 x0.2.1), v0_2, v0_3]), (.int .i64 x1)].toArray w0 fun e w' => e = .returned (.int .i64 r) ∧ Below w0.heap.size w0 w' := by
 refine calls_mk' Tryz.func68 rfl Tryz.ntmps68 rfl rfl fun Q hQ hP => ?_
 have hB : Below w0.heap.size w0 w0 := Below.refl _ _
 have hS : Sep w0.heap.size w0 [] := Sep.nil _ _
 unfold F_impl_ownCount at hF
 refine W.seq fun K1 hK1 => W.region (wl_box (cs := [v0_0, v0_1, (.int .i64 x0.1.2.2.1), (.int .i64 x0.1.2.2.2), (.int .i64 x0.2.1), v0_2, v0_3]) rfl rfl rfl hB hS ?_)
 intro b2 w3 hb4 hB5 hS6
 refine wl_assign rfl rfl (WL.nil (fun a ha => hK1 _ _ (W.seq fun K7 hK7 => (W.regionH mixed_ [] hB5 hS6 ?_)) a ha))
 intro w8 hb9 hB10 hS11
 have hSW12 := KeepX.refl w8 []
 refine WH.tk 0 rfl hP hSW12 (pr_field (o := 4) (off' := 4) ff_29_1 rfl rfl rfl (WH.tk 1 rfl hP hSW12 (pr_load_blk (i := 0) (vs := [(.int .i64 x0.2.1)]) (v := (.int .i64 x0.2.1)) tf_3 rfl rfl hS11 rfl rfl rfl (by simp) (WH.tk 2 rfl hP hSW12 (pr_field (o := 6) (off' := 6) ff_29_3 rfl rfl rfl (WH.tk 3 rfl hP hSW12 (pr_load_blk (i := 0) (vs := [v0_3]) (v := v0_3) tf_25 rfl rfl hS11 rfl rfl rfl (by simp) (WH.tk 4 rfl hP hSW12 (pr_move rfl rfl ?_)))))))))
 obtain ⟨u13, hu13, hF⟩ := bindE hF
 refine WH.tk 5 rfl hP hSW12 (pr_index (e := ty_3) Tryz.underlying25 rfl rfl rfl h0_3 hu13 ?_)
 rintro p14 _ rfl hp15
 refine WH.tk 6 rfl hP hSW12 (pr_load_p (vs := [(.int .i64 u13)]) (v := (.int .i64 u13)) tf_3 rfl rfl (hp15.kx hB10 (by simp)) rfl rfl (WH.tk 7 rfl hP hSW12 (pr_sub rfl rfl rfl (WH.tk 8 rfl hP hSW12 (pr_field (o := 0) (off' := 0) ff_29_0 rfl rfl rfl (WH.tk 9 rfl hP hSW12 (pr_load_blk (i := 0) (vs := [v0_0, v0_1, (.int .i64 x0.1.2.2.1), (.int .i64 x0.1.2.2.2)]) (v := (.agg #[v0_0, v0_1, (.int .i64 x0.1.2.2.1), (.int .i64 x0.1.2.2.2)])) tf_27 rfl rfl hS11 rfl rfl rfl (by simp) (WH.on1 10 rfl ?_))))))))
 obtain ⟨u16, hu16, hF⟩ := bindE hF
 refine wl_call rfl Tryz.call86 (C_impl_totalCounts w8 x0.1 v0_0 (h0_0.ro hB10) v0_1 (h0_1.ro hB10) _ hu16) rfl ?_
 rintro _ w17 ⟨rfl, hb18⟩
 refine ⟨_, rfl, ?_⟩
 have hB19 := hB10.trans (hb18.mono hB10.size)
 have hSW22 := hSW12.ext hb18
 refine WL.nil (WH.ret hSW22 (WH.tk 11 rfl hP hSW22 (pr_min rfl rfl rfl (WH.tk 12 rfl hP hSW22 (pr_assign rfl rfl (WH.done (by kernel_rfl) (fun a ha => hK7 _ _ (W.ret ?_) a ha)))))))
 have hr := Option.some.inj hF
 subst hr
 exact rets (vs := [(.int .i64 (minI (w64 (x0.2.1 - u13)) u16))]) hQ rfl ⟨rv_tmp rfl, trivial⟩ ⟨rfl, hB19⟩
theorem C_impl_IsSheet (w0 : World) (x0 : (Int × (Int × Int) × (List (Int × (Int × Int))))) (v0_0 : Value) (h0_0 : rdS ty_104 (· < w0.heap.size) w0 v0_0 x0.2.2) (r : Bool) (hF : F_impl_IsSheet x0 = some r) :
  Calls Tryz.prog 83 [(.agg #[(.int .i64 x0.1), (.int .i64 x0.2.1.1), (.int .i64 x0.2.1.2), v0_0])].toArray w0 fun e w' => e = .returned (.bool r) ∧ Below w0.heap.size w0 w' := by
 refine calls_mk' Tryz.func83 rfl Tryz.ntmps83 rfl rfl fun Q hQ hP => ?_
 have hB : Below w0.heap.size w0 w0 := Below.refl _ _
 have hS : Sep w0.heap.size w0 [] := Sep.nil _ _
 unfold F_impl_IsSheet at hF
 refine W.seq fun K1 hK1 => W.region (wl_box (cs := [(.int .i64 x0.1), (.int .i64 x0.2.1.1), (.int .i64 x0.2.1.2), v0_0]) rfl rfl rfl hB hS ?_)
 intro b2 w3 hb4 hB5 hS6
 refine wl_assign rfl rfl (WL.nil (fun a ha => hK1 _ _ (W.seq fun K7 hK7 => (W.seq fun K8 hK8 => ?_)) a ha))
 obtain ⟨k13, hk13, hF⟩ := jE1 hF
 have hJ14 : ∀ (y12 : Bool) (w9 : World) (_ : k13 y12 = some r) (_ : Below w0.heap.size w0 w9) (_ : Sep w0.heap.size w9 [R.blk b2 86 [(.int .i64 x0.1), (.int .i64 x0.2.1.1), (.int .i64 x0.2.1.2), v0_0]]), ∀ a, St 39 [(1, (.pointer (some ⟨b2, 0, none⟩))), (20, (.bool y12))] a → K8 a w9 := by
  intro y12 w9 hF hB10 hS11
  subst hk13
  refine fun a ha => hK8 _ _ (W.cond rfl (fun h15 => ?_) (fun h15 => ?_)) a ha
  ·replace hF := ifP h15 hF
   refine W.seq fun K16 hK16 => W.region (wl_assign rfl rfl (WL.nil (fun a ha => hK16 _ _ (W.ret ?_) a ha)))
   have hr := Option.some.inj hF
   subst hr
   exact rets (vs := [(.bool false)]) hQ rfl ⟨rv_tmp rfl, trivial⟩ ⟨rfl, hB10⟩
  ·replace hF := ifN h15 hF
   refine W.skip fun a ha => hK7 _ _ (W.seq fun K17 hK17 => (W.seq fun K18 hK18 => (W.region (wl_field (o := 3) (off' := 3) ff_86_2 rfl rfl rfl (wl_load_blk (i := 0) (vs := [v0_0]) (v := v0_0) tf_84 rfl rfl hS11 rfl rfl rfl (wl_lenr (e := ty_104) (l := x0.2.2) Tryz.underlying84 rfl rfl h0_0 (wl_move rfl rfl (WL.nil (fun a ha => hK18 _ _ (W.block (W.loopk (fun m a w19 => ∃ (y22 : Int), St 39 [(22, v0_0), (23, (.int .i64 (List.length x0.2.2 : Int))), (24, (.int .i64 y22))] a ∧ Below w0.heap.size w0 w19 ∧ Sep w0.heap.size w19 [] ∧ F_impl_IsSheet_L1 x0 m y22 = some r) FU ?_ ?_)) a ha))))))))) a ha
   ·
    exact fun a ha => ⟨0, ha.sub ⟨rfl, rfl, rfl, trivial⟩, hB10, (hS11.sel [] rfl), hF⟩
   ·
    rintro m25 a w19 ⟨y22, ha, hB20, hS21, hF⟩ KL24 hKL24
    refine W.at ?_ ha
    cases m25 with
    | zero => exact noneE hF
    | succ m25 =>
     obtain ⟨nx23, hnx23⟩ : ∃ k, k = F_impl_IsSheet_L1 x0 m25 := ⟨_, rfl⟩
     rw [F_impl_IsSheet_L1, ← hnx23] at hF
     refine W.seq fun K26 hK26 => W.region (wl_lss rfl rfl rfl (WL.nil (fun a ha => hK26 _ _ (W.seq fun K27 hK27 => (W.cond rfl (fun h28 => ?_) (fun h28 => ?_))) a ha)))
     ·replace hF := ifP h28 hF
      refine W.skip fun a ha => hK27 _ _ (W.seq fun K29 hK29 => (W.block (W.seq fun K30 hK30 => (W.region ?_)))) a ha
      obtain ⟨u31, hu31, hF⟩ := bindE hF
      refine wl_index (e := ty_104) Tryz.underlying84 rfl rfl rfl h0_0 hu31 ?_
      rintro p32 _ rfl hp33
      refine wl_load_p (vs := [(.int .i64 u31.1), (.int .i64 u31.2.1), (.int .i64 u31.2.2)]) (v := (.agg #[(.int .i64 u31.1), (.int .i64 u31.2.1), (.int .i64 u31.2.2)])) tf_104 rfl rfl (hp33.ro hB20) rfl rfl (wl_alloc (cs := [(.int .i64 0), (.int .i64 0), (.int .i64 0)]) tf_104 rfl rfl hB20 hS21 ?_)
      intro b34 w35 hb36 hB37 hS38
      refine wl_store_blk (i := 0) (vs := [(.int .i64 u31.1), (.int .i64 u31.2.1), (.int .i64 u31.2.2)]) (cs' := [(.int .i64 u31.1), (.int .i64 u31.2.1), (.int .i64 u31.2.2)]) tf_104 rfl rfl rfl rfl hB37 hS38 rfl rfl ⟨rfl, rfl, rfl, trivial⟩ rfl ?_
      intro w39 hk42 hB40 hS41
      refine WL.nil fun a ha => hK30 _ _ (W.seq fun K43 hK43 => ?_) a ha
      obtain ⟨k48, hk48, hF⟩ := jE1 hF
      have hJ49 : ∀ (y47 : Bool) (w44 : World) (_ : k48 y47 = some r) (_ : Below w0.heap.size w0 w44) (_ : Sep w0.heap.size w44 []), ∀ a, St 39 [(22, v0_0), (23, (.int .i64 (List.length x0.2.2 : Int))), (24, (.int .i64 y22)), (37, (.bool y47))] a → K43 a w44 := by
       intro y47 w44 hF hB45 hS46
       subst hk48
       refine fun a ha => hK43 _ _ (W.cond rfl (fun h50 => ?_) (fun h50 => ?_)) a ha
       ·replace hF := ifP h50 hF
        refine W.seq fun K51 hK51 => W.region (wl_assign rfl rfl (WL.nil (fun a ha => hK51 _ _ (W.ret ?_) a ha)))
        have hr := Option.some.inj hF
        subst hr
        exact rets (vs := [(.bool false)]) hQ rfl ⟨rv_tmp rfl, trivial⟩ ⟨rfl, hB45⟩
       ·replace hF := ifN h50 hF
        refine W.skip fun a ha => hK29 _ _ (W.region (wl_add rfl rfl rfl (wl_move rfl rfl (WL.nil ?_)))) a ha
        rw [hnx23] at hF
        exact fun a ha => hKL24 a _ m25 (Nat.lt_succ_self m25) ⟨(w64 (y22 + 1)), ha.sub ⟨rfl, rfl, rfl, trivial⟩, hB45, (hS46.sel [] rfl), hF⟩
      refine W.region (wl_field (o := 0) (off' := 0) ff_104_0 rfl rfl rfl (wl_load_blk (i := 0) (vs := [(.int .i64 u31.1)]) (v := (.int .i64 u31.1)) tf_3 rfl rfl hS41 rfl rfl rfl ?_))
      obtain ⟨u52, hu52, hF⟩ := bindE hF
      refine wl_call rfl Tryz.call37 (C_impl_within w39 u31.1 1 64 _ hu52) rfl ?_
      rintro _ w53 ⟨rfl, hb54⟩
      refine ⟨_, rfl, ?_⟩
      have hB55 := hB40.trans (hb54.mono hB40.size)
      have hS56 := hS41.below hb54
      refine wl_not rfl rfl (wl_move rfl rfl ?_)
      rcases bE (!u52) with h58 | h58
      ·replace hF := ifP h58 hF
       refine wl_off rfl rfl rfl h58 (wl_off rfl rfl rfl h58 (wl_off rfl rfl rfl h58 (wl_off rfl rfl rfl h58 (wl_pick_t rfl rfl h58 rfl (WL.nil ?_)))))
       exact fun a ha => hJ49 (true) _ hF hB55 (hS56.sel [] rfl) a (ha.sub ⟨rfl, rfl, rfl, rfl, trivial⟩)
      ·replace hF := ifN h58 hF
       refine wl_on rfl rfl h58 (wl_field (o := 1) (off' := 1) ff_104_1 rfl rfl rfl (wl_on rfl rfl h58 (wl_load_blk (i := 0) (vs := [(.int .i64 u31.2.1), (.int .i64 u31.2.2)]) (v := (.agg #[(.int .i64 u31.2.1), (.int .i64 u31.2.2)])) tf_42 rfl rfl hS56 rfl rfl rfl (wl_on rfl rfl h58 ?_))))
       obtain ⟨u59, hu59, hF⟩ := bindE hF
       refine wl_call rfl Tryz.call107 (C_impl_IsSpot w53 u31.2 _ hu59) rfl ?_
       rintro _ w60 ⟨rfl, hb61⟩
       refine ⟨_, rfl, ?_⟩
       have hB62 := hB55.trans (hb61.mono hB55.size)
       have hS63 := hS56.below hb61
       refine wl_on rfl rfl h58 (wl_not rfl rfl (wl_pick_f rfl rfl h58 rfl (WL.nil ?_)))
       exact fun a ha => hJ49 ((!u59)) _ hF hB62 (hS63.sel [] rfl) a (ha.sub ⟨rfl, rfl, rfl, rfl, trivial⟩)
     ·replace hF := ifN h28 hF
      refine W.exit fun a ha => hK17 _ _ (W.seq fun K65 hK65 => (W.region (wl_assign rfl rfl (WL.nil (fun a ha => hK65 _ _ (W.ret ?_) a ha))))) a ha
      have hr := Option.some.inj hF
      subst hr
      exact rets (vs := [(.bool true)]) hQ rfl ⟨rv_tmp rfl, trivial⟩ ⟨rfl, hB20⟩
 refine W.region (wl_field (o := 0) (off' := 0) ff_86_0 rfl rfl rfl (wl_load_blk (i := 0) (vs := [(.int .i64 x0.1)]) (v := (.int .i64 x0.1)) tf_3 rfl rfl hS6 rfl rfl rfl ?_))
 obtain ⟨u66, hu66, hF⟩ := bindE hF
 refine wl_call rfl Tryz.call37 (C_impl_within w3 x0.1 0 11 _ hu66) rfl ?_
 rintro _ w67 ⟨rfl, hb68⟩
 refine ⟨_, rfl, ?_⟩
 have hB69 := hB5.trans (hb68.mono hB5.size)
 have hS70 := hS6.below hb68
 refine wl_not rfl rfl (wl_move rfl rfl ?_)
 rcases bE (!u66) with h72 | h72
 ·replace hF := ifP h72 hF
  refine wl_off rfl rfl rfl h72 (wl_off rfl rfl rfl h72 (wl_off rfl rfl rfl h72 (wl_off rfl rfl rfl h72 (wl_pick_t rfl rfl h72 rfl (wl_move rfl rfl (wl_off rfl rfl rfl rfl (wl_off rfl rfl rfl rfl (wl_off rfl rfl rfl rfl (wl_off rfl rfl rfl rfl (wl_pick_t rfl rfl rfl rfl (WL.nil ?_)))))))))))
  exact fun a ha => hJ14 (true) _ hF hB69 (hS70.sel [0] rfl) a (ha.sub ⟨rfl, rfl, trivial⟩)
 ·replace hF := ifN h72 hF
  refine wl_on rfl rfl h72 (wl_field (o := 1) (off' := 1) ff_86_1 rfl rfl rfl (wl_on rfl rfl h72 (wl_load_blk (i := 0) (vs := [(.int .i64 x0.2.1.1), (.int .i64 x0.2.1.2)]) (v := (.agg #[(.int .i64 x0.2.1.1), (.int .i64 x0.2.1.2)])) tf_42 rfl rfl hS70 rfl rfl rfl (wl_on rfl rfl h72 ?_))))
  obtain ⟨u73, hu73, hF⟩ := bindE hF
  refine wl_call rfl Tryz.call107 (C_impl_IsSpot w67 x0.2.1 _ hu73) rfl ?_
  rintro _ w74 ⟨rfl, hb75⟩
  refine ⟨_, rfl, ?_⟩
  have hB76 := hB69.trans (hb75.mono hB69.size)
  have hS77 := hS70.below hb75
  refine wl_on rfl rfl h72 (wl_not rfl rfl (wl_pick_f rfl rfl h72 rfl (wl_move rfl rfl ?_)))
  rcases bE (!u73) with h79 | h79
  ·replace hF := ifP h79 hF
   refine wl_off rfl rfl rfl h79 (wl_off rfl rfl rfl h79 (wl_off rfl rfl rfl h79 (wl_off rfl rfl rfl h79 (wl_pick_t rfl rfl h79 rfl (WL.nil ?_)))))
   exact fun a ha => hJ14 (true) _ hF hB76 (hS77.sel [0] rfl) a (ha.sub ⟨rfl, rfl, trivial⟩)
  ·replace hF := ifN h79 hF
   refine wl_on rfl rfl h79 (wl_field (o := 3) (off' := 3) ff_86_2 rfl rfl rfl (wl_on rfl rfl h79 (wl_load_blk (i := 0) (vs := [v0_0]) (v := v0_0) tf_84 rfl rfl hS77 rfl rfl rfl (wl_on rfl rfl h79 (wl_lenr (e := ty_104) (l := x0.2.2) Tryz.underlying84 rfl rfl h0_0 (wl_on rfl rfl h79 (wl_gtr rfl rfl rfl (wl_pick_f rfl rfl h79 rfl (WL.nil ?_)))))))))
   exact fun a ha => hJ14 ((decide (8 < (List.length x0.2.2 : Int)))) _ hF hB76 (hS77.sel [0] rfl) a (ha.sub ⟨rfl, rfl, trivial⟩)
theorem C_impl_sheetMoves (w0 : World) (x0 : (Int × (Int × Int) × (List (Int × (Int × Int))))) (v0_0 : Value) (h0_0 : rdS ty_104 (· < w0.heap.size) w0 v0_0 x0.2.2) (r : (List ((Int × Int) × (Int × Int) × Int))) (hF : F_impl_sheetMoves x0 = some r) :
  Calls Tryz.prog 84 [(.agg #[(.int .i64 x0.1), (.int .i64 x0.2.1.1), (.int .i64 x0.2.1.2), v0_0])].toArray w0 fun e w' => ∃ (q0 : Value) (G0 : List Nat), e = .returned q0 ∧ Below w0.heap.size w0 w' ∧ Sep w0.heap.size w' [R.own ty_101 G0 q0 r] := by
 refine calls_mk' Tryz.func84 rfl Tryz.ntmps84 rfl rfl fun Q hQ hP => ?_
 have hB : Below w0.heap.size w0 w0 := Below.refl _ _
 have hS : Sep w0.heap.size w0 [] := Sep.nil _ _
 unfold F_impl_sheetMoves at hF
 refine W.seq fun K1 hK1 => W.region (wl_box (cs := [(.int .i64 x0.1), (.int .i64 x0.2.1.1), (.int .i64 x0.2.1.2), v0_0]) rfl rfl rfl hB hS ?_)
 intro b2 w3 hb4 hB5 hS6
 refine wl_assign rfl rfl (WL.nil (fun a ha => hK1 _ _ (W.seq fun K7 hK7 => ?_) a ha))
 obtain ⟨k17, hk17, hF⟩ := jE3 hF
 have hJ18 : ∀ (l11 : (List ((Int × Int) × (Int × Int) × Int))) (y15 : Int) (y16 : Int) (v12 : Value) (F13 : List Nat) (b14 : Nat) (w8 : World) (_ : k17 l11 y15 y16 = some r) (_ : Below w0.heap.size w0 w8) (_ : Sep w0.heap.size w8 [R.blk b2 86 [(.int .i64 x0.1), (.int .i64 x0.2.1.1), (.int .i64 x0.2.1.2), v0_0], R.own ty_101 F13 v12 l11, R.blk b14 42 [(.int .i64 y15), (.int .i64 y16)]]), ∀ a, St 30 [(1, (.pointer (some ⟨b2, 0, none⟩))), (3, v12), (4, (.pointer (some ⟨b14, 0, none⟩)))] a → K7 a w8 := by
  intro l11 y15 y16 v12 F13 b14 w8 hF hB9 hS10
  subst hk17
  refine fun a ha => hK7 _ _ (W.seq fun K19 hK19 => (W.seq fun K20 hK20 => (W.region (wl_field (o := 3) (off' := 3) ff_86_2 rfl rfl rfl (wl_load_blk (i := 0) (vs := [v0_0]) (v := v0_0) tf_84 rfl rfl hS10 rfl rfl rfl (wl_lenr (e := ty_104) (l := x0.2.2) Tryz.underlying84 rfl rfl h0_0 (wl_move rfl rfl (WL.nil (fun a ha => hK20 _ _ (W.block (W.loopk (fun m a w21 => ∃ (l24 : (List ((Int × Int) × (Int × Int) × Int))) (y27 : Int) (y28 : Int) (y29 : Int) (v25 : Value) (F26 : List Nat), St 30 [(3, v25), (4, (.pointer (some ⟨b14, 0, none⟩))), (11, v0_0), (12, (.int .i64 (List.length x0.2.2 : Int))), (13, (.int .i64 y29))] a ∧ Below w0.heap.size w0 w21 ∧ Sep w0.heap.size w21 [R.own ty_101 F26 v25 l24, R.blk b14 42 [(.int .i64 y27), (.int .i64 y28)]] ∧ F_impl_sheetMoves_L1 x0 m l24 y27 y28 y29 = some r) FU ?_ ?_)) a ha))))))))) a ha
  ·
   exact fun a ha => ⟨l11, y15, y16, 0, v12, F13, ha.sub ⟨rfl, rfl, rfl, rfl, rfl, trivial⟩, hB9, (hS10.sel [1, 2] rfl), hF⟩
  ·
   rintro m32 a w21 ⟨l24, y27, y28, y29, v25, F26, ha, hB22, hS23, hF⟩ KL31 hKL31
   refine W.at ?_ ha
   cases m32 with
   | zero => exact noneE hF
   | succ m32 =>
    obtain ⟨nx30, hnx30⟩ : ∃ k, k = F_impl_sheetMoves_L1 x0 m32 := ⟨_, rfl⟩
    rw [F_impl_sheetMoves_L1, ← hnx30] at hF
    refine W.seq fun K33 hK33 => W.region (wl_lss rfl rfl rfl (WL.nil (fun a ha => hK33 _ _ (W.seq fun K34 hK34 => (W.cond rfl (fun h35 => ?_) (fun h35 => ?_))) a ha)))
    ·replace hF := ifP h35 hF
     refine W.skip fun a ha => hK34 _ _ (W.seq fun K36 hK36 => (W.block (W.seq fun K37 hK37 => (W.region ?_)))) a ha
     obtain ⟨u38, hu38, hF⟩ := bindE hF
     refine wl_index (e := ty_104) Tryz.underlying84 rfl rfl rfl h0_0 hu38 ?_
     rintro p39 _ rfl hp40
     refine wl_load_p (vs := [(.int .i64 u38.1), (.int .i64 u38.2.1), (.int .i64 u38.2.2)]) (v := (.agg #[(.int .i64 u38.1), (.int .i64 u38.2.1), (.int .i64 u38.2.2)])) tf_104 rfl rfl (hp40.ro hB22) rfl rfl (wl_alloc (cs := [(.int .i64 0), (.int .i64 0), (.int .i64 0)]) tf_104 rfl rfl hB22 hS23 ?_)
     intro b41 w42 hb43 hB44 hS45
     refine wl_store_blk (i := 0) (vs := [(.int .i64 u38.1), (.int .i64 u38.2.1), (.int .i64 u38.2.2)]) (cs' := [(.int .i64 u38.1), (.int .i64 u38.2.1), (.int .i64 u38.2.2)]) tf_104 rfl rfl rfl rfl hB44 hS45 rfl rfl ⟨rfl, rfl, rfl, trivial⟩ rfl ?_
     intro w46 hk49 hB47 hS48
     refine WL.nil fun a ha => hK37 _ _ (W.seq fun K50 hK50 => (W.region (wl_move rfl rfl (wl_load_blk (i := 2) (vs := [(.int .i64 y27), (.int .i64 y28)]) (v := (.agg #[(.int .i64 y27), (.int .i64 y28)])) tf_42 rfl rfl hS48 rfl rfl rfl (wl_field (o := 1) (off' := 1) ff_104_1 rfl rfl rfl (wl_load_blk (i := 0) (vs := [(.int .i64 u38.2.1), (.int .i64 u38.2.2)]) (v := (.agg #[(.int .i64 u38.2.1), (.int .i64 u38.2.2)])) tf_42 rfl rfl hS48 rfl rfl rfl (wl_field (o := 0) (off' := 0) ff_104_0 rfl rfl rfl (wl_load_blk (i := 0) (vs := [(.int .i64 u38.1)]) (v := (.int .i64 u38.1)) tf_3 rfl rfl hS48 rfl rfl rfl ?_)))))))) a ha
     refine wl_build (zs := [(.int .i64 0), (.int .i64 0), (.int .i64 0), (.int .i64 0), (.int .i64 0)]) (out := [(.int .i64 y27), (.int .i64 y28), (.int .i64 u38.2.1), (.int .i64 u38.2.2), (.int .i64 u38.1)]) (vs := [(.agg #[(.int .i64 y27), (.int .i64 y28)]), (.agg #[(.int .i64 u38.2.1), (.int .i64 u38.2.2)]), (.int .i64 u38.1)]) (css := [[(.int .i64 y27), (.int .i64 y28)], [(.int .i64 u38.2.1), (.int .i64 u38.2.2)], [(.int .i64 u38.1)]]) tf_101 pl_101 rfl rfl rfl rfl rfl (wl_lit (vs := [(.agg #[(.int .i64 y27), (.int .i64 y28), (.int .i64 u38.2.1), (.int .i64 u38.2.2), (.int .i64 u38.1)])]) (l := [((y27, y28), u38.2, u38.1)]) fl_101 Tryz.underlying98 rfl rfl rfl rfl rfl rfl hB47 hS48 ?_)
     intro v51 F52 w53 hb54 hB55 hS56
     obtain ⟨u57, hu57, hF⟩ := bindE hF
     refine wl_append (i := 2) (S := (· < w53.heap.size)) fl_101 Tryz.underlying98 rfl rfl rfl hB55 hS56 rfl (hS56.own_ro (i := 0) rfl) hu57 ?_
     intro v58 F59 w60 hk61 hB62 hS63
     refine wl_assign rfl rfl (WL.nil (fun a ha => hK50 _ _ (W.region (wl_field (o := 1) (off' := 1) ff_104_1 rfl rfl rfl (wl_load_blk (i := 1) (vs := [(.int .i64 u38.2.1), (.int .i64 u38.2.2)]) (v := (.agg #[(.int .i64 u38.2.1), (.int .i64 u38.2.2)])) tf_42 rfl rfl hS63 rfl rfl rfl (wl_store_blk (i := 3) (vs := [(.int .i64 u38.2.1), (.int .i64 u38.2.2)]) (cs' := [(.int .i64 u38.2.1), (.int .i64 u38.2.2)]) tf_42 rfl rfl rfl rfl hB62 hS63 rfl rfl ⟨rfl, rfl, trivial⟩ rfl ?_)))) a ha))
     intro w65 hk68 hB66 hS67
     refine WL.nil fun a ha => hK36 _ _ (W.region (wl_add rfl rfl rfl (wl_move rfl rfl (WL.nil ?_)))) a ha
     rw [hnx30] at hF
     exact fun a ha => hKL31 a _ m32 (Nat.lt_succ_self m32) ⟨u57, u38.2.1, u38.2.2, (w64 (y29 + 1)), v58, F59, ha.sub ⟨rfl, rfl, rfl, rfl, rfl, trivial⟩, hB66, (hS67.sel [2, 3] rfl), hF⟩
    ·replace hF := ifN h35 hF
     refine W.exit fun a ha => hK19 _ _ (W.seq fun K69 hK69 => (W.region (wl_move rfl rfl (wl_assign rfl rfl (WL.nil (fun a ha => hK69 _ _ (W.ret ?_) a ha)))))) a ha
     have hr := Option.some.inj hF
     subst hr
     exact rets (vs := [v25]) hQ rfl ⟨rv_tmp rfl, trivial⟩ ⟨v25, F26, rfl, hB22, hS23.sel [0] rfl⟩
 refine W.regionH mixed_ [] hB5 hS6 ?_
 intro w70 hb71 hB72 hS73
 have hSW74 := KeepX.refl w70 []
 refine WH.tk 1 rfl hP hSW74 (pr_field (o := 1) (off' := 1) ff_86_1 rfl rfl rfl (WH.tk 2 rfl hP hSW74 (pr_load_blk (i := 0) (vs := [(.int .i64 x0.2.1.1), (.int .i64 x0.2.1.2)]) (v := (.agg #[(.int .i64 x0.2.1.1), (.int .i64 x0.2.1.2)])) tf_42 rfl rfl hS73 rfl rfl rfl (by simp) (WH.many (is := [0, 3]) (by kernel_rfl) rfl (List.forall_mem_cons.2 ⟨⟨_, rfl, ?_⟩, List.forall_mem_cons.2 ⟨⟨_, rfl, ?_⟩, fun _ h => by cases h⟩⟩)))))
 ·
  refine wl_lit (vs := []) (l := []) fl_101 Tryz.underlying98 rfl rfl rfl rfl rfl rfl (Below.self w70) (Sep.nil _ _) ?_
  intro v75 F76 w77 hb78 hB81 hM82
  have hB79 := hB72.trans (hb78.mono hB72.size)
  have hS80 := hS73.join hb78 hM82 hB72.size
  have hSW84 := hSW74.ext hb78
  refine WL.nil (WH.ret hSW84 (WH.on1 3 rfl (wl_alloc (cs := [(.int .i64 0), (.int .i64 0)]) tf_42 rfl rfl (Below.self w77) (Sep.nil _ _) ?_)))
  intro b85 w86 hb87 hB90 hM91
  have hB88 := hB79.trans (hb87.mono hB79.size)
  have hS89 := hS80.join hb87 hM91 hB79.size
  have hn92 : ∀ b ∈ [b85], w70.heap.size ≤ b := fun b hb => Nat.le_trans hSW84.size ((hM91.1 _ (List.mem_cons_self ..)).2.1 b hb).1
  have hSW93 := hSW84.ext hb87
  refine WL.nil (WH.ret hSW93 (WH.tk 4 rfl hP hSW93 (pr_assign rfl rfl (WH.on1 5 rfl (wl_store_blk (i := 0) (vs := [(.int .i64 x0.2.1.1), (.int .i64 x0.2.1.2)]) (cs' := [(.int .i64 x0.2.1.1), (.int .i64 x0.2.1.2)]) tf_42 rfl rfl rfl rfl hB88 hS89 rfl rfl ⟨rfl, rfl, trivial⟩ rfl ?_)))))
  intro w94 hk97 hB95 hS96
  have hSW98 := hSW93.wr' hk97.1 hk97.2.1 (fun b hlt hb => absurd hlt (Nat.not_lt.2 (hn92 b hb)))
  refine WL.nil (WH.ret hSW98 (WH.done (by kernel_rfl) ?_))
  exact fun a ha => hJ18 ([]) (x0.2.1.1) (x0.2.1.2) (v75) (F76) (b85) _ hF hB95 (hS96.sel [2, 1, 0] rfl) a (ha.sub ⟨rfl, rfl, rfl, trivial⟩)
 ·
  refine wl_alloc (cs := [(.int .i64 0), (.int .i64 0)]) tf_42 rfl rfl (Below.self w70) (Sep.nil _ _) ?_
  intro b100 w101 hb102 hB105 hM106
  have hB103 := hB72.trans (hb102.mono hB72.size)
  have hS104 := hS73.join hb102 hM106 hB72.size
  have hn107 : ∀ b ∈ [b100], w70.heap.size ≤ b := fun b hb => Nat.le_trans hSW74.size ((hM106.1 _ (List.mem_cons_self ..)).2.1 b hb).1
  have hSW108 := hSW74.ext hb102
  refine WL.nil (WH.ret hSW108 (WH.on1 0 rfl (wl_lit (vs := []) (l := []) fl_101 Tryz.underlying98 rfl rfl rfl rfl rfl rfl (Below.self w101) (Sep.nil _ _) ?_)))
  intro v109 F110 w111 hb112 hB115 hM116
  have hB113 := hB103.trans (hb112.mono hB103.size)
  have hS114 := hS104.join hb112 hM116 hB103.size
  have hSW118 := hSW108.ext hb112
  refine WL.nil (WH.ret hSW118 (WH.tk 4 rfl hP hSW118 (pr_assign rfl rfl (WH.on1 5 rfl (wl_store_blk (i := 1) (vs := [(.int .i64 x0.2.1.1), (.int .i64 x0.2.1.2)]) (cs' := [(.int .i64 x0.2.1.1), (.int .i64 x0.2.1.2)]) tf_42 rfl rfl rfl rfl hB113 hS114 rfl rfl ⟨rfl, rfl, trivial⟩ rfl ?_)))))
  intro w119 hk122 hB120 hS121
  have hSW123 := hSW118.wr' hk122.1 hk122.2.1 (fun b hlt hb => absurd hlt (Nat.not_lt.2 (hn107 b hb)))
  refine WL.nil (WH.ret hSW123 (WH.done (by kernel_rfl) ?_))
  exact fun a ha => hJ18 ([]) (x0.2.1.1) (x0.2.1.2) (v109) (F110) (b100) _ hF hB120 (hS121.sel [2, 0, 1] rfl) a (ha.sub ⟨rfl, rfl, rfl, trivial⟩)
theorem C_impl_placeAt (w0 : World) (x0 : ((Int × Int) × (Int × Int) × Int)) (x1 : Int) (r : (Int × Int)) (hF : F_impl_placeAt x0 x1 = some r) :
  Calls Tryz.prog 109 [(.agg #[(.int .i64 x0.1.1), (.int .i64 x0.1.2), (.int .i64 x0.2.1.1), (.int .i64 x0.2.1.2), (.int .i64 x0.2.2)]), (.int .i64 x1)].toArray w0 fun e w' => e = .returned (.tuple #[(.int .i64 r.1), (.int .i64 r.2)]) ∧ Below w0.heap.size w0 w' := by
 refine calls_mk' Tryz.func109 rfl Tryz.ntmps109 rfl rfl fun Q hQ hP => ?_
 have hB : Below w0.heap.size w0 w0 := Below.refl _ _
 have hS : Sep w0.heap.size w0 [] := Sep.nil _ _
 unfold F_impl_placeAt at hF
 refine W.seq fun K1 hK1 => W.region (wl_box (cs := [(.int .i64 x0.1.1), (.int .i64 x0.1.2), (.int .i64 x0.2.1.1), (.int .i64 x0.2.1.2), (.int .i64 x0.2.2)]) rfl rfl rfl hB hS ?_)
 intro b2 w3 hb4 hB5 hS6
 refine wl_assign rfl rfl (wl_assign rfl rfl (WL.nil (fun a ha => hK1 _ _ (W.seq fun K7 hK7 => (W.regionH mixed_ [] hB5 hS6 ?_)) a ha)))
 intro w8 hb9 hB10 hS11
 have hSW12 := KeepX.refl w8 []
 refine WH.tk 0 rfl hP hSW12 (pr_field (o := 0) (off' := 0) ff_101_0 rfl rfl rfl (WH.tk 1 rfl hP hSW12 (pr_field (o := 0) (off' := 0) ff_42_0 rfl rfl rfl (WH.tk 2 rfl hP hSW12 (pr_load_blk (i := 0) (vs := [(.int .i64 x0.1.1)]) (v := (.int .i64 x0.1.1)) tf_3 rfl rfl hS11 rfl rfl rfl (by simp) (WH.tk 3 rfl hP hSW12 (pr_field (o := 4) (off' := 4) ff_101_2 rfl rfl rfl (WH.tk 4 rfl hP hSW12 (pr_load_blk (i := 0) (vs := [(.int .i64 x0.2.2)]) (v := (.int .i64 x0.2.2)) tf_3 rfl rfl hS11 rfl rfl rfl (by simp) (WH.tk 5 rfl hP hSW12 (pr_mul rfl rfl rfl (WH.tk 6 rfl hP hSW12 (pr_move rfl rfl ?_)))))))))))))
 refine WH.tk 7 rfl hP hSW12 (pr_field (o := 2) (off' := 2) ff_101_1 rfl rfl rfl (WH.tk 8 rfl hP hSW12 (pr_field (o := 0) (off' := 2) ff_42_0 rfl rfl rfl (WH.tk 9 rfl hP hSW12 (pr_load_blk (i := 0) (vs := [(.int .i64 x0.2.1.1)]) (v := (.int .i64 x0.2.1.1)) tf_3 rfl rfl hS11 rfl rfl rfl (by simp) (WH.tk 10 rfl hP hSW12 (pr_field (o := 0) (off' := 0) ff_101_0 rfl rfl rfl (WH.tk 11 rfl hP hSW12 (pr_field (o := 0) (off' := 0) ff_42_0 rfl rfl rfl (WH.tk 12 rfl hP hSW12 (pr_load_blk (i := 0) (vs := [(.int .i64 x0.1.1)]) (v := (.int .i64 x0.1.1)) tf_3 rfl rfl hS11 rfl rfl rfl (by simp) (WH.tk 13 rfl hP hSW12 (pr_sub rfl rfl rfl ?_)))))))))))))
 refine WH.tk 14 rfl hP hSW12 (pr_mul rfl rfl rfl (WH.tk 15 rfl hP hSW12 (pr_add rfl rfl rfl (WH.tk 16 rfl hP hSW12 (pr_field (o := 0) (off' := 0) ff_101_0 rfl rfl rfl (WH.tk 17 rfl hP hSW12 (pr_field (o := 1) (off' := 1) ff_42_1 rfl rfl rfl (WH.tk 18 rfl hP hSW12 (pr_load_blk (i := 0) (vs := [(.int .i64 x0.1.2)]) (v := (.int .i64 x0.1.2)) tf_3 rfl rfl hS11 rfl rfl rfl (by simp) (WH.tk 19 rfl hP hSW12 (pr_field (o := 4) (off' := 4) ff_101_2 rfl rfl rfl (WH.tk 20 rfl hP hSW12 (pr_load_blk (i := 0) (vs := [(.int .i64 x0.2.2)]) (v := (.int .i64 x0.2.2)) tf_3 rfl rfl hS11 rfl rfl rfl (by simp) ?_)))))))))))))
 refine WH.tk 21 rfl hP hSW12 (pr_mul rfl rfl rfl (WH.tk 22 rfl hP hSW12 (pr_move rfl rfl (WH.tk 23 rfl hP hSW12 (pr_field (o := 2) (off' := 2) ff_101_1 rfl rfl rfl (WH.tk 24 rfl hP hSW12 (pr_field (o := 1) (off' := 3) ff_42_1 rfl rfl rfl (WH.tk 25 rfl hP hSW12 (pr_load_blk (i := 0) (vs := [(.int .i64 x0.2.1.2)]) (v := (.int .i64 x0.2.1.2)) tf_3 rfl rfl hS11 rfl rfl rfl (by simp) (WH.tk 26 rfl hP hSW12 (pr_field (o := 0) (off' := 0) ff_101_0 rfl rfl rfl (WH.tk 27 rfl hP hSW12 (pr_field (o := 1) (off' := 1) ff_42_1 rfl rfl rfl ?_)))))))))))))
 refine WH.tk 28 rfl hP hSW12 (pr_load_blk (i := 0) (vs := [(.int .i64 x0.1.2)]) (v := (.int .i64 x0.1.2)) tf_3 rfl rfl hS11 rfl rfl rfl (by simp) (WH.tk 29 rfl hP hSW12 (pr_sub rfl rfl rfl (WH.tk 30 rfl hP hSW12 (pr_mul rfl rfl rfl (WH.tk 31 rfl hP hSW12 (pr_add rfl rfl rfl (WH.tk 32 rfl hP hSW12 (pr_assign rfl rfl (WH.tk 33 rfl hP hSW12 (pr_assign rfl rfl (WH.done (by kernel_rfl) (fun a ha => hK7 _ _ ?_ a ha)))))))))))))
 refine W.ret ?_
 have hr := Option.some.inj hF
 subst hr
 exact rets (vs := [(.int .i64 (w64 ((w64 (x0.1.1 * x0.2.2)) + (w64 (x1 * (w64 (x0.2.1.1 - x0.1.1))))))), (.int .i64 (w64 ((w64 (x0.1.2 * x0.2.2)) + (w64 (x1 * (w64 (x0.2.1.2 - x0.1.2)))))))]) hQ rfl ⟨rv_tmp rfl, rv_tmp rfl, trivial⟩ ⟨rfl, hB10⟩
theorem C_impl_floorDiv (w0 : World) (x0 : Int) (x1 : Int) (r : Int) (hF : F_impl_floorDiv x0 x1 = some r) :
  Calls Tryz.prog 119 [(.int .i64 x0), (.int .i64 x1)].toArray w0 fun e w' => e = .returned (.int .i64 r) ∧ Below w0.heap.size w0 w' := by
 refine calls_mk' Tryz.func119 rfl Tryz.ntmps119 rfl rfl fun Q hQ hP => ?_
 have hB : Below w0.heap.size w0 w0 := Below.refl _ _
 have hS : Sep w0.heap.size w0 [] := Sep.nil _ _
 unfold F_impl_floorDiv at hF
 refine W.seq fun K1 hK1 => W.region (wl_assign rfl rfl (WL.nil (fun a ha => hK1 _ _ (W.seq fun K2 hK2 => (W.region (wl_move rfl rfl (wl_move rfl rfl ?_)))) a ha)))
 have h3 : x1 ≠ 0 := fun h3 => noneE (ifP h3 hF)
 replace hF := ifNP h3 hF
 refine wl_quo rfl rfl rfl h3 (wl_assign rfl rfl (WL.nil (fun a ha => hK2 _ _ (W.seq fun K4 hK4 => ?_) a ha)))
 obtain ⟨k9, hk9, hF⟩ := jE1 hF
 have hJ10 : ∀ (y8 : Int) (w5 : World) (_ : k9 y8 = some r) (_ : Below w0.heap.size w0 w5) (_ : Sep w0.heap.size w5 []), ∀ a, St 16 [(5, (.int .i64 y8))] a → K4 a w5 := by
  intro y8 w5 hF hB6 hS7
  subst hk9
  refine fun a ha => hK4 _ _ (W.seq fun K11 hK11 => (W.region (wl_move rfl rfl (wl_assign rfl rfl (WL.nil (fun a ha => hK11 _ _ (W.ret ?_) a ha)))))) a ha
  have hr := Option.some.inj hF
  subst hr
  exact rets (vs := [(.int .i64 y8)]) hQ rfl ⟨rv_tmp rfl, trivial⟩ ⟨rfl, hB6⟩
 refine W.seq fun K12 hK12 => W.region (wl_move rfl rfl (wl_move rfl rfl ?_))
 have h13 : x1 ≠ 0 := fun h13 => noneE (ifP h13 hF)
 replace hF := ifNP h13 hF
 refine wl_rem rfl rfl rfl h13 (wl_lss rfl rfl rfl (WL.nil (fun a ha => hK12 _ _ (W.cond rfl (fun h14 => ?_) (fun h14 => ?_)) a ha)))
 ·replace hF := ifP h14 hF
  refine W.region (wl_move rfl rfl (wl_sub rfl rfl rfl (wl_assign rfl rfl (WL.nil ?_))))
  exact fun a ha => hJ10 ((w64 ((w64 (Int.tdiv x0 x1)) - 1))) _ hF hB (hS.sel [] rfl) a (ha.sub ⟨rfl, trivial⟩)
 ·replace hF := ifN h14 hF
  refine W.skip ?_
  exact fun a ha => hJ10 ((w64 (Int.tdiv x0 x1))) _ hF hB (hS.sel [] rfl) a (ha.sub ⟨rfl, trivial⟩)
theorem C_impl_roundDiv (w0 : World) (x0 : Int) (x1 : Int) (r : Int) (hF : F_impl_roundDiv x0 x1 = some r) :
  Calls Tryz.prog 110 [(.int .i64 x0), (.int .i64 x1)].toArray w0 fun e w' => e = .returned (.int .i64 r) ∧ Below w0.heap.size w0 w' := by
 refine calls_mk' Tryz.func110 rfl Tryz.ntmps110 rfl rfl fun Q hQ hP => ?_
 have hB : Below w0.heap.size w0 w0 := Below.refl _ _
 unfold F_impl_roundDiv at hF
 refine W.seq fun K1 hK1 => W.region (wl_assign rfl rfl (WL.nil (fun a ha => hK1 _ _ (W.seq fun K2 hK2 => (W.region (wl_move rfl rfl (wl_mul rfl rfl rfl (wl_move rfl rfl (wl_add rfl rfl rfl (wl_move rfl rfl (wl_mul rfl rfl rfl ?_)))))))) a ha)))
 obtain ⟨u3, hu3, hF⟩ := bindE hF
 refine wl_call rfl Tryz.call119 (C_impl_floorDiv w0 (w64 ((w64 (2 * x0)) + x1)) (w64 (2 * x1)) _ hu3) rfl ?_
 rintro _ w4 ⟨rfl, hb5⟩
 refine ⟨_, rfl, ?_⟩
 have hB6 := hB.trans (hb5.mono hB.size)
 refine wl_assign rfl rfl (WL.nil (fun a ha => hK2 _ _ (W.ret ?_) a ha))
 have hr := Option.some.inj hF
 subst hr
 exact rets (vs := [(.int .i64 u3)]) hQ rfl ⟨rv_tmp rfl, trivial⟩ ⟨rfl, hB6⟩
theorem C_impl_roundedAt (w0 : World) (x0 : ((Int × Int) × (Int × Int) × Int)) (x1 : Int) (r : (Int × Int)) (hF : F_impl_roundedAt x0 x1 = some r) :
  Calls Tryz.prog 85 [(.agg #[(.int .i64 x0.1.1), (.int .i64 x0.1.2), (.int .i64 x0.2.1.1), (.int .i64 x0.2.1.2), (.int .i64 x0.2.2)]), (.int .i64 x1)].toArray w0 fun e w' => e = .returned (.agg #[(.int .i64 r.1), (.int .i64 r.2)]) ∧ Below w0.heap.size w0 w' := by
 refine calls_mk' Tryz.func85 rfl Tryz.ntmps85 rfl rfl fun Q hQ hP => ?_
 have hB : Below w0.heap.size w0 w0 := Below.refl _ _
 have hS : Sep w0.heap.size w0 [] := Sep.nil _ _
 unfold F_impl_roundedAt at hF
 refine W.seq fun K1 hK1 => W.region (wl_box (cs := [(.int .i64 x0.1.1), (.int .i64 x0.1.2), (.int .i64 x0.2.1.1), (.int .i64 x0.2.1.2), (.int .i64 x0.2.2)]) rfl rfl rfl hB hS ?_)
 intro b2 w3 hb4 hB5 hS6
 refine wl_alloc (cs := [(.int .i64 0), (.int .i64 0)]) tf_42 rfl rfl hB5 hS6 ?_
 intro b7 w8 hb9 hB10 hS11
 refine WL.nil fun a ha => hK1 _ _ (W.seq fun K12 hK12 => (W.region (wl_load_blk (i := 1) (vs := [(.int .i64 x0.1.1), (.int .i64 x0.1.2), (.int .i64 x0.2.1.1), (.int .i64 x0.2.1.2), (.int .i64 x0.2.2)]) (v := (.agg #[(.int .i64 x0.1.1), (.int .i64 x0.1.2), (.int .i64 x0.2.1.1), (.int .i64 x0.2.1.2), (.int .i64 x0.2.2)])) tf_101 rfl rfl hS11 rfl rfl rfl (wl_move rfl rfl ?_)))) a ha
 obtain ⟨u13, hu13, hF⟩ := bindE hF
 refine wl_call rfl Tryz.call109 (C_impl_placeAt w8 x0 x1 _ hu13) rfl ?_
 rintro _ w14 ⟨rfl, hb15⟩
 refine ⟨_, rfl, ?_⟩
 have hB16 := hB10.trans (hb15.mono hB10.size)
 have hS17 := hS11.below hb15
 refine wl_move rfl rfl (wl_extract rfl rfl rfl (wl_extract rfl rfl rfl (wl_assign rfl rfl (wl_assign rfl rfl (WL.nil (fun a ha => hK12 _ _ (W.seq fun K19 hK19 => (W.regionH mixed_ [b7] hB16 hS17 ?_)) a ha))))))
 intro w20 hb21 hB22 hS23
 have hSW24 := KeepX.refl w20 [b7]
 refine WH.tk 0 rfl hP hSW24 (pr_move rfl rfl (WH.tk 1 rfl hP hSW24 (pr_field (o := 4) (off' := 4) ff_101_2 rfl rfl rfl (WH.tk 2 rfl hP hSW24 (pr_load_blk (i := 1) (vs := [(.int .i64 x0.2.2)]) (v := (.int .i64 x0.2.2)) tf_3 rfl rfl hS23 rfl rfl rfl (hS23.disj (i := 1) (j := 0) rfl rfl rfl b2 (by simp [R.blk])) (WH.tk 4 rfl hP hSW24 (pr_move rfl rfl (WH.tk 5 rfl hP hSW24 (pr_field (o := 4) (off' := 4) ff_101_2 rfl rfl rfl (WH.tk 6 rfl hP hSW24 (pr_load_blk (i := 1) (vs := [(.int .i64 x0.2.2)]) (v := (.int .i64 x0.2.2)) tf_3 rfl rfl hS23 rfl rfl rfl (hS23.disj (i := 1) (j := 0) rfl rfl rfl b2 (by simp [R.blk])) (WH.on1 3 rfl ?_))))))))))))
 obtain ⟨u25, hu25, hF⟩ := bindE hF
 refine wl_call rfl Tryz.call110 (C_impl_roundDiv w20 u13.1 x0.2.2 _ hu25) rfl ?_
 rintro _ w26 ⟨rfl, hb27⟩
 refine ⟨_, rfl, ?_⟩
 have hB28 := hB22.trans (hb27.mono hB22.size)
 have hS29 := hS23.below hb27
 have hSW31 := hSW24.ext hb27
 refine WL.nil (WH.ret hSW31 (WH.on1 7 rfl ?_))
 obtain ⟨u33, hu33, hF⟩ := bindE hF
 refine wl_call rfl Tryz.call110 (C_impl_roundDiv w26 u13.2 x0.2.2 _ hu33) rfl ?_
 rintro _ w34 ⟨rfl, hb35⟩
 refine ⟨_, rfl, ?_⟩
 have hB36 := hB28.trans (hb35.mono hB28.size)
 have hS37 := hS29.below hb35
 have hSW39 := hSW31.ext hb35
 refine WL.nil (WH.ret hSW39 (WH.tk 8 rfl hP hSW39 (pr_build (zs := [(.int .i64 0), (.int .i64 0)]) (out := [(.int .i64 u25), (.int .i64 u33)]) (vs := [(.int .i64 u25), (.int .i64 u33)]) (css := [[(.int .i64 u25)], [(.int .i64 u33)]]) tf_42 pl_42 rfl rfl rfl rfl rfl (WH.on1 9 rfl (wl_store_blk (i := 0) (vs := [(.int .i64 u25), (.int .i64 u33)]) (cs' := [(.int .i64 u25), (.int .i64 u33)]) tf_42 rfl rfl rfl rfl hB36 hS37 rfl rfl ⟨rfl, rfl, trivial⟩ rfl ?_)))))
 intro w41 hk44 hB42 hS43
 have hSW45 := hSW39.wr' hk44.1 hk44.2.1 (fun _ _ h => h)
 refine WL.nil (WH.ret hSW45 (WH.done (by kernel_rfl) (fun a ha => hK19 _ _ (W.ret ?_) a ha)))
 have hr := Option.some.inj hF
 subst hr
 exact rets (vs := [(.agg #[(.int .i64 u25), (.int .i64 u33)])]) hQ rfl ⟨rv_cell (i := 0) tf_42 rfl hS43 rfl rfl rfl, trivial⟩ ⟨rfl, hB42⟩
theorem C_impl_SpotAfter (w0 : World) (x0 : (Int × (Int × Int) × (List (Int × (Int × Int))))) (v0_0 : Value) (h0_0 : rdS ty_104 (· < w0.heap.size) w0 v0_0 x0.2.2) (x1 : Int) (r : ((Int × Int) × Bool)) (hF : F_impl_SpotAfter x0 x1 = some r) :
  Calls Tryz.prog 66 [(.agg #[(.int .i64 x0.1), (.int .i64 x0.2.1.1), (.int .i64 x0.2.1.2), v0_0]), (.int .i64 x1)].toArray w0 fun e w' => e = .returned (.tuple #[(.agg #[(.int .i64 r.1.1), (.int .i64 r.1.2)]), (.bool r.2)]) ∧ Below w0.heap.size w0 w' := by
 refine calls_mk' Tryz.func66 rfl Tryz.ntmps66 rfl rfl fun Q hQ hP => ?_
 have hB : Below w0.heap.size w0 w0 := Below.refl _ _
 have hS : Sep w0.heap.size w0 [] := Sep.nil _ _
 unfold F_impl_SpotAfter at hF
 refine W.seq fun K1 hK1 => W.region (wl_box (cs := [(.int .i64 x0.1), (.int .i64 x0.2.1.1), (.int .i64 x0.2.1.2), v0_0]) rfl rfl rfl hB hS ?_)
 intro b2 w3 hb4 hB5 hS6
 refine wl_alloc (cs := [(.int .i64 0), (.int .i64 0)]) tf_42 rfl rfl hB5 hS6 ?_
 intro b7 w8 hb9 hB10 hS11
 refine wl_assign rfl rfl (WL.nil (fun a ha => hK1 _ _ (W.seq fun K12 hK12 => (W.seq fun K13 hK13 => ?_)) a ha))
 obtain ⟨k18, hk18, hF⟩ := jE1 hF
 have hJ19 : ∀ (y17 : Bool) (w14 : World) (_ : k18 y17 = some r) (_ : Below w0.heap.size w0 w14) (_ : Sep w0.heap.size w14 [R.blk b2 86 [(.int .i64 x0.1), (.int .i64 x0.2.1.1), (.int .i64 x0.2.1.2), v0_0], R.blk b7 42 [(.int .i64 0), (.int .i64 0)]]), ∀ a, St 40 [(1, (.int .i64 x1)), (2, (.pointer (some ⟨b2, 0, none⟩))), (4, (.pointer (some ⟨b7, 0, none⟩))), (14, (.bool y17))] a → K13 a w14 := by
  intro y17 w14 hF hB15 hS16
  subst hk18
  refine fun a ha => hK13 _ _ (W.cond rfl (fun h20 => ?_) (fun h20 => ?_)) a ha
  ·replace hF := ifP h20 hF
   refine W.seq fun K21 hK21 => W.region (wl_build (zs := [(.int .i64 0), (.int .i64 0)]) (out := [(.int .i64 0), (.int .i64 0)]) (vs := []) (css := []) tf_42 pl_42 rfl rfl rfl rfl rfl (wl_store_blk (i := 1) (vs := [(.int .i64 0), (.int .i64 0)]) (cs' := [(.int .i64 0), (.int .i64 0)]) tf_42 rfl rfl rfl rfl hB15 hS16 rfl rfl ⟨rfl, rfl, trivial⟩ rfl ?_))
   intro w22 hk25 hB23 hS24
   refine wl_assign rfl rfl (WL.nil (fun a ha => hK21 _ _ (W.ret ?_) a ha))
   have hr := Option.some.inj hF
   subst hr
   exact rets (vs := [(.agg #[(.int .i64 0), (.int .i64 0)]), (.bool false)]) hQ rfl ⟨rv_cell (i := 1) tf_42 rfl hS24 rfl rfl rfl, rv_tmp rfl, trivial⟩ ⟨rfl, hB23⟩
  ·replace hF := ifN h20 hF
   refine W.skip fun a ha => hK12 _ _ (W.seq fun K26 hK26 => (W.seq fun K27 hK27 => (W.region (wl_load_blk (i := 0) (vs := [(.int .i64 x0.1), (.int .i64 x0.2.1.1), (.int .i64 x0.2.1.2), v0_0]) (v := (.agg #[(.int .i64 x0.1), (.int .i64 x0.2.1.1), (.int .i64 x0.2.1.2), v0_0])) tf_86 rfl rfl hS16 rfl rfl rfl ?_)))) a ha
   obtain ⟨u28, hu28, hF⟩ := bindE hF
   refine wl_call rfl Tryz.call84 (C_impl_sheetMoves w14 x0 v0_0 (h0_0.ro hB15) _ hu28) rfl ?_
   rintro _ w31 ⟨v29, F30, rfl, hb32, hM35⟩
   refine ⟨_, rfl, ?_⟩
   have hB33 := hB15.trans (hb32.mono hB15.size)
   have hS34 := hS16.join hb32 hM35 hB15.size
   refine wl_lenr (e := ty_101) (l := u28) Tryz.underlying98 rfl rfl (hS34.own_ro (i := 0) rfl) (wl_move rfl rfl (WL.nil (fun a ha => hK27 _ _ (W.block (W.loopk (fun m a w36 => ∃ (y39 : Int) (y40 : Int), St 40 [(1, (.int .i64 y39)), (2, (.pointer (some ⟨b2, 0, none⟩))), (4, (.pointer (some ⟨b7, 0, none⟩))), (17, v29), (18, (.int .i64 (List.length u28 : Int))), (19, (.int .i64 y40))] a ∧ Below w0.heap.size w0 w36 ∧ Sep w0.heap.size w36 [R.blk b2 86 [(.int .i64 x0.1), (.int .i64 x0.2.1.1), (.int .i64 x0.2.1.2), v0_0], R.blk b7 42 [(.int .i64 0), (.int .i64 0)], R.own ty_101 F30 v29 u28] ∧ F_impl_SpotAfter_L1 u28 x0 m y39 y40 = some r) FU ?_ ?_)) a ha)))
   ·
    exact fun a ha => ⟨x1, 0, ha.sub ⟨rfl, rfl, rfl, rfl, rfl, rfl, trivial⟩, hB33, (hS34.sel [1, 2, 0] rfl), hF⟩
   ·
    rintro m43 a w36 ⟨y39, y40, ha, hB37, hS38, hF⟩ KL42 hKL42
    refine W.at ?_ ha
    cases m43 with
    | zero => exact noneE hF
    | succ m43 =>
     obtain ⟨nx41, hnx41⟩ : ∃ k, k = F_impl_SpotAfter_L1 u28 x0 m43 := ⟨_, rfl⟩
     rw [F_impl_SpotAfter_L1, ← hnx41] at hF
     refine W.seq fun K44 hK44 => W.region (wl_lss rfl rfl rfl (WL.nil (fun a ha => hK44 _ _ (W.seq fun K45 hK45 => (W.cond rfl (fun h46 => ?_) (fun h46 => ?_))) a ha)))
     ·replace hF := ifP h46 hF
      refine W.skip fun a ha => hK45 _ _ (W.seq fun K47 hK47 => (W.block (W.seq fun K48 hK48 => (W.region ?_)))) a ha
      obtain ⟨u49, hu49, hF⟩ := bindE hF
      refine wl_indexo (e := ty_101) (i := 2) Tryz.underlying98 rfl rfl rfl hS38 rfl hu49 ?_
      rintro p50 _ rfl hp51 ho52
      refine wl_load_p (vs := [(.int .i64 u49.1.1), (.int .i64 u49.1.2), (.int .i64 u49.2.1.1), (.int .i64 u49.2.1.2), (.int .i64 u49.2.2)]) (v := (.agg #[(.int .i64 u49.1.1), (.int .i64 u49.1.2), (.int .i64 u49.2.1.1), (.int .i64 u49.2.1.2), (.int .i64 u49.2.2)])) tf_101 rfl rfl hp51 rfl rfl (wl_alloc (cs := [(.int .i64 0), (.int .i64 0), (.int .i64 0), (.int .i64 0), (.int .i64 0)]) tf_101 rfl rfl hB37 hS38 ?_)
      intro b53 w54 hb55 hB56 hS57
      refine wl_store_blk (i := 0) (vs := [(.int .i64 u49.1.1), (.int .i64 u49.1.2), (.int .i64 u49.2.1.1), (.int .i64 u49.2.1.2), (.int .i64 u49.2.2)]) (cs' := [(.int .i64 u49.1.1), (.int .i64 u49.1.2), (.int .i64 u49.2.1.1), (.int .i64 u49.2.1.2), (.int .i64 u49.2.2)]) tf_101 rfl rfl rfl rfl hB56 hS57 rfl rfl ⟨rfl, rfl, rfl, rfl, rfl, trivial⟩ rfl ?_
      intro w58 hk61 hB59 hS60
      refine WL.nil fun a ha => hK48 _ _ (W.seq fun K62 hK62 => (W.seq fun K63 hK63 => (W.region (wl_move rfl rfl (wl_field (o := 4) (off' := 4) ff_101_2 rfl rfl rfl (wl_load_blk (i := 0) (vs := [(.int .i64 u49.2.2)]) (v := (.int .i64 u49.2.2)) tf_3 rfl rfl hS60 rfl rfl rfl (wl_leq rfl rfl rfl (WL.nil (fun a ha => hK63 _ _ (W.cond rfl (fun h64 => ?_) (fun h64 => ?_)) a ha))))))))) a ha
      ·replace hF := ifP h64 hF
       refine W.seq fun K65 hK65 => W.region (wl_load_blk (i := 0) (vs := [(.int .i64 u49.1.1), (.int .i64 u49.1.2), (.int .i64 u49.2.1.1), (.int .i64 u49.2.1.2), (.int .i64 u49.2.2)]) (v := (.agg #[(.int .i64 u49.1.1), (.int .i64 u49.1.2), (.int .i64 u49.2.1.1), (.int .i64 u49.2.1.2), (.int .i64 u49.2.2)])) tf_101 rfl rfl hS60 rfl rfl rfl (wl_move rfl rfl ?_))
       obtain ⟨u66, hu66, hF⟩ := bindE hF
       refine wl_call rfl Tryz.call85 (C_impl_roundedAt w58 u49 y39 _ hu66) rfl ?_
       rintro _ w67 ⟨rfl, hb68⟩
       refine ⟨_, rfl, ?_⟩
       have hB69 := hB59.trans (hb68.mono hB59.size)
       have hS70 := hS60.below hb68
       refine wl_store_blk (i := 2) (vs := [(.int .i64 u66.1), (.int .i64 u66.2)]) (cs' := [(.int .i64 u66.1), (.int .i64 u66.2)]) tf_42 rfl rfl rfl rfl hB69 hS70 rfl rfl ⟨rfl, rfl, trivial⟩ rfl ?_
       intro w72 hk75 hB73 hS74
       refine wl_assign rfl rfl (WL.nil (fun a ha => hK65 _ _ (W.ret ?_) a ha))
       have hr := Option.some.inj hF
       subst hr
       exact rets (vs := [(.agg #[(.int .i64 u66.1), (.int .i64 u66.2)]), (.bool true)]) hQ rfl ⟨rv_cell (i := 2) tf_42 rfl hS74 rfl rfl rfl, rv_tmp rfl, trivial⟩ ⟨rfl, hB73⟩
      ·replace hF := ifN h64 hF
       refine W.skip fun a ha => hK62 _ _ (W.region (wl_move rfl rfl (wl_field (o := 4) (off' := 4) ff_101_2 rfl rfl rfl (wl_load_blk (i := 0) (vs := [(.int .i64 u49.2.2)]) (v := (.int .i64 u49.2.2)) tf_3 rfl rfl hS60 rfl rfl rfl (wl_sub rfl rfl rfl (wl_assign rfl rfl (WL.nil (fun a ha => hK47 _ _ (W.region (wl_add rfl rfl rfl (wl_move rfl rfl (WL.nil ?_)))) a ha)))))))) a ha
       rw [hnx41] at hF
       exact fun a ha => hKL42 a _ m43 (Nat.lt_succ_self m43) ⟨(w64 (y39 - u49.2.2)), (w64 (y40 + 1)), ha.sub ⟨rfl, rfl, rfl, rfl, rfl, rfl, trivial⟩, hB59, (hS60.sel [1, 2, 3] rfl), hF⟩
     ·replace hF := ifN h46 hF
      refine W.exit fun a ha => hK26 _ _ (W.seq fun K76 hK76 => (W.seq fun K77 hK77 => (W.region (wl_move rfl rfl (wl_gtr rfl rfl rfl (WL.nil (fun a ha => hK77 _ _ (W.cond rfl (fun h78 => ?_) (fun h78 => ?_)) a ha))))))) a ha
      ·replace hF := ifP h78 hF
       refine W.seq fun K79 hK79 => W.region (wl_build (zs := [(.int .i64 0), (.int .i64 0)]) (out := [(.int .i64 0), (.int .i64 0)]) (vs := []) (css := []) tf_42 pl_42 rfl rfl rfl rfl rfl (wl_store_blk (i := 1) (vs := [(.int .i64 0), (.int .i64 0)]) (cs' := [(.int .i64 0), (.int .i64 0)]) tf_42 rfl rfl rfl rfl hB37 hS38 rfl rfl ⟨rfl, rfl, trivial⟩ rfl ?_))
       intro w80 hk83 hB81 hS82
       refine wl_assign rfl rfl (WL.nil (fun a ha => hK79 _ _ (W.ret ?_) a ha))
       have hr := Option.some.inj hF
       subst hr
       exact rets (vs := [(.agg #[(.int .i64 0), (.int .i64 0)]), (.bool false)]) hQ rfl ⟨rv_cell (i := 1) tf_42 rfl hS82 rfl rfl rfl, rv_tmp rfl, trivial⟩ ⟨rfl, hB81⟩
      ·replace hF := ifN h78 hF
       refine W.skip fun a ha => hK76 _ _ (W.seq fun K84 hK84 => (W.region (wl_field (o := 1) (off' := 1) ff_86_1 rfl rfl rfl (wl_load_blk (i := 0) (vs := [(.int .i64 x0.2.1.1), (.int .i64 x0.2.1.2)]) (v := (.agg #[(.int .i64 x0.2.1.1), (.int .i64 x0.2.1.2)])) tf_42 rfl rfl hS38 rfl rfl rfl (wl_store_blk (i := 1) (vs := [(.int .i64 x0.2.1.1), (.int .i64 x0.2.1.2)]) (cs' := [(.int .i64 x0.2.1.1), (.int .i64 x0.2.1.2)]) tf_42 rfl rfl rfl rfl hB37 hS38 rfl rfl ⟨rfl, rfl, trivial⟩ rfl ?_))))) a ha
       intro w85 hk88 hB86 hS87
       refine wl_assign rfl rfl (WL.nil (fun a ha => hK84 _ _ (W.ret ?_) a ha))
       have hr := Option.some.inj hF
       subst hr
       exact rets (vs := [(.agg #[(.int .i64 x0.2.1.1), (.int .i64 x0.2.1.2)]), (.bool true)]) hQ rfl ⟨rv_cell (i := 1) tf_42 rfl hS87 rfl rfl rfl, rv_tmp rfl, trivial⟩ ⟨rfl, hB86⟩
 refine W.region (wl_load_blk (i := 1) (vs := [(.int .i64 x0.1), (.int .i64 x0.2.1.1), (.int .i64 x0.2.1.2), v0_0]) (v := (.agg #[(.int .i64 x0.1), (.int .i64 x0.2.1.1), (.int .i64 x0.2.1.2), v0_0])) tf_86 rfl rfl hS11 rfl rfl rfl ?_)
 obtain ⟨u89, hu89, hF⟩ := bindE hF
 refine wl_call rfl Tryz.call83 (C_impl_IsSheet w8 x0 v0_0 (h0_0.ro hB10) _ hu89) rfl ?_
 rintro _ w90 ⟨rfl, hb91⟩
 refine ⟨_, rfl, ?_⟩
 have hB92 := hB10.trans (hb91.mono hB10.size)
 have hS93 := hS11.below hb91
 refine wl_not rfl rfl (wl_move rfl rfl ?_)
 rcases bE (!u89) with h95 | h95
 ·replace hF := ifP h95 hF
  refine wl_off rfl rfl rfl h95 (wl_off rfl rfl rfl h95 (wl_pick_t rfl rfl h95 rfl (WL.nil ?_)))
  exact fun a ha => hJ19 (true) _ hF hB92 (hS93.sel [1, 0] rfl) a (ha.sub ⟨rfl, rfl, rfl, rfl, trivial⟩)
 ·replace hF := ifN h95 hF
  refine wl_on rfl rfl h95 (wl_move rfl rfl (wl_on rfl rfl h95 (wl_lss rfl rfl rfl (wl_pick_f rfl rfl h95 rfl (WL.nil ?_)))))
  exact fun a ha => hJ19 ((decide (x1 < 0))) _ hF hB92 (hS93.sel [1, 0] rfl) a (ha.sub ⟨rfl, rfl, rfl, rfl, trivial⟩)
theorem C_impl_whereNow (w0 : World) (x0 : (((List (List (Int × Int))) × (List Int) × Int × Int) × Int × (List Int) × (List Int))) (v0_0 : Value) (h0_0 : rdS ty_66 (· < w0.heap.size) w0 v0_0 x0.1.1) (v0_1 : Value) (h0_1 : rdS ty_3 (· < w0.heap.size) w0 v0_1 x0.1.2.1) (v0_2 : Value) (h0_2 : rdS ty_3 (· < w0.heap.size) w0 v0_2 x0.2.2.1) (v0_3 : Value) (h0_3 : rdS ty_3 (· < w0.heap.size) w0 v0_3 x0.2.2.2) (x1 : Int) (r : (Int × Int)) (hF : F_impl_whereNow x0 x1 = some r) :
  Calls Tryz.prog 42 [(.agg #[v0_0, v0_1, (.int .i64 x0.1.2.2.1), (.int .i64 x0.1.2.2.2), (.int .i64 x0.2.1), v0_2, v0_3]), (.int .i64 x1)].toArray w0 fun e w' => e = .returned (.agg #[(.int .i64 r.1), (.int .i64 r.2)]) ∧ Below w0.heap.size w0 w' := by
 refine calls_mk' Tryz.func42 rfl Tryz.ntmps42 rfl rfl fun Q hQ hP => ?_
 have hB : Below w0.heap.size w0 w0 := Below.refl _ _
 have hS : Sep w0.heap.size w0 [] := Sep.nil _ _
 unfold F_impl_whereNow at hF
 refine W.seq fun K1 hK1 => W.region (wl_box (cs := [v0_0, v0_1, (.int .i64 x0.1.2.2.1), (.int .i64 x0.1.2.2.2), (.int .i64 x0.2.1), v0_2, v0_3]) rfl rfl rfl hB hS ?_)
 intro b2 w3 hb4 hB5 hS6
 refine wl_alloc (cs := [(.int .i64 0), (.int .i64 0)]) tf_42 rfl rfl hB5 hS6 ?_
 intro b7 w8 hb9 hB10 hS11
 refine WL.nil fun a ha => hK1 _ _ (W.seq fun K12 hK12 => ?_) a ha
 obtain ⟨k19, hk19, hF⟩ := jE2 hF
 have hJ20 : ∀ (y17 : Int) (y18 : Int) (b16 : Nat) (w13 : World) (_ : k19 y17 y18 = some r) (_ : Below w0.heap.size w0 w13) (_ : Sep w0.heap.size w13 [R.blk b7 42 [(.int .i64 0), (.int .i64 0)], R.blk b16 42 [(.int .i64 y17), (.int .i64 y18)]]), ∀ a, St 23 [(4, (.pointer (some ⟨b7, 0, none⟩))), (5, (.pointer (some ⟨b16, 0, none⟩)))] a → K12 a w13 := by
  intro y17 y18 b16 w13 hF hB14 hS15
  subst hk19
  refine fun a ha => hK12 _ _ (W.seq fun K21 hK21 => (W.region (wl_load_blk (i := 1) (vs := [(.int .i64 y17), (.int .i64 y18)]) (v := (.agg #[(.int .i64 y17), (.int .i64 y18)])) tf_42 rfl rfl hS15 rfl rfl rfl (wl_store_blk (i := 0) (vs := [(.int .i64 y17), (.int .i64 y18)]) (cs' := [(.int .i64 y17), (.int .i64 y18)]) tf_42 rfl rfl rfl rfl hB14 hS15 rfl rfl ⟨rfl, rfl, trivial⟩ rfl ?_)))) a ha
  intro w22 hk25 hB23 hS24
  refine WL.nil fun a ha => hK21 _ _ (W.ret ?_) a ha
  have hr := Option.some.inj hF
  subst hr
  exact rets (vs := [(.agg #[(.int .i64 y17), (.int .i64 y18)])]) hQ rfl ⟨rv_cell (i := 0) tf_42 rfl hS24 rfl rfl rfl, trivial⟩ ⟨rfl, hB23⟩
 refine W.regionH mixed_ [] hB10 hS11 ?_
 intro w26 hb27 hB28 hS29
 have hSW30 := KeepX.refl w26 []
 refine WH.tk 0 rfl hP hSW30 (pr_field (o := 0) (off' := 0) ff_29_0 rfl rfl rfl (WH.tk 1 rfl hP hSW30 (pr_field (o := 0) (off' := 0) ff_27_0 rfl rfl rfl (WH.tk 2 rfl hP hSW30 (pr_load_blk (i := 1) (vs := [v0_0]) (v := v0_0) tf_24 rfl rfl hS29 rfl rfl rfl (by simp) (WH.tk 3 rfl hP hSW30 (pr_field (o := 0) (off' := 0) ff_29_0 rfl rfl rfl (WH.tk 4 rfl hP hSW30 (pr_field (o := 1) (off' := 1) ff_27_1 rfl rfl rfl (WH.tk 5 rfl hP hSW30 (pr_load_blk (i := 1) (vs := [v0_1]) (v := v0_1) tf_25 rfl rfl hS29 rfl rfl rfl (by simp) (WH.tk 6 rfl hP hSW30 (pr_move rfl rfl ?_)))))))))))))
 refine WH.tk 8 rfl hP hSW30 (pr_load_blk (i := 1) (vs := [v0_0, v0_1, (.int .i64 x0.1.2.2.1), (.int .i64 x0.1.2.2.2), (.int .i64 x0.2.1), v0_2, v0_3]) (v := (.agg #[v0_0, v0_1, (.int .i64 x0.1.2.2.1), (.int .i64 x0.1.2.2.2), (.int .i64 x0.2.1), v0_2, v0_3])) tf_29 rfl rfl hS29 rfl rfl rfl (by simp) (WH.tk 9 rfl hP hSW30 (pr_move rfl rfl (WH.many (is := [7, 15]) (by kernel_rfl) rfl (List.forall_mem_cons.2 ⟨⟨_, rfl, ?_⟩, List.forall_mem_cons.2 ⟨⟨_, rfl, ?_⟩, fun _ h => by cases h⟩⟩)))))
 ·
  obtain ⟨u31, hu31, hF⟩ := bindE hF
  refine wl_call rfl Tryz.call67 (C_impl_sheetOf w26 x0.1.1 v0_0 (h0_0.ro hB28) x0.1.2.1 v0_1 (h0_1.ro hB28) x1 _ hu31) rfl ?_
  rintro _ w34 ⟨v32, F33, rfl, hb35, hM38⟩
  refine ⟨_, rfl, ?_⟩
  have hB36 := hB28.trans (hb35.mono hB28.size)
  have hS37 := hS29.join hb35 hM38 hB28.size
  have hSW40 := hSW30.ext hb35
  refine WL.nil (WH.ret hSW40 (WH.many (is := [10, 15]) (by kernel_rfl) rfl (List.forall_mem_cons.2 ⟨⟨_, rfl, ?_⟩, List.forall_mem_cons.2 ⟨⟨_, rfl, ?_⟩, fun _ h => by cases h⟩⟩)))
  ·
   obtain ⟨u41, hu41, hF⟩ := bindE hF
   refine wl_call rfl Tryz.call68 (C_impl_ownCount w34 x0 v0_0 (h0_0.ro hB36) v0_1 (h0_1.ro hB36) v0_2 (h0_2.ro hB36) v0_3 (h0_3.ro hB36) x1 _ hu41) rfl ?_
   rintro _ w42 ⟨rfl, hb43⟩
   refine ⟨_, rfl, ?_⟩
   have hB44 := hB36.trans (hb43.mono hB36.size)
   have hS45 := hS37.below hb43
   have hSW47 := hSW40.ext hb43
   refine WL.nil (WH.ret hSW47 (WH.many (is := [11, 15]) (by kernel_rfl) rfl (List.forall_mem_cons.2 ⟨⟨_, rfl, ?_⟩, List.forall_mem_cons.2 ⟨⟨_, rfl, ?_⟩, fun _ h => by cases h⟩⟩)))
   ·
    obtain ⟨u48, hu48, hF⟩ := bindE hF
    refine wl_call rfl Tryz.call66 (C_impl_SpotAfter w42 u31 v32 (hS45.own_ro (i := 0) rfl) u41 _ hu48) rfl ?_
    rintro _ w49 ⟨rfl, hb50⟩
    refine ⟨_, rfl, ?_⟩
    have hB51 := hB44.trans (hb50.mono hB44.size)
    have hS52 := hS45.below hb50
    have hSW54 := hSW47.ext hb50
    refine WL.nil (WH.ret hSW54 (WH.tk 12 rfl hP hSW54 (pr_move rfl rfl (WH.tk 13 rfl hP hSW54 (pr_extract rfl rfl rfl (WH.tk 14 rfl hP hSW54 (pr_extract rfl rfl rfl (WH.on1 15 rfl (wl_alloc (cs := [(.int .i64 0), (.int .i64 0)]) tf_42 rfl rfl (Below.self w49) (Sep.nil _ _) ?_)))))))))
    intro b55 w56 hb57 hB60 hM61
    have hB58 := hB51.trans (hb57.mono hB51.size)
    have hS59 := hS52.join hb57 hM61 hB51.size
    have hn62 : ∀ b ∈ [b55], w26.heap.size ≤ b := fun b hb => Nat.le_trans hSW54.size ((hM61.1 _ (List.mem_cons_self ..)).2.1 b hb).1
    have hSW63 := hSW54.ext hb57
    refine WL.nil (WH.ret hSW63 (WH.on1 16 rfl (wl_store_blk (i := 0) (vs := [(.int .i64 u48.1.1), (.int .i64 u48.1.2)]) (cs' := [(.int .i64 u48.1.1), (.int .i64 u48.1.2)]) tf_42 rfl rfl rfl rfl hB58 hS59 rfl rfl ⟨rfl, rfl, trivial⟩ rfl ?_)))
    intro w65 hk68 hB66 hS67
    have hSW69 := hSW63.wr' hk68.1 hk68.2.1 (fun b hlt hb => absurd hlt (Nat.not_lt.2 (hn62 b hb)))
    refine WL.nil (WH.ret hSW69 (WH.tk 17 rfl hP hSW69 (pr_assign rfl rfl (WH.done (by kernel_rfl) ?_))))
    exact fun a ha => hJ20 (u48.1.1) (u48.1.2) (b55) _ hF hB66 (hS67.sel [2, 0] rfl) a (ha.sub ⟨rfl, rfl, trivial⟩)
   ·
    refine wl_alloc (cs := [(.int .i64 0), (.int .i64 0)]) tf_42 rfl rfl (Below.self w42) (Sep.nil _ _) ?_
    intro b71 w72 hb73 hB76 hM77
    have hB74 := hB44.trans (hb73.mono hB44.size)
    have hS75 := hS45.join hb73 hM77 hB44.size
    have hn78 : ∀ b ∈ [b71], w26.heap.size ≤ b := fun b hb => Nat.le_trans hSW47.size ((hM77.1 _ (List.mem_cons_self ..)).2.1 b hb).1
    have hSW79 := hSW47.ext hb73
    refine WL.nil (WH.ret hSW79 (WH.on1 11 rfl ?_))
    obtain ⟨u80, hu80, hF⟩ := bindE hF
    refine wl_call rfl Tryz.call66 (C_impl_SpotAfter w72 u31 v32 (hS75.own_ro (i := 1) rfl) u41 _ hu80) rfl ?_
    rintro _ w81 ⟨rfl, hb82⟩
    refine ⟨_, rfl, ?_⟩
    have hB83 := hB74.trans (hb82.mono hB74.size)
    have hS84 := hS75.below hb82
    have hSW86 := hSW79.ext hb82
    refine WL.nil (WH.ret hSW86 (WH.tk 12 rfl hP hSW86 (pr_move rfl rfl (WH.tk 13 rfl hP hSW86 (pr_extract rfl rfl rfl (WH.tk 14 rfl hP hSW86 (pr_extract rfl rfl rfl (WH.on1 16 rfl (wl_store_blk (i := 0) (vs := [(.int .i64 u80.1.1), (.int .i64 u80.1.2)]) (cs' := [(.int .i64 u80.1.1), (.int .i64 u80.1.2)]) tf_42 rfl rfl rfl rfl hB83 hS84 rfl rfl ⟨rfl, rfl, trivial⟩ rfl ?_)))))))))
    intro w87 hk90 hB88 hS89
    have hSW91 := hSW86.wr' hk90.1 hk90.2.1 (fun b hlt hb => absurd hlt (Nat.not_lt.2 (hn78 b hb)))
    refine WL.nil (WH.ret hSW91 (WH.tk 17 rfl hP hSW91 (pr_assign rfl rfl (WH.done (by kernel_rfl) ?_))))
    exact fun a ha => hJ20 (u80.1.1) (u80.1.2) (b71) _ hF hB88 (hS89.sel [2, 0] rfl) a (ha.sub ⟨rfl, rfl, trivial⟩)
  ·
   refine wl_alloc (cs := [(.int .i64 0), (.int .i64 0)]) tf_42 rfl rfl (Below.self w34) (Sep.nil _ _) ?_
   intro b93 w94 hb95 hB98 hM99
   have hB96 := hB36.trans (hb95.mono hB36.size)
   have hS97 := hS37.join hb95 hM99 hB36.size
   have hn100 : ∀ b ∈ [b93], w26.heap.size ≤ b := fun b hb => Nat.le_trans hSW40.size ((hM99.1 _ (List.mem_cons_self ..)).2.1 b hb).1
   have hSW101 := hSW40.ext hb95
   refine WL.nil (WH.ret hSW101 (WH.on1 10 rfl ?_))
   obtain ⟨u102, hu102, hF⟩ := bindE hF
   refine wl_call rfl Tryz.call68 (C_impl_ownCount w94 x0 v0_0 (h0_0.ro hB96) v0_1 (h0_1.ro hB96) v0_2 (h0_2.ro hB96) v0_3 (h0_3.ro hB96) x1 _ hu102) rfl ?_
   rintro _ w103 ⟨rfl, hb104⟩
   refine ⟨_, rfl, ?_⟩
   have hB105 := hB96.trans (hb104.mono hB96.size)
   have hS106 := hS97.below hb104
   have hSW108 := hSW101.ext hb104
   refine WL.nil (WH.ret hSW108 (WH.on1 11 rfl ?_))
   obtain ⟨u109, hu109, hF⟩ := bindE hF
   refine wl_call rfl Tryz.call66 (C_impl_SpotAfter w103 u31 v32 (hS106.own_ro (i := 1) rfl) u102 _ hu109) rfl ?_
   rintro _ w110 ⟨rfl, hb111⟩
   refine ⟨_, rfl, ?_⟩
   have hB112 := hB105.trans (hb111.mono hB105.size)
   have hS113 := hS106.below hb111
   have hSW115 := hSW108.ext hb111
   refine WL.nil (WH.ret hSW115 (WH.tk 12 rfl hP hSW115 (pr_move rfl rfl (WH.tk 13 rfl hP hSW115 (pr_extract rfl rfl rfl (WH.tk 14 rfl hP hSW115 (pr_extract rfl rfl rfl (WH.on1 16 rfl (wl_store_blk (i := 0) (vs := [(.int .i64 u109.1.1), (.int .i64 u109.1.2)]) (cs' := [(.int .i64 u109.1.1), (.int .i64 u109.1.2)]) tf_42 rfl rfl rfl rfl hB112 hS113 rfl rfl ⟨rfl, rfl, trivial⟩ rfl ?_)))))))))
   intro w116 hk119 hB117 hS118
   have hSW120 := hSW115.wr' hk119.1 hk119.2.1 (fun b hlt hb => absurd hlt (Nat.not_lt.2 (hn100 b hb)))
   refine WL.nil (WH.ret hSW120 (WH.tk 17 rfl hP hSW120 (pr_assign rfl rfl (WH.done (by kernel_rfl) ?_))))
   exact fun a ha => hJ20 (u109.1.1) (u109.1.2) (b93) _ hF hB117 (hS118.sel [2, 0] rfl) a (ha.sub ⟨rfl, rfl, trivial⟩)
 ·
  refine wl_alloc (cs := [(.int .i64 0), (.int .i64 0)]) tf_42 rfl rfl (Below.self w26) (Sep.nil _ _) ?_
  intro b122 w123 hb124 hB127 hM128
  have hB125 := hB28.trans (hb124.mono hB28.size)
  have hS126 := hS29.join hb124 hM128 hB28.size
  have hn129 : ∀ b ∈ [b122], w26.heap.size ≤ b := fun b hb => Nat.le_trans hSW30.size ((hM128.1 _ (List.mem_cons_self ..)).2.1 b hb).1
  have hSW130 := hSW30.ext hb124
  refine WL.nil (WH.ret hSW130 (WH.on1 7 rfl ?_))
  obtain ⟨u131, hu131, hF⟩ := bindE hF
  refine wl_call rfl Tryz.call67 (C_impl_sheetOf w123 x0.1.1 v0_0 (h0_0.ro hB125) x0.1.2.1 v0_1 (h0_1.ro hB125) x1 _ hu131) rfl ?_
  rintro _ w134 ⟨v132, F133, rfl, hb135, hM138⟩
  refine ⟨_, rfl, ?_⟩
  have hB136 := hB125.trans (hb135.mono hB125.size)
  have hS137 := hS126.join hb135 hM138 hB125.size
  have hSW140 := hSW130.ext hb135
  refine WL.nil (WH.ret hSW140 (WH.on1 10 rfl ?_))
  obtain ⟨u141, hu141, hF⟩ := bindE hF
  refine wl_call rfl Tryz.call68 (C_impl_ownCount w134 x0 v0_0 (h0_0.ro hB136) v0_1 (h0_1.ro hB136) v0_2 (h0_2.ro hB136) v0_3 (h0_3.ro hB136) x1 _ hu141) rfl ?_
  rintro _ w142 ⟨rfl, hb143⟩
  refine ⟨_, rfl, ?_⟩
  have hB144 := hB136.trans (hb143.mono hB136.size)
  have hS145 := hS137.below hb143
  have hSW147 := hSW140.ext hb143
  refine WL.nil (WH.ret hSW147 (WH.on1 11 rfl ?_))
  obtain ⟨u148, hu148, hF⟩ := bindE hF
  refine wl_call rfl Tryz.call66 (C_impl_SpotAfter w142 u131 v132 (hS145.own_ro (i := 0) rfl) u141 _ hu148) rfl ?_
  rintro _ w149 ⟨rfl, hb150⟩
  refine ⟨_, rfl, ?_⟩
  have hB151 := hB144.trans (hb150.mono hB144.size)
  have hS152 := hS145.below hb150
  have hSW154 := hSW147.ext hb150
  refine WL.nil (WH.ret hSW154 (WH.tk 12 rfl hP hSW154 (pr_move rfl rfl (WH.tk 13 rfl hP hSW154 (pr_extract rfl rfl rfl (WH.tk 14 rfl hP hSW154 (pr_extract rfl rfl rfl (WH.on1 16 rfl (wl_store_blk (i := 1) (vs := [(.int .i64 u148.1.1), (.int .i64 u148.1.2)]) (cs' := [(.int .i64 u148.1.1), (.int .i64 u148.1.2)]) tf_42 rfl rfl rfl rfl hB151 hS152 rfl rfl ⟨rfl, rfl, trivial⟩ rfl ?_)))))))))
  intro w155 hk158 hB156 hS157
  have hSW159 := hSW154.wr' hk158.1 hk158.2.1 (fun b hlt hb => absurd hlt (Nat.not_lt.2 (hn129 b hb)))
  refine WL.nil (WH.ret hSW159 (WH.tk 17 rfl hP hSW159 (pr_assign rfl rfl (WH.done (by kernel_rfl) ?_))))
  exact fun a ha => hJ20 (u148.1.1) (u148.1.2) (b122) _ hF hB156 (hS157.sel [2, 1] rfl) a (ha.sub ⟨rfl, rfl, trivial⟩)
theorem C_impl_WhereNow (w0 : World) (x0 : (((List (List (Int × Int))) × (List Int) × Int × Int) × Int × (List Int) × (List Int))) (v0_0 : Value) (h0_0 : rdS ty_66 (· < w0.heap.size) w0 v0_0 x0.1.1) (v0_1 : Value) (h0_1 : rdS ty_3 (· < w0.heap.size) w0 v0_1 x0.1.2.1) (v0_2 : Value) (h0_2 : rdS ty_3 (· < w0.heap.size) w0 v0_2 x0.2.2.1) (v0_3 : Value) (h0_3 : rdS ty_3 (· < w0.heap.size) w0 v0_3 x0.2.2.2) (x1 : Int) (r : ((Int × Int) × Bool)) (hF : F_impl_WhereNow x0 x1 = some r) :
  Calls Tryz.prog 14 [(.agg #[v0_0, v0_1, (.int .i64 x0.1.2.2.1), (.int .i64 x0.1.2.2.2), (.int .i64 x0.2.1), v0_2, v0_3]), (.int .i64 x1)].toArray w0 fun e w' => e = .returned (.tuple #[(.agg #[(.int .i64 r.1.1), (.int .i64 r.1.2)]), (.bool r.2)]) ∧ Below w0.heap.size w0 w' := by
 refine calls_mk' Tryz.func14 rfl Tryz.ntmps14 rfl rfl fun Q hQ hP => ?_
 have hB : Below w0.heap.size w0 w0 := Below.refl _ _
 have hS : Sep w0.heap.size w0 [] := Sep.nil _ _
 unfold F_impl_WhereNow at hF
 refine W.seq fun K1 hK1 => W.region (wl_box (cs := [v0_0, v0_1, (.int .i64 x0.1.2.2.1), (.int .i64 x0.1.2.2.2), (.int .i64 x0.2.1), v0_2, v0_3]) rfl rfl rfl hB hS ?_)
 intro b2 w3 hb4 hB5 hS6
 refine wl_alloc (cs := [(.int .i64 0), (.int .i64 0)]) tf_42 rfl rfl hB5 hS6 ?_
 intro b7 w8 hb9 hB10 hS11
 refine wl_assign rfl rfl (WL.nil (fun a ha => hK1 _ _ (W.seq fun K12 hK12 => (W.seq fun K13 hK13 => (W.region (wl_load_blk (i := 1) (vs := [v0_0, v0_1, (.int .i64 x0.1.2.2.1), (.int .i64 x0.1.2.2.2), (.int .i64 x0.2.1), v0_2, v0_3]) (v := (.agg #[v0_0, v0_1, (.int .i64 x0.1.2.2.1), (.int .i64 x0.1.2.2.2), (.int .i64 x0.2.1), v0_2, v0_3])) tf_29 rfl rfl hS11 rfl rfl rfl (wl_move rfl rfl ?_))))) a ha))
 obtain ⟨u14, hu14, hF⟩ := bindE hF
 refine wl_call rfl Tryz.call41 (C_impl_hasPerformer w8 x0 v0_0 (h0_0.ro hB10) v0_1 (h0_1.ro hB10) v0_2 (h0_2.ro hB10) v0_3 (h0_3.ro hB10) x1 _ hu14) rfl ?_
 rintro _ w15 ⟨rfl, hb16⟩
 refine ⟨_, rfl, ?_⟩
 have hB17 := hB10.trans (hb16.mono hB10.size)
 have hS18 := hS11.below hb16
 refine wl_not rfl rfl (WL.nil (fun a ha => hK13 _ _ (W.cond rfl (fun h20 => ?_) (fun h20 => ?_)) a ha))
 ·replace hF := ifP h20 hF
  refine W.seq fun K21 hK21 => W.region (wl_build (zs := [(.int .i64 0), (.int .i64 0)]) (out := [(.int .i64 0), (.int .i64 0)]) (vs := []) (css := []) tf_42 pl_42 rfl rfl rfl rfl rfl (wl_store_blk (i := 0) (vs := [(.int .i64 0), (.int .i64 0)]) (cs' := [(.int .i64 0), (.int .i64 0)]) tf_42 rfl rfl rfl rfl hB17 hS18 rfl rfl ⟨rfl, rfl, trivial⟩ rfl ?_))
  intro w22 hk25 hB23 hS24
  refine wl_assign rfl rfl (WL.nil (fun a ha => hK21 _ _ (W.ret ?_) a ha))
  have hr := Option.some.inj hF
  subst hr
  exact rets (vs := [(.agg #[(.int .i64 0), (.int .i64 0)]), (.bool false)]) hQ rfl ⟨rv_cell (i := 0) tf_42 rfl hS24 rfl rfl rfl, rv_tmp rfl, trivial⟩ ⟨rfl, hB23⟩
 ·replace hF := ifN h20 hF
  refine W.skip fun a ha => hK12 _ _ (W.seq fun K26 hK26 => (W.region (wl_load_blk (i := 1) (vs := [v0_0, v0_1, (.int .i64 x0.1.2.2.1), (.int .i64 x0.1.2.2.2), (.int .i64 x0.2.1), v0_2, v0_3]) (v := (.agg #[v0_0, v0_1, (.int .i64 x0.1.2.2.1), (.int .i64 x0.1.2.2.2), (.int .i64 x0.2.1), v0_2, v0_3])) tf_29 rfl rfl hS18 rfl rfl rfl (wl_move rfl rfl ?_)))) a ha
  obtain ⟨u27, hu27, hF⟩ := bindE hF
  refine wl_call rfl Tryz.call42 (C_impl_whereNow w15 x0 v0_0 (h0_0.ro hB17) v0_1 (h0_1.ro hB17) v0_2 (h0_2.ro hB17) v0_3 (h0_3.ro hB17) x1 _ hu27) rfl ?_
  rintro _ w28 ⟨rfl, hb29⟩
  refine ⟨_, rfl, ?_⟩
  have hB30 := hB17.trans (hb29.mono hB17.size)
  have hS31 := hS18.below hb29
  refine wl_store_blk (i := 0) (vs := [(.int .i64 u27.1), (.int .i64 u27.2)]) (cs' := [(.int .i64 u27.1), (.int .i64 u27.2)]) tf_42 rfl rfl rfl rfl hB30 hS31 rfl rfl ⟨rfl, rfl, trivial⟩ rfl ?_
  intro w33 hk36 hB34 hS35
  refine wl_assign rfl rfl (WL.nil (fun a ha => hK26 _ _ (W.ret ?_) a ha))
  have hr := Option.some.inj hF
  subst hr
  exact rets (vs := [(.agg #[(.int .i64 u27.1), (.int .i64 u27.2)]), (.bool true)]) hQ rfl ⟨rv_cell (i := 0) tf_42 rfl hS35 rfl rfl rfl, rv_tmp rfl, trivial⟩ ⟨rfl, hB34⟩
theorem C_spec_mnHas (w0 : World) (x0 : (((List (List (Int × Int))) × (List Int) × Int × Int) × Int × (List Int) × (List Int))) (v0_0 : Value) (h0_0 : rdS ty_66 (· < w0.heap.size) w0 v0_0 x0.1.1) (v0_1 : Value) (h0_1 : rdS ty_3 (· < w0.heap.size) w0 v0_1 x0.1.2.1) (v0_2 : Value) (h0_2 : rdS ty_3 (· < w0.heap.size) w0 v0_2 x0.2.2.1) (v0_3 : Value) (h0_3 : rdS ty_3 (· < w0.heap.size) w0 v0_3 x0.2.2.2) (x1 : Int) (r : Bool) (hF : F_spec_mnHas x0 x1 = some r) :
  Calls Tryz.prog 43 [(.agg #[v0_0, v0_1, (.int .i64 x0.1.2.2.1), (.int .i64 x0.1.2.2.2), (.int .i64 x0.2.1), v0_2, v0_3]), (.int .i64 x1)].toArray w0 fun e w' => e = .returned (.bool r) ∧ Below w0.heap.size w0 w' := by
 refine calls_mk' Tryz.func43 rfl Tryz.ntmps43 rfl rfl fun Q hQ hP => ?_
 have hB : Below w0.heap.size w0 w0 := Below.refl _ _
 have hS : Sep w0.heap.size w0 [] := Sep.nil _ _
 unfold F_spec_mnHas at hF
 refine W.seq fun K1 hK1 => W.region (wl_box (cs := [v0_0, v0_1, (.int .i64 x0.1.2.2.1), (.int .i64 x0.1.2.2.2), (.int .i64 x0.2.1), v0_2, v0_3]) rfl rfl rfl hB hS ?_)
 intro b2 w3 hb4 hB5 hS6
 refine wl_assign rfl rfl (WL.nil (fun a ha => hK1 _ _ (W.seq fun K7 hK7 => ?_) a ha))
 obtain ⟨k12, hk12, hF⟩ := jE1 hF
 have hJ13 : ∀ (y11 : Bool) (w8 : World) (_ : k12 y11 = some r) (_ : Below w0.heap.size w0 w8) (_ : Sep w0.heap.size w8 []), ∀ a, St 15 [(4, (.bool y11))] a → K7 a w8 := by
  intro y11 w8 hF hB9 hS10
  subst hk12
  refine fun a ha => hK7 _ _ (W.ret ?_) a ha
  have hr := Option.some.inj hF
  subst hr
  exact rets (vs := [(.bool y11)]) hQ rfl ⟨rv_tmp rfl, trivial⟩ ⟨rfl, hB9⟩
 refine W.region (wl_load_blk (i := 0) (vs := [v0_0, v0_1, (.int .i64 x0.1.2.2.1), (.int .i64 x0.1.2.2.2), (.int .i64 x0.2.1), v0_2, v0_3]) (v := (.agg #[v0_0, v0_1, (.int .i64 x0.1.2.2.1), (.int .i64 x0.1.2.2.2), (.int .i64 x0.2.1), v0_2, v0_3])) tf_29 rfl rfl hS6 rfl rfl rfl ?_)
 obtain ⟨u14, hu14, hF⟩ := bindE hF
 refine wl_call rfl Tryz.call31 (C_spec_mnGood w3 x0 v0_0 (h0_0.ro hB5) v0_1 (h0_1.ro hB5) v0_2 (h0_2.ro hB5) v0_3 (h0_3.ro hB5) _ hu14) rfl ?_
 rintro _ w15 ⟨rfl, hb16⟩
 refine ⟨_, rfl, ?_⟩
 have hB17 := hB5.trans (hb16.mono hB5.size)
 have hS18 := hS6.below hb16
 refine wl_move rfl rfl ?_
 rcases bE u14 with h20 | h20
 ·replace hF := ifP h20 hF
  refine wl_on rfl rfl h20 (wl_move rfl rfl (wl_on rfl rfl h20 (wl_field (o := 6) (off' := 6) ff_29_3 rfl rfl rfl (wl_on rfl rfl h20 (wl_load_blk (i := 0) (vs := [v0_3]) (v := v0_3) tf_25 rfl rfl hS18 rfl rfl rfl (wl_on rfl rfl h20 (wl_lenr (e := ty_3) (l := x0.2.2.2) Tryz.underlying25 rfl rfl h0_3 (wl_on rfl rfl h20 (wl_sub rfl rfl rfl (wl_on rfl rfl h20 ?_))))))))))
  obtain ⟨u21, hu21, hF⟩ := bindE hF
  refine wl_call rfl Tryz.call57 (C_spec_l1In w15 x1 0 (w64 ((List.length x0.2.2.2 : Int) - 1)) _ hu21) rfl ?_
  rintro _ w22 ⟨rfl, hb23⟩
  refine ⟨_, rfl, ?_⟩
  have hB24 := hB17.trans (hb23.mono hB17.size)
  have hS25 := hS18.below hb23
  refine wl_pick_t rfl rfl h20 rfl (wl_assign rfl rfl (WL.nil ?_))
  exact fun a ha => hJ13 (u21) _ hF hB24 (hS25.sel [] rfl) a (ha.sub ⟨rfl, trivial⟩)
 ·replace hF := ifN h20 hF
  refine wl_off rfl rfl rfl h20 (wl_off rfl rfl rfl h20 (wl_off rfl rfl rfl h20 (wl_off rfl rfl rfl h20 (wl_off rfl rfl rfl h20 (wl_off rfl rfl rfl h20 (wl_pick_f rfl rfl h20 rfl (wl_assign rfl rfl (WL.nil ?_))))))))
  exact fun a ha => hJ13 (false) _ hF hB17 (hS18.sel [] rfl) a (ha.sub ⟨rfl, trivial⟩)
theorem C_spec_shOf (w0 : World) (x0 : (List (List (Int × Int)))) (v0_0 : Value) (h0_0 : rdS ty_66 (· < w0.heap.size) w0 v0_0 x0) (x1 : (List Int)) (v1_0 : Value) (h1_0 : rdS ty_3 (· < w0.heap.size) w0 v1_0 x1) (x2 : Int) (r : (Int × (Int × Int) × (List (Int × (Int × Int))))) (hF : F_spec_shOf x0 x1 x2 = some r) :
  Calls Tryz.prog 70 [v0_0, v1_0, (.int .i64 x2)].toArray w0 fun e w' => ∃ (q0 : Value) (G0 : List Nat), e = .returned (.agg #[(.int .i64 r.1), (.int .i64 r.2.1.1), (.int .i64 r.2.1.2), q0]) ∧ Below w0.heap.size w0 w' ∧ Sep w0.heap.size w' [R.own ty_104 G0 q0 r.2.2] := by
 refine calls_mk' Tryz.func70 rfl Tryz.ntmps70 rfl rfl fun Q hQ hP => ?_
 have hB : Below w0.heap.size w0 w0 := Below.refl _ _
 have hS : Sep w0.heap.size w0 [] := Sep.nil _ _
 unfold F_spec_shOf at hF
 refine W.seq fun K1 hK1 => W.region (wl_alloc (cs := [(.int .i64 0), (.int .i64 0), (.int .i64 0), (.slice none 0 0)]) tf_86 rfl rfl hB hS ?_)
 intro b2 w3 hb4 hB5 hS6
 refine WL.nil fun a ha => hK1 _ _ (W.seq fun K7 hK7 => (W.region (wl_move rfl rfl (wl_move rfl rfl ?_)))) a ha
 obtain ⟨u8, hu8, hF⟩ := bindE hF
 refine wl_index (e := ty_66) Tryz.underlying24 rfl rfl rfl h0_0 hu8 ?_
 rintro p9 _ ⟨v11, rfl, hv12⟩ hp10
 refine wl_load_p (vs := [v11]) (v := v11) tf_66 rfl rfl (hp10.ro hB5) rfl rfl (wl_move rfl rfl ?_)
 obtain ⟨u13, hu13, hF⟩ := bindE hF
 refine wl_index (e := ty_42) Tryz.underlying66 rfl rfl rfl hv12 hu13 ?_
 rintro p14 _ rfl hp15
 refine wl_load_p (vs := [(.int .i64 u13.1), (.int .i64 u13.2)]) (v := (.agg #[(.int .i64 u13.1), (.int .i64 u13.2)])) tf_42 rfl rfl (hp15.ro hB5) rfl rfl (wl_build (zs := [(.int .i64 0), (.int .i64 0), (.int .i64 0), (.slice none 0 0)]) (out := [(.int .i64 x2), (.int .i64 u13.1), (.int .i64 u13.2), (.slice none 0 0)]) (vs := [(.int .i64 x2), (.agg #[(.int .i64 u13.1), (.int .i64 u13.2)])]) (css := [[(.int .i64 x2)], [(.int .i64 u13.1), (.int .i64 u13.2)]]) tf_86 pl_86 rfl rfl rfl rfl rfl (wl_alloc (cs := [(.int .i64 0), (.int .i64 0), (.int .i64 0), (.slice none 0 0)]) tf_86 rfl rfl hB5 hS6 ?_))
 intro b16 w17 hb18 hB19 hS20
 refine wl_store_blk (i := 0) (vs := [(.int .i64 x2), (.int .i64 u13.1), (.int .i64 u13.2), (.slice none 0 0)]) (cs' := [(.int .i64 x2), (.int .i64 u13.1), (.int .i64 u13.2), (.slice none 0 0)]) tf_86 rfl rfl rfl rfl hB19 hS20 rfl rfl ⟨rfl, rfl, rfl, rfl, trivial⟩ rfl ?_
 intro w21 hk24 hB22 hS23
 refine WL.nil fun a ha => hK7 _ _ (W.seq fun K25 hK25 => (W.seq fun K26 hK26 => (W.region (wl_move rfl rfl (wl_lenr (e := ty_3) (l := x1) Tryz.underlying25 rfl rfl h1_0 (wl_move rfl rfl (WL.nil (fun a ha => hK26 _ _ (W.block (W.loopk (fun m a w27 => ∃ (l30 : (List (Int × (Int × Int)))) (y33 : Int) (v31 : Value) (F32 : List Nat), St 42 [(0, v0_0), (2, (.int .i64 x2)), (6, (.pointer (some ⟨b2, 0, none⟩))), (7, (.pointer (some ⟨b16, 0, none⟩))), (18, v1_0), (19, (.int .i64 (List.length x1 : Int))), (20, (.int .i64 y33))] a ∧ Below w0.heap.size w0 w27 ∧ Sep w0.heap.size w27 [R.blk b2 86 [(.int .i64 0), (.int .i64 0), (.int .i64 0), (.slice none 0 0)], R.own ty_104 F32 v31 l30, R.blk b16 86 [(.int .i64 x2), (.int .i64 u13.1), (.int .i64 u13.2), v31]] ∧ F_spec_shOf_L1 x1 x0 x2 u13 m l30 y33 = some r) FU ?_ ?_)) a ha)))))))) a ha
 ·
  have hS35 := hS23.push0 (r := R.own ty_104 [] (.slice none 0 0) []) rfl fun _ => .inl ⟨rfl, rfl, rfl⟩
  exact fun a ha => ⟨[], 0, (.slice none 0 0), [], ha.sub ⟨rfl, rfl, rfl, rfl, rfl, rfl, rfl, trivial⟩, hB22, (hS35.sel [2, 0, 1] rfl), hF⟩
 ·
  rintro m37 a w27 ⟨l30, y33, v31, F32, ha, hB28, hS29, hF⟩ KL36 hKL36
  refine W.at ?_ ha
  cases m37 with
  | zero => exact noneE hF
  | succ m37 =>
   obtain ⟨nx34, hnx34⟩ : ∃ k, k = F_spec_shOf_L1 x1 x0 x2 u13 m37 := ⟨_, rfl⟩
   rw [F_spec_shOf_L1, ← hnx34] at hF
   refine W.seq fun K38 hK38 => W.region (wl_lss rfl rfl rfl (WL.nil (fun a ha => hK38 _ _ (W.seq fun K39 hK39 => (W.cond rfl (fun h40 => ?_) (fun h40 => ?_))) a ha)))
   ·replace hF := ifP h40 hF
    refine W.skip fun a ha => hK39 _ _ (W.seq fun K41 hK41 => ?_) a ha
    obtain ⟨k48, hk48, hF⟩ := jE1 hF
    have hJ49 : ∀ (l45 : (List (Int × (Int × Int)))) (v46 : Value) (F47 : List Nat) (w42 : World) (_ : k48 l45 = some r) (_ : Below w0.heap.size w0 w42) (_ : Sep w0.heap.size w42 [R.blk b2 86 [(.int .i64 0), (.int .i64 0), (.int .i64 0), (.slice none 0 0)], R.own ty_104 F47 v46 l45, R.blk b16 86 [(.int .i64 x2), (.int .i64 u13.1), (.int .i64 u13.2), v46]]), ∀ a, St 42 [(0, v0_0), (2, (.int .i64 x2)), (6, (.pointer (some ⟨b2, 0, none⟩))), (7, (.pointer (some ⟨b16, 0, none⟩))), (18, v1_0), (19, (.int .i64 (List.length x1 : Int))), (20, (.int .i64 y33))] a → K41 a w42 := by
     intro l45 v46 F47 w42 hF hB43 hS44
     subst hk48
     refine fun a ha => hK41 _ _ (W.region (wl_add rfl rfl rfl (wl_move rfl rfl (WL.nil ?_)))) a ha
     rw [hnx34] at hF
     exact fun a ha => hKL36 a _ m37 (Nat.lt_succ_self m37) ⟨l45, (w64 (y33 + 1)), v46, F47, ha.sub ⟨rfl, rfl, rfl, rfl, rfl, rfl, rfl, trivial⟩, hB43, (hS44.sel [0, 1, 2] rfl), hF⟩
    refine W.block (W.seq fun K50 hK50 => (W.region (wl_move rfl rfl ?_)))
    obtain ⟨u51, hu51, hF⟩ := bindE hF
    refine wl_index (e := ty_3) Tryz.underlying25 rfl rfl rfl h1_0 hu51 ?_
    rintro p52 _ rfl hp53
    refine wl_load_p (vs := [(.int .i64 u51)]) (v := (.int .i64 u51)) tf_3 rfl rfl (hp53.ro hB28) rfl rfl (wl_assign rfl rfl (wl_assign rfl rfl (WL.nil (fun a ha => hK50 _ _ (W.regionH mixed_ (F32 ++ [b16]) hB28 hS29 ?_) a ha))))
    intro w54 hb55 hB56 hS57
    have hSW58 := KeepX.refl w54 (F32 ++ [b16])
    refine WH.tk 0 rfl hP hSW58 (pr_field (o := 3) (off' := 3) ff_86_2 rfl rfl rfl (WH.tk 2 rfl hP hSW58 (pr_move rfl rfl (WH.tk 3 rfl hP hSW58 (pr_move rfl rfl (WH.tk 4 rfl hP hSW58 (pr_move rfl rfl (WH.tk 5 rfl hP hSW58 (pr_add rfl rfl rfl ?_)))))))))
    obtain ⟨u59, hu59, hF⟩ := bindE hF
    refine WH.tk 6 rfl hP hSW58 (pr_index (e := ty_66) Tryz.underlying24 rfl rfl rfl h0_0 hu59 ?_)
    rintro p60 _ ⟨v62, rfl, hv63⟩ hp61
    refine WH.tk 7 rfl hP hSW58 (pr_load_p (vs := [v62]) (v := v62) tf_66 rfl rfl (hp61.kx hB56 (fun b hb => ((List.mem_append.1 hb).elim (fun hb => (((hS57.get (i := 1) rfl).2.1 b hb).1)) (fun hb => (((hS57.get (i := 2) rfl).2.1 b hb).1))))) rfl rfl (WH.tk 8 rfl hP hSW58 (pr_move rfl rfl ?_)))
    obtain ⟨u64, hu64, hF⟩ := bindE hF
    refine WH.tk 9 rfl hP hSW58 (pr_index (e := ty_42) Tryz.underlying66 rfl rfl rfl hv63 hu64 ?_)
    rintro p65 _ rfl hp66
    refine WH.tk 10 rfl hP hSW58 (pr_load_p (vs := [(.int .i64 u64.1), (.int .i64 u64.2)]) (v := (.agg #[(.int .i64 u64.1), (.int .i64 u64.2)])) tf_42 rfl rfl (hp66.kx hB56 (fun b hb => ((List.mem_append.1 hb).elim (fun hb => (((hS57.get (i := 1) rfl).2.1 b hb).1)) (fun hb => (((hS57.get (i := 2) rfl).2.1 b hb).1))))) rfl rfl (WH.tk 11 rfl hP hSW58 (pr_build (zs := [(.int .i64 0), (.int .i64 0), (.int .i64 0)]) (out := [(.int .i64 u51), (.int .i64 u64.1), (.int .i64 u64.2)]) (vs := [(.int .i64 u51), (.agg #[(.int .i64 u64.1), (.int .i64 u64.2)])]) (css := [[(.int .i64 u51)], [(.int .i64 u64.1), (.int .i64 u64.2)]]) tf_104 pl_104 rfl rfl rfl rfl rfl (WH.many (is := [1, 12]) (by kernel_rfl) rfl (List.forall_mem_cons.2 ⟨⟨_, rfl, ?_⟩, List.forall_mem_cons.2 ⟨⟨_, rfl, ?_⟩, fun _ h => by cases h⟩⟩)))))
    ·
     refine wl_load_blk (i := 2) (vs := [v31]) (v := v31) tf_84 rfl rfl hS57 rfl rfl rfl (WL.nil (WH.ret hSW58 (WH.on1 12 rfl (wl_lit (vs := [(.agg #[(.int .i64 u51), (.int .i64 u64.1), (.int .i64 u64.2)])]) (l := [(u51, u64)]) fl_104 Tryz.underlying84 rfl rfl rfl rfl rfl rfl (Below.self w54) (Sep.nil _ _) ?_))))
     intro v67 F68 w69 hb70 hB73 hM74
     have hB71 := hB56.trans (hb70.mono hB56.size)
     have hS72 := hS57.join hb70 hM74 hB56.size
     have hSW76 := hSW58.ext hb70
     refine WL.nil (WH.ret hSW76 (WH.on1 13 rfl ?_))
     obtain ⟨u78, hu78, hF⟩ := bindE hF
     refine wl_append (i := 2) (S := (· < w69.heap.size)) fl_104 Tryz.underlying84 rfl rfl rfl hB71 hS72 rfl (hS72.own_ro (i := 0) rfl) hu78 ?_
     intro v79 F80 w81 hk82 hB83 hS84
     have hSW85 := hSW76.wr' hk82.1 hk82.2.1 (fun _ _ h => List.mem_append_left _ (h))
     refine WL.nil (WH.ret hSW85 (WH.tk 14 rfl hP hSW85 (pr_field (o := 3) (off' := 3) ff_86_2 rfl rfl rfl (WH.on1 15 rfl (wl_store_blk (i := 3) (vs := [v79]) (cs' := [(.int .i64 x2), (.int .i64 u13.1), (.int .i64 u13.2), v79]) tf_84 rfl rfl (cells_one (hS84.own_ro (i := 2) rfl).one) rfl hB83 hS84 rfl rfl ⟨(hS84.own_ro (i := 2) rfl).one, trivial⟩ rfl ?_)))))
     intro w87 hk90 hB88 hS89
     have hSW91 := hSW85.wr' hk90.1 hk90.2.1 (fun _ _ h => List.mem_append_right _ h)
     refine WL.nil (WH.ret hSW91 (WH.done (by kernel_rfl) ?_))
     exact fun a ha => hJ49 (u78) (v79) (F80) _ hF hB88 (hS89.sel [1, 2, 3] rfl) a (ha.sub ⟨rfl, rfl, rfl, rfl, rfl, rfl, rfl, trivial⟩)
    ·
     refine wl_lit (vs := [(.agg #[(.int .i64 u51), (.int .i64 u64.1), (.int .i64 u64.2)])]) (l := [(u51, u64)]) fl_104 Tryz.underlying84 rfl rfl rfl rfl rfl rfl (Below.self w54) (Sep.nil _ _) ?_
     intro v93 F94 w95 hb96 hB99 hM100
     have hB97 := hB56.trans (hb96.mono hB56.size)
     have hS98 := hS57.join hb96 hM100 hB56.size
     have hSW102 := hSW58.ext hb96
     refine WL.nil (WH.ret hSW102 (WH.on1 1 rfl (wl_load_blk (i := 3) (vs := [v31]) (v := v31) tf_84 rfl rfl hS98 rfl rfl rfl (WL.nil (WH.ret hSW102 (WH.on1 13 rfl ?_))))))
     obtain ⟨u104, hu104, hF⟩ := bindE hF
     refine wl_append (i := 2) (S := (· < w95.heap.size)) fl_104 Tryz.underlying84 rfl rfl rfl hB97 hS98 rfl (hS98.own_ro (i := 0) rfl) hu104 ?_
     intro v105 F106 w107 hk108 hB109 hS110
     have hSW111 := hSW102.wr' hk108.1 hk108.2.1 (fun _ _ h => List.mem_append_left _ (h))
     refine WL.nil (WH.ret hSW111 (WH.tk 14 rfl hP hSW111 (pr_field (o := 3) (off' := 3) ff_86_2 rfl rfl rfl (WH.on1 15 rfl (wl_store_blk (i := 3) (vs := [v105]) (cs' := [(.int .i64 x2), (.int .i64 u13.1), (.int .i64 u13.2), v105]) tf_84 rfl rfl (cells_one (hS110.own_ro (i := 2) rfl).one) rfl hB109 hS110 rfl rfl ⟨(hS110.own_ro (i := 2) rfl).one, trivial⟩ rfl ?_)))))
     intro w113 hk116 hB114 hS115
     have hSW117 := hSW111.wr' hk116.1 hk116.2.1 (fun _ _ h => List.mem_append_right _ h)
     refine WL.nil (WH.ret hSW117 (WH.done (by kernel_rfl) ?_))
     exact fun a ha => hJ49 (u104) (v105) (F106) _ hF hB114 (hS115.sel [1, 2, 3] rfl) a (ha.sub ⟨rfl, rfl, rfl, rfl, rfl, rfl, rfl, trivial⟩)
   ·replace hF := ifN h40 hF
    refine W.exit fun a ha => hK25 _ _ (W.seq fun K119 hK119 => (W.region (wl_load_blk (i := 2) (vs := [(.int .i64 x2), (.int .i64 u13.1), (.int .i64 u13.2), v31]) (v := (.agg #[(.int .i64 x2), (.int .i64 u13.1), (.int .i64 u13.2), v31])) tf_86 rfl rfl hS29 rfl rfl rfl (wl_store_blk (i := 0) (vs := [(.int .i64 x2), (.int .i64 u13.1), (.int .i64 u13.2), v31]) (cs' := [(.int .i64 x2), (.int .i64 u13.1), (.int .i64 u13.2), v31]) tf_86 rfl rfl rfl rfl hB28 hS29 rfl rfl ⟨rfl, rfl, rfl, (hS29.own_ro (i := 1) rfl).one, trivial⟩ rfl ?_)))) a ha
    intro w120 hk123 hB121 hS122
    refine WL.nil fun a ha => hK119 _ _ (W.ret ?_) a ha
    have hr := Option.some.inj hF
    subst hr
    exact rets (vs := [(.agg #[(.int .i64 x2), (.int .i64 u13.1), (.int .i64 u13.2), v31])]) hQ rfl ⟨rv_cell (i := 0) tf_86 rfl hS122 rfl rfl rfl, trivial⟩ ⟨v31, F32, rfl, hB121, hS122.sel [1] rfl⟩
theorem C_spec_swTotal (w0 : World) (x0 : ((List (List (Int × Int))) × (List Int) × Int × Int)) (v0_0 : Value) (h0_0 : rdS ty_66 (· < w0.heap.size) w0 v0_0 x0.1) (v0_1 : Value) (h0_1 : rdS ty_3 (· < w0.heap.size) w0 v0_1 x0.2.1) (r : Int) (hF : F_spec_swTotal x0 = some r) :
  Calls Tryz.prog 90 [(.agg #[v0_0, v0_1, (.int .i64 x0.2.2.1), (.int .i64 x0.2.2.2)])].toArray w0 fun e w' => e = .returned (.int .i64 r) ∧ Below w0.heap.size w0 w' := by
 refine calls_mk' Tryz.func90 rfl Tryz.ntmps90 rfl rfl fun Q hQ hP => ?_
 have hB : Below w0.heap.size w0 w0 := Below.refl _ _
 have hS : Sep w0.heap.size w0 [] := Sep.nil _ _
 unfold F_spec_swTotal at hF
 refine W.seq fun K1 hK1 => W.region (wl_box (cs := [v0_0, v0_1, (.int .i64 x0.2.2.1), (.int .i64 x0.2.2.2)]) rfl rfl rfl hB hS ?_)
 intro b2 w3 hb4 hB5 hS6
 refine wl_assign rfl rfl (WL.nil (fun a ha => hK1 _ _ (W.seq fun K7 hK7 => (W.region (wl_assign rfl rfl (WL.nil (fun a ha => hK7 _ _ (W.seq fun K8 hK8 => (W.seq fun K9 hK9 => (W.region (wl_field (o := 1) (off' := 1) ff_27_1 rfl rfl rfl (wl_load_blk (i := 0) (vs := [v0_1]) (v := v0_1) tf_25 rfl rfl hS6 rfl rfl rfl (wl_lenr (e := ty_3) (l := x0.2.1) Tryz.underlying25 rfl rfl h0_1 ?_)))))) a ha))))) a ha))
 refine wl_move rfl rfl (WL.nil (fun a ha => hK9 _ _ (W.block (W.loopk (fun m a w10 => ∃ (y13 : Int) (y14 : Int), St 18 [(3, (.int .i64 y13)), (7, v0_1), (8, (.int .i64 (List.length x0.2.1 : Int))), (9, (.int .i64 y14))] a ∧ Below w0.heap.size w0 w10 ∧ Sep w0.heap.size w10 [] ∧ F_spec_swTotal_L1 x0 m y13 y14 = some r) FU ?_ ?_)) a ha))
 ·
  exact fun a ha => ⟨0, 0, ha.sub ⟨rfl, rfl, rfl, rfl, trivial⟩, hB5, (hS6.sel [] rfl), hF⟩
 ·
  rintro m17 a w10 ⟨y13, y14, ha, hB11, hS12, hF⟩ KL16 hKL16
  refine W.at ?_ ha
  cases m17 with
  | zero => exact noneE hF
  | succ m17 =>
   obtain ⟨nx15, hnx15⟩ : ∃ k, k = F_spec_swTotal_L1 x0 m17 := ⟨_, rfl⟩
   rw [F_spec_swTotal_L1, ← hnx15] at hF
   refine W.seq fun K18 hK18 => W.region (wl_lss rfl rfl rfl (WL.nil (fun a ha => hK18 _ _ (W.seq fun K19 hK19 => (W.cond rfl (fun h20 => ?_) (fun h20 => ?_))) a ha)))
   ·replace hF := ifP h20 hF
    refine W.skip fun a ha => hK19 _ _ (W.seq fun K21 hK21 => (W.block (W.seq fun K22 hK22 => (W.region ?_)))) a ha
    obtain ⟨u23, hu23, hF⟩ := bindE hF
    refine wl_index (e := ty_3) Tryz.underlying25 rfl rfl rfl h0_1 hu23 ?_
    rintro p24 _ rfl hp25
    refine wl_load_p (vs := [(.int .i64 u23)]) (v := (.int .i64 u23)) tf_3 rfl rfl (hp25.ro hB11) rfl rfl (wl_assign rfl rfl (WL.nil (fun a ha => hK22 _ _ (W.region (wl_move rfl rfl (wl_move rfl rfl (wl_add rfl rfl rfl (wl_assign rfl rfl (WL.nil (fun a ha => hK21 _ _ (W.region (wl_add rfl rfl rfl (wl_move rfl rfl ?_))) a ha))))))) a ha)))
    refine WL.nil ?_
    rw [hnx15] at hF
    exact fun a ha => hKL16 a _ m17 (Nat.lt_succ_self m17) ⟨(w64 (y13 + u23)), (w64 (y14 + 1)), ha.sub ⟨rfl, rfl, rfl, rfl, trivial⟩, hB11, (hS12.sel [] rfl), hF⟩
   ·replace hF := ifN h20 hF
    refine W.exit fun a ha => hK8 _ _ (W.seq fun K26 hK26 => (W.region (wl_move rfl rfl (wl_assign rfl rfl (WL.nil (fun a ha => hK26 _ _ (W.ret ?_) a ha)))))) a ha
    have hr := Option.some.inj hF
    subst hr
    exact rets (vs := [(.int .i64 y13)]) hQ rfl ⟨rv_tmp rfl, trivial⟩ ⟨rfl, hB11⟩
theorem C_spec_mnCount (w0 : World) (x0 : (((List (List (Int × Int))) × (List Int) × Int × Int) × Int × (List Int) × (List Int))) (v0_0 : Value) (h0_0 : rdS ty_66 (· < w0.heap.size) w0 v0_0 x0.1.1) (v0_1 : Value) (h0_1 : rdS ty_3 (· < w0.heap.size) w0 v0_1 x0.1.2.1) (v0_2 : Value) (h0_2 : rdS ty_3 (· < w0.heap.size) w0 v0_2 x0.2.2.1) (v0_3 : Value) (h0_3 : rdS ty_3 (· < w0.heap.size) w0 v0_3 x0.2.2.2) (x1 : Int) (r : Int) (hF : F_spec_mnCount x0 x1 = some r) :
  Calls Tryz.prog 71 [(.agg #[v0_0, v0_1, (.int .i64 x0.1.2.2.1), (.int .i64 x0.1.2.2.2), (.int .i64 x0.2.1), v0_2, v0_3]), (.int .i64 x1)].toArray w0 fun e w' => e = .returned (.int .i64 r) ∧ Below w0.heap.size w0 w' := by
 refine calls_mk' Tryz.func71 rfl Tryz.ntmps71 rfl rfl fun Q hQ hP => ?_
 have hB : Below w0.heap.size w0 w0 := Below.refl _ _
 have hS : Sep w0.heap.size w0 [] := Sep.nil _ _
 unfold F_spec_mnCount at hF
 refine W.seq fun K1 hK1 => W.region (wl_box (cs := [v0_0, v0_1, (.int .i64 x0.1.2.2.1), (.int .i64 x0.1.2.2.2), (.int .i64 x0.2.1), v0_2, v0_3]) rfl rfl rfl hB hS ?_)
 intro b2 w3 hb4 hB5 hS6
 refine wl_assign rfl rfl (WL.nil (fun a ha => hK1 _ _ (W.seq fun K7 hK7 => (W.regionH mixed_ [] hB5 hS6 ?_)) a ha))
 intro w8 hb9 hB10 hS11
 have hSW12 := KeepX.refl w8 []
 refine WH.tk 0 rfl hP hSW12 (pr_field (o := 0) (off' := 0) ff_29_0 rfl rfl rfl (WH.tk 1 rfl hP hSW12 (pr_load_blk (i := 0) (vs := [v0_0, v0_1, (.int .i64 x0.1.2.2.1), (.int .i64 x0.1.2.2.2)]) (v := (.agg #[v0_0, v0_1, (.int .i64 x0.1.2.2.1), (.int .i64 x0.1.2.2.2)])) tf_27 rfl rfl hS11 rfl rfl rfl (by simp) (WH.tk 3 rfl hP hSW12 (pr_field (o := 4) (off' := 4) ff_29_1 rfl rfl rfl (WH.tk 4 rfl hP hSW12 (pr_load_blk (i := 0) (vs := [(.int .i64 x0.2.1)]) (v := (.int .i64 x0.2.1)) tf_3 rfl rfl hS11 rfl rfl rfl (by simp) (WH.tk 5 rfl hP hSW12 (pr_field (o := 6) (off' := 6) ff_29_3 rfl rfl rfl (WH.tk 6 rfl hP hSW12 (pr_load_blk (i := 0) (vs := [v0_3]) (v := v0_3) tf_25 rfl rfl hS11 rfl rfl rfl (by simp) (WH.tk 7 rfl hP hSW12 (pr_move rfl rfl ?_)))))))))))))
 obtain ⟨u13, hu13, hF⟩ := bindE hF
 refine WH.tk 8 rfl hP hSW12 (pr_index (e := ty_3) Tryz.underlying25 rfl rfl rfl h0_3 hu13 ?_)
 rintro p14 _ rfl hp15
 refine WH.tk 9 rfl hP hSW12 (pr_load_p (vs := [(.int .i64 u13)]) (v := (.int .i64 u13)) tf_3 rfl rfl (hp15.kx hB10 (by simp)) rfl rfl (WH.tk 10 rfl hP hSW12 (pr_sub rfl rfl rfl (WH.on1 2 rfl ?_))))
 obtain ⟨u16, hu16, hF⟩ := bindE hF
 refine wl_call rfl Tryz.call90 (C_spec_swTotal w8 x0.1 v0_0 (h0_0.ro hB10) v0_1 (h0_1.ro hB10) _ hu16) rfl ?_
 rintro _ w17 ⟨rfl, hb18⟩
 refine ⟨_, rfl, ?_⟩
 have hB19 := hB10.trans (hb18.mono hB10.size)
 have hSW22 := hSW12.ext hb18
 refine WL.nil (WH.ret hSW22 (WH.on1 11 rfl ?_))
 obtain ⟨u23, hu23, hF⟩ := bindE hF
 refine wl_call rfl Tryz.call76 (C_spec_l1Least w17 u16 (w64 (x0.2.1 - u13)) _ hu23) rfl ?_
 rintro _ w24 ⟨rfl, hb25⟩
 refine ⟨_, rfl, ?_⟩
 have hB26 := hB19.trans (hb25.mono hB19.size)
 have hSW29 := hSW22.ext hb25
 refine WL.nil (WH.ret hSW29 (WH.tk 12 rfl hP hSW29 (pr_assign rfl rfl (WH.done (by kernel_rfl) (fun a ha => hK7 _ _ (W.ret ?_) a ha)))))
 have hr := Option.some.inj hF
 subst hr
 exact rets (vs := [(.int .i64 u23)]) hQ rfl ⟨rv_tmp rfl, trivial⟩ ⟨rfl, hB26⟩
theorem C_spec_shGood (w0 : World) (x0 : (Int × (Int × Int) × (List (Int × (Int × Int))))) (v0_0 : Value) (h0_0 : rdS ty_104 (· < w0.heap.size) w0 v0_0 x0.2.2) (r : Bool) (hF : F_spec_shGood x0 = some r) :
  Calls Tryz.prog 87 [(.agg #[(.int .i64 x0.1), (.int .i64 x0.2.1.1), (.int .i64 x0.2.1.2), v0_0])].toArray w0 fun e w' => e = .returned (.bool r) ∧ Below w0.heap.size w0 w' := by
 refine calls_mk' Tryz.func87 rfl Tryz.ntmps87 rfl rfl fun Q hQ hP => ?_
 have hB : Below w0.heap.size w0 w0 := Below.refl _ _
 have hS : Sep w0.heap.size w0 [] := Sep.nil _ _
 unfold F_spec_shGood at hF
 refine W.seq fun K1 hK1 => W.region (wl_box (cs := [(.int .i64 x0.1), (.int .i64 x0.2.1.1), (.int .i64 x0.2.1.2), v0_0]) rfl rfl rfl hB hS ?_)
 intro b2 w3 hb4 hB5 hS6
 refine wl_assign rfl rfl (WL.nil (fun a ha => hK1 _ _ (W.seq fun K7 hK7 => (W.seq fun K8 hK8 => (W.region (wl_field (o := 3) (off' := 3) ff_86_2 rfl rfl rfl (wl_load_blk (i := 0) (vs := [v0_0]) (v := v0_0) tf_84 rfl rfl hS6 rfl rfl rfl (wl_lenr (e := ty_104) (l := x0.2.2) Tryz.underlying84 rfl rfl h0_0 (wl_move rfl rfl (WL.nil (fun a ha => hK8 _ _ (W.block (W.loopk (fun m a w9 => ∃ (y12 : Int), St 37 [(1, (.pointer (some ⟨b2, 0, none⟩))), (6, v0_0), (7, (.int .i64 (List.length x0.2.2 : Int))), (8, (.int .i64 y12))] a ∧ Below w0.heap.size w0 w9 ∧ Sep w0.heap.size w9 [R.blk b2 86 [(.int .i64 x0.1), (.int .i64 x0.2.1.1), (.int .i64 x0.2.1.2), v0_0]] ∧ F_spec_shGood_L1 x0 m y12 = some r) FU ?_ ?_)) a ha))))))))) a ha))
 ·
  exact fun a ha => ⟨0, ha.sub ⟨rfl, rfl, rfl, rfl, trivial⟩, hB5, (hS6.sel [0] rfl), hF⟩
 ·
  rintro m15 a w9 ⟨y12, ha, hB10, hS11, hF⟩ KL14 hKL14
  refine W.at ?_ ha
  cases m15 with
  | zero => exact noneE hF
  | succ m15 =>
   obtain ⟨nx13, hnx13⟩ : ∃ k, k = F_spec_shGood_L1 x0 m15 := ⟨_, rfl⟩
   rw [F_spec_shGood_L1, ← hnx13] at hF
   refine W.seq fun K16 hK16 => W.region (wl_lss rfl rfl rfl (WL.nil (fun a ha => hK16 _ _ (W.seq fun K17 hK17 => (W.cond rfl (fun h18 => ?_) (fun h18 => ?_))) a ha)))
   ·replace hF := ifP h18 hF
    refine W.skip fun a ha => hK17 _ _ (W.seq fun K19 hK19 => (W.block (W.seq fun K20 hK20 => (W.region ?_)))) a ha
    obtain ⟨u21, hu21, hF⟩ := bindE hF
    refine wl_index (e := ty_104) Tryz.underlying84 rfl rfl rfl h0_0 hu21 ?_
    rintro p22 _ rfl hp23
    refine wl_load_p (vs := [(.int .i64 u21.1), (.int .i64 u21.2.1), (.int .i64 u21.2.2)]) (v := (.agg #[(.int .i64 u21.1), (.int .i64 u21.2.1), (.int .i64 u21.2.2)])) tf_104 rfl rfl (hp23.ro hB10) rfl rfl (wl_alloc (cs := [(.int .i64 0), (.int .i64 0), (.int .i64 0)]) tf_104 rfl rfl hB10 hS11 ?_)
    intro b24 w25 hb26 hB27 hS28
    refine wl_store_blk (i := 0) (vs := [(.int .i64 u21.1), (.int .i64 u21.2.1), (.int .i64 u21.2.2)]) (cs' := [(.int .i64 u21.1), (.int .i64 u21.2.1), (.int .i64 u21.2.2)]) tf_104 rfl rfl rfl rfl hB27 hS28 rfl rfl ⟨rfl, rfl, rfl, trivial⟩ rfl ?_
    intro w29 hk32 hB30 hS31
    refine WL.nil fun a ha => hK20 _ _ (W.seq fun K33 hK33 => ?_) a ha
    obtain ⟨k38, hk38, hF⟩ := jE1 hF
    have hJ39 : ∀ (y37 : Bool) (w34 : World) (_ : k38 y37 = some r) (_ : Below w0.heap.size w0 w34) (_ : Sep w0.heap.size w34 [R.blk b2 86 [(.int .i64 x0.1), (.int .i64 x0.2.1.1), (.int .i64 x0.2.1.2), v0_0]]), ∀ a, St 37 [(1, (.pointer (some ⟨b2, 0, none⟩))), (6, v0_0), (7, (.int .i64 (List.length x0.2.2 : Int))), (8, (.int .i64 y12)), (21, (.bool y37))] a → K33 a w34 := by
     intro y37 w34 hF hB35 hS36
     subst hk38
     refine fun a ha => hK33 _ _ (W.cond rfl (fun h40 => ?_) (fun h40 => ?_)) a ha
     ·replace hF := ifP h40 hF
      refine W.seq fun K41 hK41 => W.region (wl_assign rfl rfl (WL.nil (fun a ha => hK41 _ _ (W.ret ?_) a ha)))
      have hr := Option.some.inj hF
      subst hr
      exact rets (vs := [(.bool false)]) hQ rfl ⟨rv_tmp rfl, trivial⟩ ⟨rfl, hB35⟩
     ·replace hF := ifN h40 hF
      refine W.skip fun a ha => hK19 _ _ (W.region (wl_add rfl rfl rfl (wl_move rfl rfl (WL.nil ?_)))) a ha
      rw [hnx13] at hF
      exact fun a ha => hKL14 a _ m15 (Nat.lt_succ_self m15) ⟨(w64 (y12 + 1)), ha.sub ⟨rfl, rfl, rfl, rfl, trivial⟩, hB35, (hS36.sel [0] rfl), hF⟩
    refine W.region (wl_field (o := 0) (off' := 0) ff_104_0 rfl rfl rfl (wl_load_blk (i := 0) (vs := [(.int .i64 u21.1)]) (v := (.int .i64 u21.1)) tf_3 rfl rfl hS31 rfl rfl rfl ?_))
    obtain ⟨u42, hu42, hF⟩ := bindE hF
    refine wl_call rfl Tryz.call57 (C_spec_l1In w29 u21.1 1 64 _ hu42) rfl ?_
    rintro _ w43 ⟨rfl, hb44⟩
    refine ⟨_, rfl, ?_⟩
    have hB45 := hB30.trans (hb44.mono hB30.size)
    have hS46 := hS31.below hb44
    refine wl_not rfl rfl (wl_move rfl rfl ?_)
    rcases bE (!u42) with h48 | h48
    ·replace hF := ifP h48 hF
     refine wl_off rfl rfl rfl h48 (wl_off rfl rfl rfl h48 (wl_off rfl rfl rfl h48 (wl_off rfl rfl rfl h48 (wl_pick_t rfl rfl h48 rfl (WL.nil ?_)))))
     exact fun a ha => hJ39 (true) _ hF hB45 (hS46.sel [1] rfl) a (ha.sub ⟨rfl, rfl, rfl, rfl, rfl, trivial⟩)
    ·replace hF := ifN h48 hF
     refine wl_on rfl rfl h48 (wl_field (o := 1) (off' := 1) ff_104_1 rfl rfl rfl (wl_on rfl rfl h48 (wl_load_blk (i := 0) (vs := [(.int .i64 u21.2.1), (.int .i64 u21.2.2)]) (v := (.agg #[(.int .i64 u21.2.1), (.int .i64 u21.2.2)])) tf_42 rfl rfl hS46 rfl rfl rfl (wl_on rfl rfl h48 ?_))))
     obtain ⟨u49, hu49, hF⟩ := bindE hF
     refine wl_call rfl Tryz.call104 (C_spec_stGood w43 u21.2 _ hu49) rfl ?_
     rintro _ w50 ⟨rfl, hb51⟩
     refine ⟨_, rfl, ?_⟩
     have hB52 := hB45.trans (hb51.mono hB45.size)
     have hS53 := hS46.below hb51
     refine wl_on rfl rfl h48 (wl_not rfl rfl (wl_pick_f rfl rfl h48 rfl (WL.nil ?_)))
     exact fun a ha => hJ39 ((!u49)) _ hF hB52 (hS53.sel [1] rfl) a (ha.sub ⟨rfl, rfl, rfl, rfl, rfl, trivial⟩)
   ·replace hF := ifN h18 hF
    refine W.exit fun a ha => hK7 _ _ (W.seq fun K55 hK55 => ?_) a ha
    obtain ⟨k60, hk60, hF⟩ := jE1 hF
    have hJ61 : ∀ (y59 : Bool) (w56 : World) (_ : k60 y59 = some r) (_ : Below w0.heap.size w0 w56) (_ : Sep w0.heap.size w56 []), ∀ a, St 37 [(2, (.bool y59))] a → K55 a w56 := by
     intro y59 w56 hF hB57 hS58
     subst hk60
     refine fun a ha => hK55 _ _ (W.ret ?_) a ha
     have hr := Option.some.inj hF
     subst hr
     exact rets (vs := [(.bool y59)]) hQ rfl ⟨rv_tmp rfl, trivial⟩ ⟨rfl, hB57⟩
    refine W.region (wl_field (o := 0) (off' := 0) ff_86_0 rfl rfl rfl (wl_load_blk (i := 0) (vs := [(.int .i64 x0.1)]) (v := (.int .i64 x0.1)) tf_3 rfl rfl hS11 rfl rfl rfl ?_))
    obtain ⟨u62, hu62, hF⟩ := bindE hF
    refine wl_call rfl Tryz.call57 (C_spec_l1In w9 x0.1 0 11 _ hu62) rfl ?_
    rintro _ w63 ⟨rfl, hb64⟩
    refine ⟨_, rfl, ?_⟩
    have hB65 := hB10.trans (hb64.mono hB10.size)
    have hS66 := hS11.below hb64
    refine wl_move rfl rfl ?_
    rcases bE u62 with h68 | h68
    ·replace hF := ifP h68 hF
     refine wl_on rfl rfl h68 (wl_field (o := 1) (off' := 1) ff_86_1 rfl rfl rfl (wl_on rfl rfl h68 (wl_load_blk (i := 0) (vs := [(.int .i64 x0.2.1.1), (.int .i64 x0.2.1.2)]) (v := (.agg #[(.int .i64 x0.2.1.1), (.int .i64 x0.2.1.2)])) tf_42 rfl rfl hS66 rfl rfl rfl (wl_on rfl rfl h68 ?_))))
     obtain ⟨u69, hu69, hF⟩ := bindE hF
     refine wl_call rfl Tryz.call104 (C_spec_stGood w63 x0.2.1 _ hu69) rfl ?_
     rintro _ w70 ⟨rfl, hb71⟩
     refine ⟨_, rfl, ?_⟩
     have hB72 := hB65.trans (hb71.mono hB65.size)
     have hS73 := hS66.below hb71
     refine wl_pick_t rfl rfl h68 rfl (wl_move rfl rfl ?_)
     rcases bE u69 with h75 | h75
     ·replace hF := ifP h75 hF
      refine wl_on rfl rfl h75 (wl_field (o := 3) (off' := 3) ff_86_2 rfl rfl rfl (wl_on rfl rfl h75 (wl_load_blk (i := 0) (vs := [v0_0]) (v := v0_0) tf_84 rfl rfl hS73 rfl rfl rfl (wl_on rfl rfl h75 (wl_lenr (e := ty_104) (l := x0.2.2) Tryz.underlying84 rfl rfl h0_0 (wl_on rfl rfl h75 (wl_leq rfl rfl rfl (wl_pick_t rfl rfl h75 rfl (wl_assign rfl rfl (WL.nil ?_))))))))))
      exact fun a ha => hJ61 ((decide ((List.length x0.2.2 : Int) ≤ 8))) _ hF hB72 (hS73.sel [] rfl) a (ha.sub ⟨rfl, trivial⟩)
     ·replace hF := ifN h75 hF
      refine wl_off rfl rfl rfl h75 (wl_off rfl rfl rfl h75 (wl_off rfl rfl rfl h75 (wl_off rfl rfl rfl h75 (wl_pick_f rfl rfl h75 rfl (wl_assign rfl rfl (WL.nil ?_))))))
      exact fun a ha => hJ61 (false) _ hF hB72 (hS73.sel [] rfl) a (ha.sub ⟨rfl, trivial⟩)
    ·replace hF := ifN h68 hF
     refine wl_off rfl rfl rfl h68 (wl_off rfl rfl rfl h68 (wl_off rfl rfl rfl h68 (wl_pick_f rfl rfl h68 rfl (wl_move rfl rfl (wl_off rfl rfl rfl rfl (wl_off rfl rfl rfl rfl (wl_off rfl rfl rfl rfl (wl_off rfl rfl rfl rfl (wl_pick_f rfl rfl rfl rfl (wl_assign rfl rfl (WL.nil ?_)))))))))))
     exact fun a ha => hJ61 (false) _ hF hB65 (hS66.sel [] rfl) a (ha.sub ⟨rfl, trivial⟩)
end Go.Proofs.YtmkignciedkidaaGreat
