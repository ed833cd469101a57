/-
  THE WALKS of functions of this seat, by program (gen.py).
-/
import Derived.Test.YtmbhdelegdhieaaH
import Derived.Test.YtmbhdelegdhieaaWFnExactShiftCues
set_option linter.unusedSimpArgs false
set_option linter.unusedVariables false
set_option maxRecDepth 100000
namespace Go.Proofs.Ytmbhdelegdhieaa
open Go Go.RowKit
theorem C_spec_AddCue (w0 : World) (x0 : (List (Int × Int))) (v0_0 : Value) (h0_0 : rdS ty_93 (· < w0.heap.size) w0 v0_0 x0) (x1 : (List (Int × (List UInt8)))) (v1_0 : Value) (h1_0 : rdS ty_56 (· < w0.heap.size) w0 v1_0 x1) (x2 : (Int × (List UInt8))) (r : ((List (Int × (List UInt8))) × Bool)) (hF : F_spec_AddCue x0 x1 x2 = some r) :
    Calls Try.prog 36 [v0_0, v1_0, (.agg #[(.int .i64 x2.1), (.string (mkS x2.2))])].toArray w0 fun e w' => ∃ (q0 : Value) (G0 : List Nat), e = .returned (.tuple #[q0, (.bool r.2)]) ∧ Below w0.heap.size w0 w' ∧ Sep w0.heap.size w' [R.own ty_56 G0 q0 r.1] := by
  refine calls_mk' Try.func36 rfl Try.ntmps36 rfl rfl fun Q hQ hP => ?_
  have hB : Below w0.heap.size w0 w0 := Below.refl _ _
  have hS : Sep w0.heap.size w0 [] := Sep.nil _ _
  unfold F_spec_AddCue at hF
  refine W.seq fun K1 hK1 => ?_
  refine W.region ?_
  refine wl_box (cs := [(.int .i64 x2.1), (.string (mkS x2.2))]) rfl rfl rfl hB hS ?_
  intro b2 w3 hb4 hB5 hS6
  refine wl_assign rfl rfl ?_
  refine wl_assign rfl rfl ?_
  refine WL.nil ?_
  refine fun a ha => hK1 _ _ ?_ a ha
  refine W.seq fun K7 hK7 => ?_
  refine W.seq fun K8 hK8 => ?_
  refine W.region ?_
  refine wl_move rfl rfl ?_
  refine wl_move rfl rfl ?_
  obtain ⟨u9, hu9, hF⟩ := bindE hF
  refine wl_call rfl Try.call71 (C_spec_tiGood w3 x0 v0_0 (h0_0.ro hB5) x1 v1_0 (h1_0.ro hB5) _ hu9) rfl ?_
  rintro _ w10 ⟨rfl, hb11⟩
  refine ⟨_, rfl, ?_⟩
  have hB12 := hB5.trans (hb11.mono hB5.size)
  have hS13 := hS6.below hb11
  refine wl_not rfl rfl ?_
  refine WL.nil ?_
  refine fun a ha => hK8 _ _ ?_ a ha
  refine W.cond rfl (fun h15 => ?_) (fun h15 => ?_)
  · replace hF := ifP h15 hF
    refine W.seq fun K16 hK16 => ?_
    refine W.region ?_
    refine wl_assign rfl rfl ?_
    refine wl_assign rfl rfl ?_
    refine WL.nil ?_
    refine fun a ha => hK16 _ _ ?_ a ha
    refine W.ret ?_
    have hS17 := hS13.push0 (r := R.own ty_56 [] (.slice none 0 0) []) rfl fun _ => .inl ⟨rfl, rfl, rfl⟩
    have hr := Option.some.inj hF
    subst hr
    exact rets (vs := [(.slice none 0 0), (.bool false)]) hQ rfl ⟨rv_tmp rfl, rv_tmp rfl, trivial⟩ ⟨(.slice none 0 0), [], rfl, hB12, hS17.sel [0] rfl⟩
  · replace hF := ifN h15 hF
    refine W.skip ?_
    refine fun a ha => hK7 _ _ ?_ a ha
    refine W.seq fun K18 hK18 => ?_
    refine W.region ?_
    refine wl_assign rfl rfl ?_
    refine WL.nil ?_
    refine fun a ha => hK18 _ _ ?_ a ha
    refine W.seq fun K19 hK19 => ?_
    refine W.block ?_
    refine W.loopk (fun m a w20 => ∃ (y23 : Int), St 45 [(0, v0_0), (1, v1_0), (5, (.pointer (some ⟨b2, 0, none⟩))), (8, (.int .i64 y23))] a ∧ Below w0.heap.size w0 w20 ∧ Sep w0.heap.size w20 [R.blk b2 56 [(.int .i64 x2.1), (.string (mkS x2.2))]] ∧ F_spec_AddCue_L1 x1 x2 x0 m y23 = some r) FU ?_ ?_
    ·
      exact fun a ha => ⟨0, ha.sub ⟨rfl, rfl, rfl, rfl, trivial⟩, hB12, (hS13.sel [0] rfl), hF⟩
    ·
      rintro m26 a w20 ⟨y23, ha, hB21, hS22, hF⟩ KL25 hKL25
      refine W.at ?_ ha
      cases m26 with
      | zero => exact noneE hF
      | succ m26 =>
        obtain ⟨nx24, hnx24⟩ : ∃ k, k = F_spec_AddCue_L1 x1 x2 x0 m26 := ⟨_, rfl⟩
        rw [F_spec_AddCue_L1, ← hnx24] at hF
        refine W.seq fun K27 hK27 => ?_
        refine W.seq fun K28 hK28 => ?_
        obtain ⟨k33, hk33, hF⟩ := jE1 hF
        have hJ34 : ∀ (y32 : Bool) (w29 : World) (_ : k33 y32 = some r) (_ : Below w0.heap.size w0 w29) (_ : Sep w0.heap.size w29 [R.blk b2 56 [(.int .i64 x2.1), (.string (mkS x2.2))]]), ∀ a, St 45 [(0, v0_0), (1, v1_0), (5, (.pointer (some ⟨b2, 0, none⟩))), (8, (.int .i64 y23)), (26, (.bool y32))] a → K28 a w29 := by
          intro y32 w29 hF hB30 hS31
          subst hk33
          refine fun a ha => hK28 _ _ ?_ a ha
          refine W.cond rfl (fun h35 => ?_) (fun h35 => ?_)
          · replace hF := ifP h35 hF
            refine W.skip ?_
            refine fun a ha => hK27 _ _ ?_ a ha
            refine W.block ?_
            refine W.region ?_
            refine wl_move rfl rfl ?_
            refine wl_add rfl rfl rfl ?_
            refine wl_assign rfl rfl ?_
            refine WL.nil ?_
            rw [hnx24] at hF
            exact fun a ha => hKL25 a _ m26 (Nat.lt_succ_self m26) ⟨(w64 (y23 + 1)), ha.sub ⟨rfl, rfl, rfl, rfl, trivial⟩, hB30, (hS31.sel [0] rfl), hF⟩
          · replace hF := ifN h35 hF
            refine W.exit ?_
            refine fun a ha => hK19 _ _ ?_ a ha
            refine W.seq fun K36 hK36 => ?_
            obtain ⟨k44, hk44, hF⟩ := jE2 hF
            have hJ45 : ∀ (l40 : (List (Int × (List UInt8)))) (y43 : Bool) (v41 : Value) (F42 : List Nat) (w37 : World) (_ : k44 l40 y43 = some r) (_ : Below w0.heap.size w0 w37) (_ : Sep w0.heap.size w37 [R.own ty_56 F42 v41 l40]), ∀ a, St 45 [(6, v41), (7, (.bool y43))] a → K36 a w37 := by
              intro l40 y43 v41 F42 w37 hF hB38 hS39
              subst hk44
              refine fun a ha => hK36 _ _ ?_ a ha
              refine W.ret ?_
              have hr := Option.some.inj hF
              subst hr
              exact rets (vs := [v41, (.bool y43)]) hQ rfl ⟨rv_tmp rfl, rv_tmp rfl, trivial⟩ ⟨v41, F42, rfl, hB38, hS39.sel [0] rfl⟩
            refine W.regionH mixed_ [] hB30 hS31 ?_
            intro w46 hb47 hB48 hS49
            have hSW50 := KeepX.refl w46 []
            refine WH.takex (i := 0) rfl (by kernel_rfl) (by kernel_rfl) (by kernel_rfl) hP hSW50 ?_
            refine pr_move rfl rfl ?_
            refine WH.takex (i := 2) rfl (by kernel_rfl) (by kernel_rfl) (by kernel_rfl) hP hSW50 ?_
            refine pr_move rfl rfl ?_
            refine WH.takex (i := 3) rfl (by kernel_rfl) (by kernel_rfl) (by kernel_rfl) hP hSW50 ?_
            refine pr_move rfl rfl ?_
            obtain ⟨u51, hu51, hF⟩ := bindE hF
            refine WH.takex (i := 4) rfl (by kernel_rfl) (by kernel_rfl) (by kernel_rfl) hP hSW50 ?_
            refine pr_slice (e := ty_56) Try.underlying43 rfl rfl h1_0 hu51 (.inl ⟨rfl, rfl⟩) (.inr ⟨_, _, rfl, rfl⟩) ?_
            intro v52 hv53
            refine WH.takex (i := 6) rfl (by kernel_rfl) (by kernel_rfl) (by kernel_rfl) hP hSW50 ?_
            refine pr_load_blk (i := 0) (vs := [(.int .i64 x2.1), (.string (mkS x2.2))]) (v := (.agg #[(.int .i64 x2.1), (.string (mkS x2.2))])) tf_56 rfl rfl hS49 rfl rfl rfl (by simp) ?_
            refine WH.takex (i := 9) rfl (by kernel_rfl) (by kernel_rfl) (by kernel_rfl) hP hSW50 ?_
            refine pr_move rfl rfl ?_
            refine WH.takex (i := 10) rfl (by kernel_rfl) (by kernel_rfl) (by kernel_rfl) hP hSW50 ?_
            refine pr_move rfl rfl ?_
            obtain ⟨u54, hu54, hF⟩ := bindE hF
            refine WH.takex (i := 11) rfl (by kernel_rfl) (by kernel_rfl) (by kernel_rfl) hP hSW50 ?_
            refine pr_slice (e := ty_56) Try.underlying43 rfl rfl h1_0 hu54 (.inr ⟨_, _, rfl, rfl⟩) (.inl ⟨rfl, rfl⟩) ?_
            intro v55 hv56
            refine WH.many (is := [1, 7]) (by kernel_rfl) rfl ?_
            refine List.forall_mem_cons.2 ⟨⟨_, rfl, ?_⟩, List.forall_mem_cons.2 ⟨⟨_, rfl, ?_⟩, fun _ h => by cases h⟩⟩
            ·
              refine wl_lit (vs := []) (l := []) fl_56 Try.underlying43 rfl rfl rfl rfl rfl rfl (Below.self w46) (Sep.nil _ _) ?_
              intro v57 F58 w59 hb60 hB63 hM64
              have hB61 := hB48.trans (hb60.mono hB48.size)
              have hS62 := hS49.join hb60 hM64 hB48.size
              have hn65 : ∀ b ∈ F58, w46.heap.size ≤ b := fun b hb => Nat.le_trans hSW50.size ((hM64.1 _ (List.mem_cons_self ..)).2.1 b hb).1
              have hSW66 := hSW50.ext hb60
              refine WL.nil (WH.ret hSW66 ?_)
              refine WH.many (is := [5, 7]) (by kernel_rfl) rfl ?_
              refine List.forall_mem_cons.2 ⟨⟨_, rfl, ?_⟩, List.forall_mem_cons.2 ⟨⟨_, rfl, ?_⟩, fun _ h => by cases h⟩⟩
              ·
                obtain ⟨u67, hu67, hF⟩ := bindE hF
                refine wl_append (i := 0) (S := (· < w59.heap.size)) fl_56 Try.underlying43 rfl rfl rfl hB61 hS62 rfl (hv53.ro hB61) hu67 ?_
                intro v68 F69 w70 hk71 hB72 hS73
                have hSW74 := hSW66.wr' hk71.1 hk71.2.1 (fun b hlt hb => absurd hlt (Nat.not_lt.2 (hn65 b hb)))
                have hn75 : ∀ b ∈ F69, w46.heap.size ≤ b := fun b hb => (hk71.2.2 b hb).elim (hn65 b) fun h => Nat.le_trans hSW66.size h
                refine WL.nil (WH.ret hSW74 ?_)
                refine WH.one (i := 7) (by kernel_rfl) rfl ?_
                refine wl_lit (vs := [(.agg #[(.int .i64 x2.1), (.string (mkS x2.2))])]) (l := [x2]) fl_56 Try.underlying43 rfl rfl rfl rfl rfl rfl (Below.self w70) (Sep.nil _ _) ?_
                intro v76 F77 w78 hb79 hB82 hM83
                have hB80 := hB72.trans (hb79.mono hB72.size)
                have hS81 := hS73.join hb79 hM83 hB72.size
                have hn84 : ∀ b ∈ F77, w46.heap.size ≤ b := fun b hb => Nat.le_trans hSW74.size ((hM83.1 _ (List.mem_cons_self ..)).2.1 b hb).1
                have hSW85 := hSW74.ext hb79
                refine WL.nil (WH.ret hSW85 ?_)
                refine WH.one (i := 8) (by kernel_rfl) rfl ?_
                obtain ⟨u86, hu86, hF⟩ := bindE hF
                refine wl_append (i := 1) (S := (· < w78.heap.size)) fl_56 Try.underlying43 rfl rfl rfl hB80 hS81 rfl (hS81.own_ro (i := 0) rfl) hu86 ?_
                intro v87 F88 w89 hk90 hB91 hS92
                have hSW93 := hSW85.wr' hk90.1 hk90.2.1 (fun b hlt hb => absurd hlt (Nat.not_lt.2 (hn75 b hb)))
                have hn94 : ∀ b ∈ F88, w46.heap.size ≤ b := fun b hb => (hk90.2.2 b hb).elim (hn75 b) fun h => Nat.le_trans hSW85.size h
                refine WL.nil (WH.ret hSW93 ?_)
                refine WH.one (i := 12) (by kernel_rfl) rfl ?_
                obtain ⟨u95, hu95, hF⟩ := bindE hF
                refine wl_append (i := 1) (S := (· < w89.heap.size)) fl_56 Try.underlying43 rfl rfl rfl hB91 hS92 rfl (hv56.ro hB91) hu95 ?_
                intro v96 F97 w98 hk99 hB100 hS101
                have hSW102 := hSW93.wr' hk99.1 hk99.2.1 (fun b hlt hb => absurd hlt (Nat.not_lt.2 (hn94 b hb)))
                have hn103 : ∀ b ∈ F97, w46.heap.size ≤ b := fun b hb => (hk99.2.2 b hb).elim (hn94 b) fun h => Nat.le_trans hSW93.size h
                refine WL.nil (WH.ret hSW102 ?_)
                refine WH.one (i := 13) (by kernel_rfl) rfl ?_
                obtain ⟨u104, hu104, hF⟩ := bindE hF
                refine wl_call rfl Try.call81 (C_spec_tiIf w98 x0 v0_0 (h0_0.ro hB100) u95 v96 (hS101.own_ro (i := 1) rfl) _ hu104) rfl ?_
                rintro _ w107 ⟨v105, F106, rfl, hb108, hM111⟩
                refine ⟨_, rfl, ?_⟩
                have hB109 := hB100.trans (hb108.mono hB100.size)
                have hS110 := hS101.join hb108 hM111 hB100.size
                have hSW112 := hSW102.ext hb108
                refine WL.nil (WH.ret hSW112 ?_)
                refine WH.takex (i := 14) rfl (by kernel_rfl) (by kernel_rfl) (by kernel_rfl) hP hSW112 ?_
                refine pr_extract rfl rfl rfl ?_
                refine WH.takex (i := 15) rfl (by kernel_rfl) (by kernel_rfl) (by kernel_rfl) hP hSW112 ?_
                refine pr_extract rfl rfl rfl ?_
                refine WH.takex (i := 16) rfl (by kernel_rfl) (by kernel_rfl) (by kernel_rfl) hP hSW112 ?_
                refine pr_assign rfl rfl ?_
                refine WH.takex (i := 17) rfl (by kernel_rfl) (by kernel_rfl) (by kernel_rfl) hP hSW112 ?_
                refine pr_assign rfl rfl ?_
                refine WH.done (by kernel_rfl) ?_
                exact fun a ha => hJ45 (u104.1) (u104.2) (v105) (F106) _ hF hB109 (hS110.sel [0] rfl) a (ha.sub ⟨rfl, rfl, trivial⟩)
              ·
                refine wl_lit (vs := [(.agg #[(.int .i64 x2.1), (.string (mkS x2.2))])]) (l := [x2]) fl_56 Try.underlying43 rfl rfl rfl rfl rfl rfl (Below.self w59) (Sep.nil _ _) ?_
                intro v113 F114 w115 hb116 hB119 hM120
                have hB117 := hB61.trans (hb116.mono hB61.size)
                have hS118 := hS62.join hb116 hM120 hB61.size
                have hn121 : ∀ b ∈ F114, w46.heap.size ≤ b := fun b hb => Nat.le_trans hSW66.size ((hM120.1 _ (List.mem_cons_self ..)).2.1 b hb).1
                have hSW122 := hSW66.ext hb116
                refine WL.nil (WH.ret hSW122 ?_)
                refine WH.one (i := 5) (by kernel_rfl) rfl ?_
                obtain ⟨u123, hu123, hF⟩ := bindE hF
                refine wl_append (i := 1) (S := (· < w115.heap.size)) fl_56 Try.underlying43 rfl rfl rfl hB117 hS118 rfl (hv53.ro hB117) hu123 ?_
                intro v124 F125 w126 hk127 hB128 hS129
                have hSW130 := hSW122.wr' hk127.1 hk127.2.1 (fun b hlt hb => absurd hlt (Nat.not_lt.2 (hn65 b hb)))
                have hn131 : ∀ b ∈ F125, w46.heap.size ≤ b := fun b hb => (hk127.2.2 b hb).elim (hn65 b) fun h => Nat.le_trans hSW122.size h
                refine WL.nil (WH.ret hSW130 ?_)
                refine WH.one (i := 8) (by kernel_rfl) rfl ?_
                obtain ⟨u132, hu132, hF⟩ := bindE hF
                refine wl_append (i := 1) (S := (· < w126.heap.size)) fl_56 Try.underlying43 rfl rfl rfl hB128 hS129 rfl (hS129.own_ro (i := 0) rfl) hu132 ?_
                intro v133 F134 w135 hk136 hB137 hS138
                have hSW139 := hSW130.wr' hk136.1 hk136.2.1 (fun b hlt hb => absurd hlt (Nat.not_lt.2 (hn131 b hb)))
                have hn140 : ∀ b ∈ F134, w46.heap.size ≤ b := fun b hb => (hk136.2.2 b hb).elim (hn131 b) fun h => Nat.le_trans hSW130.size h
                refine WL.nil (WH.ret hSW139 ?_)
                refine WH.one (i := 12) (by kernel_rfl) rfl ?_
                obtain ⟨u141, hu141, hF⟩ := bindE hF
                refine wl_append (i := 1) (S := (· < w135.heap.size)) fl_56 Try.underlying43 rfl rfl rfl hB137 hS138 rfl (hv56.ro hB137) hu141 ?_
                intro v142 F143 w144 hk145 hB146 hS147
                have hSW148 := hSW139.wr' hk145.1 hk145.2.1 (fun b hlt hb => absurd hlt (Nat.not_lt.2 (hn140 b hb)))
                have hn149 : ∀ b ∈ F143, w46.heap.size ≤ b := fun b hb => (hk145.2.2 b hb).elim (hn140 b) fun h => Nat.le_trans hSW139.size h
                refine WL.nil (WH.ret hSW148 ?_)
                refine WH.one (i := 13) (by kernel_rfl) rfl ?_
                obtain ⟨u150, hu150, hF⟩ := bindE hF
                refine wl_call rfl Try.call81 (C_spec_tiIf w144 x0 v0_0 (h0_0.ro hB146) u141 v142 (hS147.own_ro (i := 1) rfl) _ hu150) rfl ?_
                rintro _ w153 ⟨v151, F152, rfl, hb154, hM157⟩
                refine ⟨_, rfl, ?_⟩
                have hB155 := hB146.trans (hb154.mono hB146.size)
                have hS156 := hS147.join hb154 hM157 hB146.size
                have hSW158 := hSW148.ext hb154
                refine WL.nil (WH.ret hSW158 ?_)
                refine WH.takex (i := 14) rfl (by kernel_rfl) (by kernel_rfl) (by kernel_rfl) hP hSW158 ?_
                refine pr_extract rfl rfl rfl ?_
                refine WH.takex (i := 15) rfl (by kernel_rfl) (by kernel_rfl) (by kernel_rfl) hP hSW158 ?_
                refine pr_extract rfl rfl rfl ?_
                refine WH.takex (i := 16) rfl (by kernel_rfl) (by kernel_rfl) (by kernel_rfl) hP hSW158 ?_
                refine pr_assign rfl rfl ?_
                refine WH.takex (i := 17) rfl (by kernel_rfl) (by kernel_rfl) (by kernel_rfl) hP hSW158 ?_
                refine pr_assign rfl rfl ?_
                refine WH.done (by kernel_rfl) ?_
                exact fun a ha => hJ45 (u150.1) (u150.2) (v151) (F152) _ hF hB155 (hS156.sel [0] rfl) a (ha.sub ⟨rfl, rfl, trivial⟩)
            ·
              refine wl_lit (vs := [(.agg #[(.int .i64 x2.1), (.string (mkS x2.2))])]) (l := [x2]) fl_56 Try.underlying43 rfl rfl rfl rfl rfl rfl (Below.self w46) (Sep.nil _ _) ?_
              intro v159 F160 w161 hb162 hB165 hM166
              have hB163 := hB48.trans (hb162.mono hB48.size)
              have hS164 := hS49.join hb162 hM166 hB48.size
              have hn167 : ∀ b ∈ F160, w46.heap.size ≤ b := fun b hb => Nat.le_trans hSW50.size ((hM166.1 _ (List.mem_cons_self ..)).2.1 b hb).1
              have hSW168 := hSW50.ext hb162
              refine WL.nil (WH.ret hSW168 ?_)
              refine WH.one (i := 1) (by kernel_rfl) rfl ?_
              refine wl_lit (vs := []) (l := []) fl_56 Try.underlying43 rfl rfl rfl rfl rfl rfl (Below.self w161) (Sep.nil _ _) ?_
              intro v169 F170 w171 hb172 hB175 hM176
              have hB173 := hB163.trans (hb172.mono hB163.size)
              have hS174 := hS164.join hb172 hM176 hB163.size
              have hn177 : ∀ b ∈ F170, w46.heap.size ≤ b := fun b hb => Nat.le_trans hSW168.size ((hM176.1 _ (List.mem_cons_self ..)).2.1 b hb).1
              have hSW178 := hSW168.ext hb172
              refine WL.nil (WH.ret hSW178 ?_)
              refine WH.one (i := 5) (by kernel_rfl) rfl ?_
              obtain ⟨u179, hu179, hF⟩ := bindE hF
              refine wl_append (i := 0) (S := (· < w171.heap.size)) fl_56 Try.underlying43 rfl rfl rfl hB173 hS174 rfl (hv53.ro hB173) hu179 ?_
              intro v180 F181 w182 hk183 hB184 hS185
              have hSW186 := hSW178.wr' hk183.1 hk183.2.1 (fun b hlt hb => absurd hlt (Nat.not_lt.2 (hn177 b hb)))
              have hn187 : ∀ b ∈ F181, w46.heap.size ≤ b := fun b hb => (hk183.2.2 b hb).elim (hn177 b) fun h => Nat.le_trans hSW178.size h
              refine WL.nil (WH.ret hSW186 ?_)
              refine WH.one (i := 8) (by kernel_rfl) rfl ?_
              obtain ⟨u188, hu188, hF⟩ := bindE hF
              refine wl_append (i := 0) (S := (· < w182.heap.size)) fl_56 Try.underlying43 rfl rfl rfl hB184 hS185 rfl (hS185.own_ro (i := 1) rfl) hu188 ?_
              intro v189 F190 w191 hk192 hB193 hS194
              have hSW195 := hSW186.wr' hk192.1 hk192.2.1 (fun b hlt hb => absurd hlt (Nat.not_lt.2 (hn187 b hb)))
              have hn196 : ∀ b ∈ F190, w46.heap.size ≤ b := fun b hb => (hk192.2.2 b hb).elim (hn187 b) fun h => Nat.le_trans hSW186.size h
              refine WL.nil (WH.ret hSW195 ?_)
              refine WH.one (i := 12) (by kernel_rfl) rfl ?_
              obtain ⟨u197, hu197, hF⟩ := bindE hF
              refine wl_append (i := 0) (S := (· < w191.heap.size)) fl_56 Try.underlying43 rfl rfl rfl hB193 hS194 rfl (hv56.ro hB193) hu197 ?_
              intro v198 F199 w200 hk201 hB202 hS203
              have hSW204 := hSW195.wr' hk201.1 hk201.2.1 (fun b hlt hb => absurd hlt (Nat.not_lt.2 (hn196 b hb)))
              have hn205 : ∀ b ∈ F199, w46.heap.size ≤ b := fun b hb => (hk201.2.2 b hb).elim (hn196 b) fun h => Nat.le_trans hSW195.size h
              refine WL.nil (WH.ret hSW204 ?_)
              refine WH.one (i := 13) (by kernel_rfl) rfl ?_
              obtain ⟨u206, hu206, hF⟩ := bindE hF
              refine wl_call rfl Try.call81 (C_spec_tiIf w200 x0 v0_0 (h0_0.ro hB202) u197 v198 (hS203.own_ro (i := 0) rfl) _ hu206) rfl ?_
              rintro _ w209 ⟨v207, F208, rfl, hb210, hM213⟩
              refine ⟨_, rfl, ?_⟩
              have hB211 := hB202.trans (hb210.mono hB202.size)
              have hS212 := hS203.join hb210 hM213 hB202.size
              have hSW214 := hSW204.ext hb210
              refine WL.nil (WH.ret hSW214 ?_)
              refine WH.takex (i := 14) rfl (by kernel_rfl) (by kernel_rfl) (by kernel_rfl) hP hSW214 ?_
              refine pr_extract rfl rfl rfl ?_
              refine WH.takex (i := 15) rfl (by kernel_rfl) (by kernel_rfl) (by kernel_rfl) hP hSW214 ?_
              refine pr_extract rfl rfl rfl ?_
              refine WH.takex (i := 16) rfl (by kernel_rfl) (by kernel_rfl) (by kernel_rfl) hP hSW214 ?_
              refine pr_assign rfl rfl ?_
              refine WH.takex (i := 17) rfl (by kernel_rfl) (by kernel_rfl) (by kernel_rfl) hP hSW214 ?_
              refine pr_assign rfl rfl ?_
              refine WH.done (by kernel_rfl) ?_
              exact fun a ha => hJ45 (u206.1) (u206.2) (v207) (F208) _ hF hB211 (hS212.sel [0] rfl) a (ha.sub ⟨rfl, rfl, trivial⟩)
        refine W.regionH mixed_ [] hB21 hS22 ?_
        intro w215 hb216 hB217 hS218
        have hSW219 := KeepX.refl w215 []
        refine WH.takex (i := 0) rfl (by kernel_rfl) (by kernel_rfl) (by kernel_rfl) hP hSW219 ?_
        refine pr_move rfl rfl ?_
        refine WH.takex (i := 1) rfl (by kernel_rfl) (by kernel_rfl) (by kernel_rfl) hP hSW219 ?_
        refine pr_move rfl rfl ?_
        refine WH.takex (i := 2) rfl (by kernel_rfl) (by kernel_rfl) (by kernel_rfl) hP hSW219 ?_
        refine pr_lenr (e := ty_56) (l := x1) Try.underlying43 rfl rfl h1_0 ?_
        refine WH.takex (i := 3) rfl (by kernel_rfl) (by kernel_rfl) (by kernel_rfl) hP hSW219 ?_
        refine pr_lss rfl rfl rfl ?_
        refine WH.takex (i := 4) rfl (by kernel_rfl) (by kernel_rfl) (by kernel_rfl) hP hSW219 ?_
        refine pr_move rfl rfl ?_
        rcases bE (decide (y23 < (List.length x1 : Int))) with h220 | h220
        · replace hF := ifP h220 hF
          refine WH.takexg (i := 5) rfl (by kernel_rfl) (by kernel_rfl) (by kernel_rfl) hP rfl rfl h220 hSW219 ?_
          refine pr_move rfl rfl ?_
          refine WH.takexg (i := 6) rfl (by kernel_rfl) (by kernel_rfl) (by kernel_rfl) hP rfl rfl h220 hSW219 ?_
          refine pr_move rfl rfl ?_
          obtain ⟨u221, hu221, hF⟩ := bindE hF
          refine WH.takexg (i := 7) rfl (by kernel_rfl) (by kernel_rfl) (by kernel_rfl) hP rfl rfl h220 hSW219 ?_
          refine pr_index (e := ty_56) Try.underlying43 rfl rfl rfl h1_0 hu221 ?_
          rintro p222 _ rfl hp223
          refine WH.takexg (i := 8) rfl (by kernel_rfl) (by kernel_rfl) (by kernel_rfl) hP rfl rfl h220 hSW219 ?_
          refine pr_fieldp (o := 0) ff_56_0 rfl rfl ?_
          refine WH.takexg (i := 9) rfl (by kernel_rfl) (by kernel_rfl) (by kernel_rfl) hP rfl rfl h220 hSW219 ?_
          refine pr_load_p (vs := [(.int .i64 u221.1)]) (v := (.int .i64 u221.1)) tf_3 rfl rfl (EAt.addk (hp223.kx hB217 (by simp)) 0) rfl rfl ?_
          refine WH.takexg (i := 10) rfl (by kernel_rfl) (by kernel_rfl) (by kernel_rfl) hP rfl rfl h220 hSW219 ?_
          refine pr_field (o := 0) (off' := 0) ff_56_0 rfl rfl rfl ?_
          refine WH.takexg (i := 11) rfl (by kernel_rfl) (by kernel_rfl) (by kernel_rfl) hP rfl rfl h220 hSW219 ?_
          refine pr_load_blk (i := 0) (vs := [(.int .i64 x2.1)]) (v := (.int .i64 x2.1)) tf_3 rfl rfl hS218 rfl rfl rfl (by simp) ?_
          refine WH.takexg (i := 12) rfl (by kernel_rfl) (by kernel_rfl) (by kernel_rfl) hP rfl rfl h220 hSW219 ?_
          refine pr_lss rfl rfl rfl ?_
          refine WH.takex (i := 13) rfl (by kernel_rfl) (by kernel_rfl) (by kernel_rfl) hP hSW219 ?_
          refine pr_pick_t rfl rfl h220 rfl ?_
          refine WH.done (by kernel_rfl) ?_
          exact fun a ha => hJ34 ((decide (u221.1 < x2.1))) _ hF hB217 (hS218.sel [0] rfl) a (ha.sub ⟨rfl, rfl, rfl, rfl, rfl, trivial⟩)
        · replace hF := ifN h220 hF
          refine WH.off (i := 5) rfl (by kernel_rfl) (by kernel_rfl) (by kernel_rfl) hP rfl rfl h220 rfl hSW219 ?_
          refine WH.off (i := 6) rfl (by kernel_rfl) (by kernel_rfl) (by kernel_rfl) hP rfl rfl h220 rfl hSW219 ?_
          refine WH.off (i := 7) rfl (by kernel_rfl) (by kernel_rfl) (by kernel_rfl) hP rfl rfl h220 rfl hSW219 ?_
          refine WH.off (i := 8) rfl (by kernel_rfl) (by kernel_rfl) (by kernel_rfl) hP rfl rfl h220 rfl hSW219 ?_
          refine WH.off (i := 9) rfl (by kernel_rfl) (by kernel_rfl) (by kernel_rfl) hP rfl rfl h220 rfl hSW219 ?_
          refine WH.off (i := 10) rfl (by kernel_rfl) (by kernel_rfl) (by kernel_rfl) hP rfl rfl h220 rfl hSW219 ?_
          refine WH.off (i := 11) rfl (by kernel_rfl) (by kernel_rfl) (by kernel_rfl) hP rfl rfl h220 rfl hSW219 ?_
          refine WH.off (i := 12) rfl (by kernel_rfl) (by kernel_rfl) (by kernel_rfl) hP rfl rfl h220 rfl hSW219 ?_
          refine WH.takex (i := 13) rfl (by kernel_rfl) (by kernel_rfl) (by kernel_rfl) hP hSW219 ?_
          refine pr_pick_f rfl rfl h220 rfl ?_
          refine WH.done (by kernel_rfl) ?_
          exact fun a ha => hJ34 (false) _ hF hB217 (hS218.sel [0] rfl) a (ha.sub ⟨rfl, rfl, rfl, rfl, rfl, trivial⟩)
theorem C_impl_AddCue (w0 : World) (x0 : (List (Int × Int))) (v0_0 : Value) (h0_0 : rdS ty_93 (· < w0.heap.size) w0 v0_0 x0) (x1 : (List (Int × (List UInt8)))) (v1_0 : Value) (h1_0 : rdS ty_56 (· < w0.heap.size) w0 v1_0 x1) (x2 : (Int × (List UInt8))) (r : ((List (Int × (List UInt8))) × Bool)) (hF : F_impl_AddCue x0 x1 x2 = some r) :
    Calls Try.prog 38 [v0_0, v1_0, (.agg #[(.int .i64 x2.1), (.string (mkS x2.2))])].toArray w0 fun e w' => ∃ (q0 : Value) (G0 : List Nat), e = .returned (.tuple #[q0, (.bool r.2)]) ∧ Below w0.heap.size w0 w' ∧ Sep w0.heap.size w' [R.own ty_56 G0 q0 r.1] := by
  refine calls_mk' Try.func38 rfl Try.ntmps38 rfl rfl fun Q hQ hP => ?_
  have hB : Below w0.heap.size w0 w0 := Below.refl _ _
  have hS : Sep w0.heap.size w0 [] := Sep.nil _ _
  unfold F_impl_AddCue at hF
  refine W.seq fun K1 hK1 => ?_
  refine W.region ?_
  refine wl_box (cs := [(.int .i64 x2.1), (.string (mkS x2.2))]) rfl rfl rfl hB hS ?_
  intro b2 w3 hb4 hB5 hS6
  refine wl_assign rfl rfl ?_
  refine wl_assign rfl rfl ?_
  refine WL.nil ?_
  refine fun a ha => hK1 _ _ ?_ a ha
  refine W.seq fun K7 hK7 => ?_
  refine W.seq fun K8 hK8 => ?_
  refine W.region ?_
  refine wl_move rfl rfl ?_
  refine wl_move rfl rfl ?_
  obtain ⟨u9, hu9, hF⟩ := bindE hF
  refine wl_call rfl Try.call75 (C_impl_haveCues w3 x0 v0_0 (h0_0.ro hB5) x1 v1_0 (h1_0.ro hB5) _ hu9) rfl ?_
  rintro _ w10 ⟨rfl, hb11⟩
  refine ⟨_, rfl, ?_⟩
  have hB12 := hB5.trans (hb11.mono hB5.size)
  have hS13 := hS6.below hb11
  refine wl_not rfl rfl ?_
  refine WL.nil ?_
  refine fun a ha => hK8 _ _ ?_ a ha
  refine W.cond rfl (fun h15 => ?_) (fun h15 => ?_)
  · replace hF := ifP h15 hF
    refine W.seq fun K16 hK16 => ?_
    refine W.region ?_
    refine wl_assign rfl rfl ?_
    refine wl_assign rfl rfl ?_
    refine WL.nil ?_
    refine fun a ha => hK16 _ _ ?_ a ha
    refine W.ret ?_
    have hS17 := hS13.push0 (r := R.own ty_56 [] (.slice none 0 0) []) rfl fun _ => .inl ⟨rfl, rfl, rfl⟩
    have hr := Option.some.inj hF
    subst hr
    exact rets (vs := [(.slice none 0 0), (.bool false)]) hQ rfl ⟨rv_tmp rfl, rv_tmp rfl, trivial⟩ ⟨(.slice none 0 0), [], rfl, hB12, hS17.sel [0] rfl⟩
  · replace hF := ifN h15 hF
    refine W.skip ?_
    refine fun a ha => hK7 _ _ ?_ a ha
    refine W.seq fun K18 hK18 => ?_
    refine W.region ?_
    refine wl_assign rfl rfl ?_
    refine WL.nil ?_
    refine fun a ha => hK18 _ _ ?_ a ha
    refine W.seq fun K19 hK19 => ?_
    refine W.block ?_
    refine W.loopk (fun m a w20 => ∃ (y23 : Int), St 48 [(0, v0_0), (1, v1_0), (5, (.pointer (some ⟨b2, 0, none⟩))), (8, (.int .i64 y23))] a ∧ Below w0.heap.size w0 w20 ∧ Sep w0.heap.size w20 [R.blk b2 56 [(.int .i64 x2.1), (.string (mkS x2.2))]] ∧ F_impl_AddCue_L1 x1 x2 x0 m y23 = some r) FU ?_ ?_
    ·
      exact fun a ha => ⟨0, ha.sub ⟨rfl, rfl, rfl, rfl, trivial⟩, hB12, (hS13.sel [0] rfl), hF⟩
    ·
      rintro m26 a w20 ⟨y23, ha, hB21, hS22, hF⟩ KL25 hKL25
      refine W.at ?_ ha
      cases m26 with
      | zero => exact noneE hF
      | succ m26 =>
        obtain ⟨nx24, hnx24⟩ : ∃ k, k = F_impl_AddCue_L1 x1 x2 x0 m26 := ⟨_, rfl⟩
        rw [F_impl_AddCue_L1, ← hnx24] at hF
        refine W.seq fun K27 hK27 => ?_
        refine W.seq fun K28 hK28 => ?_
        obtain ⟨k33, hk33, hF⟩ := jE1 hF
        have hJ34 : ∀ (y32 : Bool) (w29 : World) (_ : k33 y32 = some r) (_ : Below w0.heap.size w0 w29) (_ : Sep w0.heap.size w29 [R.blk b2 56 [(.int .i64 x2.1), (.string (mkS x2.2))]]), ∀ a, St 48 [(0, v0_0), (1, v1_0), (5, (.pointer (some ⟨b2, 0, none⟩))), (8, (.int .i64 y23)), (27, (.bool y32))] a → K28 a w29 := by
          intro y32 w29 hF hB30 hS31
          subst hk33
          refine fun a ha => hK28 _ _ ?_ a ha
          refine W.cond rfl (fun h35 => ?_) (fun h35 => ?_)
          · replace hF := ifP h35 hF
            refine W.skip ?_
            refine fun a ha => hK27 _ _ ?_ a ha
            refine W.block ?_
            refine W.region ?_
            refine wl_move rfl rfl ?_
            refine wl_add rfl rfl rfl ?_
            refine wl_assign rfl rfl ?_
            refine WL.nil ?_
            rw [hnx24] at hF
            exact fun a ha => hKL25 a _ m26 (Nat.lt_succ_self m26) ⟨(w64 (y23 + 1)), ha.sub ⟨rfl, rfl, rfl, rfl, trivial⟩, hB30, (hS31.sel [0] rfl), hF⟩
          · replace hF := ifN h35 hF
            refine W.exit ?_
            refine fun a ha => hK19 _ _ ?_ a ha
            refine W.seq fun K36 hK36 => ?_
            refine W.region ?_
            refine wl_lit (vs := []) (l := []) fl_56 Try.underlying43 rfl rfl rfl rfl rfl rfl hB30 hS31 ?_
            intro v37 F38 w39 hb40 hB41 hS42
            refine wl_move rfl rfl ?_
            refine wl_move rfl rfl ?_
            obtain ⟨u43, hu43, hF⟩ := bindE hF
            refine wl_slice (e := ty_56) Try.underlying43 rfl rfl h1_0 hu43 (.inl ⟨rfl, rfl⟩) (.inr ⟨_, _, rfl, rfl⟩) ?_
            intro v44 hv45
            obtain ⟨u46, hu46, hF⟩ := bindE hF
            refine wl_append (i := 0) (S := (· < w39.heap.size)) fl_56 Try.underlying43 rfl rfl rfl hB41 hS42 rfl (hv45.ro hB41) hu46 ?_
            intro v47 F48 w49 hk50 hB51 hS52
            refine wl_assign rfl rfl ?_
            refine WL.nil ?_
            refine fun a ha => hK36 _ _ ?_ a ha
            refine W.seq fun K53 hK53 => ?_
            refine W.regionH mixed_ F48 hB51 hS52 ?_
            intro w54 hb55 hB56 hS57
            have hSW58 := KeepX.refl w54 F48
            refine WH.takex (i := 0) rfl (by kernel_rfl) (by kernel_rfl) (by kernel_rfl) hP hSW58 ?_
            refine pr_move rfl rfl ?_
            refine WH.takex (i := 1) rfl (by kernel_rfl) (by kernel_rfl) (by kernel_rfl) hP hSW58 ?_
            refine pr_load_blk (i := 1) (vs := [(.int .i64 x2.1), (.string (mkS x2.2))]) (v := (.agg #[(.int .i64 x2.1), (.string (mkS x2.2))])) tf_56 rfl rfl hS57 rfl rfl rfl (hS57.disj (i := 1) (j := 0) rfl rfl rfl b2 (by simp [R.blk])) ?_
            refine WH.takex (i := 4) rfl (by kernel_rfl) (by kernel_rfl) (by kernel_rfl) hP hSW58 ?_
            refine pr_move rfl rfl ?_
            refine WH.takex (i := 5) rfl (by kernel_rfl) (by kernel_rfl) (by kernel_rfl) hP hSW58 ?_
            refine pr_move rfl rfl ?_
            obtain ⟨u59, hu59, hF⟩ := bindE hF
            refine WH.takex (i := 6) rfl (by kernel_rfl) (by kernel_rfl) (by kernel_rfl) hP hSW58 ?_
            refine pr_slice (e := ty_56) Try.underlying43 rfl rfl h1_0 hu59 (.inr ⟨_, _, rfl, rfl⟩) (.inl ⟨rfl, rfl⟩) ?_
            intro v60 hv61
            refine WH.one (i := 2) (by kernel_rfl) rfl ?_
            refine wl_lit (vs := [(.agg #[(.int .i64 x2.1), (.string (mkS x2.2))])]) (l := [x2]) fl_56 Try.underlying43 rfl rfl rfl rfl rfl rfl (Below.self w54) (Sep.nil _ _) ?_
            intro v62 F63 w65 hb66 hB69 hM70
            have hB67 := hB56.trans (hb66.mono hB56.size)
            have hS68 := hS57.join hb66 hM70 hB56.size
            have hn71 : ∀ b ∈ F63, w54.heap.size ≤ b := fun b hb => Nat.le_trans hSW58.size ((hM70.1 _ (List.mem_cons_self ..)).2.1 b hb).1
            have hSW72 := hSW58.ext hb66
            have hbS73 : Below w54.heap.size w54 w65 := hb66
            refine WL.nil (WH.ret hSW72 ?_)
            refine WH.one (i := 3) (by kernel_rfl) rfl ?_
            obtain ⟨u74, hu74, hF⟩ := bindE hF
            refine wl_append (i := 1) (S := (· < w65.heap.size)) fl_56 Try.underlying43 rfl rfl rfl hB67 hS68 rfl (hS68.own_ro (i := 0) rfl) hu74 ?_
            intro v75 F76 w77 hk78 hB79 hS80
            have hSW81 := hSW72.wr' hk78.1 hk78.2.1 (fun _ _ h => h)
            refine WL.nil (WH.ret hSW81 ?_)
            refine WH.one (i := 7) (by kernel_rfl) rfl ?_
            obtain ⟨u82, hu82, hF⟩ := bindE hF
            refine wl_append (i := 1) (S := (· < w77.heap.size)) fl_56 Try.underlying43 rfl rfl rfl hB79 hS80 rfl (hv61.ro hB79) hu82 ?_
            intro v83 F84 w85 hk86 hB87 hS88
            have hSW89 := hSW81.wr' hk86.1 hk86.2.1 (fun b hlt hb => (hk78.2.2 b hb).elim ((fun _ _ h => h) b hlt) (fun h => absurd hlt (Nat.not_lt.2 (Nat.le_trans hSW72.size h))))
            refine WL.nil (WH.ret hSW89 ?_)
            refine WH.takex (i := 8) rfl (by kernel_rfl) (by kernel_rfl) (by kernel_rfl) hP hSW89 ?_
            refine pr_assign rfl rfl ?_
            refine WH.done (by kernel_rfl) ?_
            refine fun a ha => hK53 _ _ ?_ a ha
            refine W.seq fun K90 hK90 => ?_
            refine W.seq fun K91 hK91 => ?_
            refine W.region ?_
            refine wl_move rfl rfl ?_
            refine wl_move rfl rfl ?_
            obtain ⟨u92, hu92, hF⟩ := bindE hF
            refine wl_call rfl Try.call82 (C_impl_areCues w85 x0 v0_0 (h0_0.ro hB87) u82 v83 (hS88.own_ro (i := 1) rfl) _ hu92) rfl ?_
            rintro _ w93 ⟨rfl, hb94⟩
            refine ⟨_, rfl, ?_⟩
            have hB95 := hB87.trans (hb94.mono hB87.size)
            have hS96 := hS88.below hb94
            refine wl_not rfl rfl ?_
            refine WL.nil ?_
            refine fun a ha => hK91 _ _ ?_ a ha
            refine W.cond rfl (fun h98 => ?_) (fun h98 => ?_)
            · replace hF := ifP h98 hF
              refine W.seq fun K99 hK99 => ?_
              refine W.region ?_
              refine wl_assign rfl rfl ?_
              refine wl_assign rfl rfl ?_
              refine WL.nil ?_
              refine fun a ha => hK99 _ _ ?_ a ha
              refine W.ret ?_
              have hS100 := hS96.push0 (r := R.own ty_56 [] (.slice none 0 0) []) rfl fun _ => .inl ⟨rfl, rfl, rfl⟩
              have hr := Option.some.inj hF
              subst hr
              exact rets (vs := [(.slice none 0 0), (.bool false)]) hQ rfl ⟨rv_tmp rfl, rv_tmp rfl, trivial⟩ ⟨(.slice none 0 0), [], rfl, hB95, hS100.sel [0] rfl⟩
            · replace hF := ifN h98 hF
              refine W.skip ?_
              refine fun a ha => hK90 _ _ ?_ a ha
              refine W.seq fun K101 hK101 => ?_
              refine W.region ?_
              refine wl_move rfl rfl ?_
              refine wl_assign rfl rfl ?_
              refine wl_assign rfl rfl ?_
              refine WL.nil ?_
              refine fun a ha => hK101 _ _ ?_ a ha
              refine W.ret ?_
              have hr := Option.some.inj hF
              subst hr
              exact rets (vs := [v83, (.bool true)]) hQ rfl ⟨rv_tmp rfl, rv_tmp rfl, trivial⟩ ⟨v83, F84, rfl, hB95, hS96.sel [1] rfl⟩
        refine W.regionH mixed_ [] hB21 hS22 ?_
        intro w102 hb103 hB104 hS105
        have hSW106 := KeepX.refl w102 []
        refine WH.takex (i := 0) rfl (by kernel_rfl) (by kernel_rfl) (by kernel_rfl) hP hSW106 ?_
        refine pr_move rfl rfl ?_
        refine WH.takex (i := 1) rfl (by kernel_rfl) (by kernel_rfl) (by kernel_rfl) hP hSW106 ?_
        refine pr_move rfl rfl ?_
        refine WH.takex (i := 2) rfl (by kernel_rfl) (by kernel_rfl) (by kernel_rfl) hP hSW106 ?_
        refine pr_lenr (e := ty_56) (l := x1) Try.underlying43 rfl rfl h1_0 ?_
        refine WH.takex (i := 3) rfl (by kernel_rfl) (by kernel_rfl) (by kernel_rfl) hP hSW106 ?_
        refine pr_lss rfl rfl rfl ?_
        refine WH.takex (i := 4) rfl (by kernel_rfl) (by kernel_rfl) (by kernel_rfl) hP hSW106 ?_
        refine pr_move rfl rfl ?_
        rcases bE (decide (y23 < (List.length x1 : Int))) with h107 | h107
        · replace hF := ifP h107 hF
          refine WH.takexg (i := 5) rfl (by kernel_rfl) (by kernel_rfl) (by kernel_rfl) hP rfl rfl h107 hSW106 ?_
          refine pr_move rfl rfl ?_
          refine WH.takexg (i := 6) rfl (by kernel_rfl) (by kernel_rfl) (by kernel_rfl) hP rfl rfl h107 hSW106 ?_
          refine pr_move rfl rfl ?_
          obtain ⟨u108, hu108, hF⟩ := bindE hF
          refine WH.takexg (i := 7) rfl (by kernel_rfl) (by kernel_rfl) (by kernel_rfl) hP rfl rfl h107 hSW106 ?_
          refine pr_index (e := ty_56) Try.underlying43 rfl rfl rfl h1_0 hu108 ?_
          rintro p109 _ rfl hp110
          refine WH.takexg (i := 8) rfl (by kernel_rfl) (by kernel_rfl) (by kernel_rfl) hP rfl rfl h107 hSW106 ?_
          refine pr_fieldp (o := 0) ff_56_0 rfl rfl ?_
          refine WH.takexg (i := 9) rfl (by kernel_rfl) (by kernel_rfl) (by kernel_rfl) hP rfl rfl h107 hSW106 ?_
          refine pr_load_p (vs := [(.int .i64 u108.1)]) (v := (.int .i64 u108.1)) tf_3 rfl rfl (EAt.addk (hp110.kx hB104 (by simp)) 0) rfl rfl ?_
          refine WH.takexg (i := 10) rfl (by kernel_rfl) (by kernel_rfl) (by kernel_rfl) hP rfl rfl h107 hSW106 ?_
          refine pr_field (o := 0) (off' := 0) ff_56_0 rfl rfl rfl ?_
          refine WH.takexg (i := 11) rfl (by kernel_rfl) (by kernel_rfl) (by kernel_rfl) hP rfl rfl h107 hSW106 ?_
          refine pr_load_blk (i := 0) (vs := [(.int .i64 x2.1)]) (v := (.int .i64 x2.1)) tf_3 rfl rfl hS105 rfl rfl rfl (by simp) ?_
          refine WH.takexg (i := 12) rfl (by kernel_rfl) (by kernel_rfl) (by kernel_rfl) hP rfl rfl h107 hSW106 ?_
          refine pr_lss rfl rfl rfl ?_
          refine WH.takex (i := 13) rfl (by kernel_rfl) (by kernel_rfl) (by kernel_rfl) hP hSW106 ?_
          refine pr_pick_t rfl rfl h107 rfl ?_
          refine WH.done (by kernel_rfl) ?_
          exact fun a ha => hJ34 ((decide (u108.1 < x2.1))) _ hF hB104 (hS105.sel [0] rfl) a (ha.sub ⟨rfl, rfl, rfl, rfl, rfl, trivial⟩)
        · replace hF := ifN h107 hF
          refine WH.off (i := 5) rfl (by kernel_rfl) (by kernel_rfl) (by kernel_rfl) hP rfl rfl h107 rfl hSW106 ?_
          refine WH.off (i := 6) rfl (by kernel_rfl) (by kernel_rfl) (by kernel_rfl) hP rfl rfl h107 rfl hSW106 ?_
          refine WH.off (i := 7) rfl (by kernel_rfl) (by kernel_rfl) (by kernel_rfl) hP rfl rfl h107 rfl hSW106 ?_
          refine WH.off (i := 8) rfl (by kernel_rfl) (by kernel_rfl) (by kernel_rfl) hP rfl rfl h107 rfl hSW106 ?_
          refine WH.off (i := 9) rfl (by kernel_rfl) (by kernel_rfl) (by kernel_rfl) hP rfl rfl h107 rfl hSW106 ?_
          refine WH.off (i := 10) rfl (by kernel_rfl) (by kernel_rfl) (by kernel_rfl) hP rfl rfl h107 rfl hSW106 ?_
          refine WH.off (i := 11) rfl (by kernel_rfl) (by kernel_rfl) (by kernel_rfl) hP rfl rfl h107 rfl hSW106 ?_
          refine WH.off (i := 12) rfl (by kernel_rfl) (by kernel_rfl) (by kernel_rfl) hP rfl rfl h107 rfl hSW106 ?_
          refine WH.takex (i := 13) rfl (by kernel_rfl) (by kernel_rfl) (by kernel_rfl) hP hSW106 ?_
          refine pr_pick_f rfl rfl h107 rfl ?_
          refine WH.done (by kernel_rfl) ?_
          exact fun a ha => hJ34 (false) _ hF hB104 (hS105.sel [0] rfl) a (ha.sub ⟨rfl, rfl, rfl, rfl, rfl, trivial⟩)
theorem C_laws_FnExactAddCue (w0 : World) (x0 : (List (Int × Int))) (v0_0 : Value) (h0_0 : rdS ty_95 (· < w0.heap.size) w0 v0_0 x0) (x1 : (List (Int × (List UInt8)))) (v1_0 : Value) (h1_0 : rdS ty_53 (· < w0.heap.size) w0 v1_0 x1) (x2 : (Int × (List UInt8))) (r : Bool) (hF : F_laws_FnExactAddCue x0 x1 x2 = some r) :
    Calls Try.prog 7 [v0_0, v1_0, (.agg #[(.int .i64 x2.1), (.string (mkS x2.2))])].toArray w0 fun e w' => e = .returned (.bool r) ∧ Below w0.heap.size w0 w' := by
  refine calls_mk' Try.func7 rfl Try.ntmps7 rfl rfl fun Q hQ hP => ?_
  have hB : Below w0.heap.size w0 w0 := Below.refl _ _
  have hS : Sep w0.heap.size w0 [] := Sep.nil _ _
  unfold F_laws_FnExactAddCue at hF
  refine W.seq fun K1 hK1 => ?_
  refine W.region ?_
  refine wl_box (cs := [(.int .i64 x2.1), (.string (mkS x2.2))]) rfl rfl rfl hB hS ?_
  intro b2 w3 hb4 hB5 hS6
  refine wl_assign rfl rfl ?_
  refine WL.nil ?_
  refine fun a ha => hK1 _ _ ?_ a ha
  refine W.seq fun K7 hK7 => ?_
  refine W.region ?_
  refine wl_assign rfl rfl ?_
  refine WL.nil ?_
  refine fun a ha => hK7 _ _ ?_ a ha
  refine W.seq fun K8 hK8 => ?_
  refine W.region ?_
  refine wl_move rfl rfl ?_
  refine wl_move rfl rfl ?_
  obtain ⟨u9, hu9, hF⟩ := bindE hF
  refine wl_call rfl Try.call22 (C_laws_szMeasureS w3 x0 v0_0 (h0_0.ro hB5) 1048576 _ hu9) rfl ?_
  rintro _ w10 ⟨rfl, hb11⟩
  refine ⟨_, rfl, ?_⟩
  have hB12 := hB5.trans (hb11.mono hB5.size)
  have hS13 := hS6.below hb11
  refine wl_assign rfl rfl ?_
  refine WL.nil ?_
  refine fun a ha => hK8 _ _ ?_ a ha
  refine W.seq fun K15 hK15 => ?_
  refine W.seq fun K16 hK16 => ?_
  refine W.region ?_
  refine wl_move rfl rfl ?_
  refine wl_lss rfl rfl rfl ?_
  refine WL.nil ?_
  refine fun a ha => hK16 _ _ ?_ a ha
  refine W.cond rfl (fun h17 => ?_) (fun h17 => ?_)
  · replace hF := ifP h17 hF
    refine W.seq fun K18 hK18 => ?_
    refine W.region ?_
    refine wl_assign rfl rfl ?_
    refine WL.nil ?_
    refine fun a ha => hK18 _ _ ?_ a ha
    refine W.ret ?_
    have hr := Option.some.inj hF
    subst hr
    exact rets (vs := [(.bool true)]) hQ rfl ⟨rv_tmp rfl, trivial⟩ ⟨rfl, hB12⟩
  · replace hF := ifN h17 hF
    refine W.skip ?_
    refine fun a ha => hK15 _ _ ?_ a ha
    refine W.seq fun K19 hK19 => ?_
    refine W.region ?_
    refine wl_move rfl rfl ?_
    refine wl_move rfl rfl ?_
    obtain ⟨u20, hu20, hF⟩ := bindE hF
    refine wl_call rfl Try.call23 (C_laws_szCueS w10 x1 v1_0 (h1_0.ro hB12) u9 _ hu20) rfl ?_
    rintro _ w21 ⟨rfl, hb22⟩
    refine ⟨_, rfl, ?_⟩
    have hB23 := hB12.trans (hb22.mono hB12.size)
    have hS24 := hS13.below hb22
    refine wl_assign rfl rfl ?_
    refine WL.nil ?_
    refine fun a ha => hK19 _ _ ?_ a ha
    refine W.seq fun K26 hK26 => ?_
    refine W.seq fun K27 hK27 => ?_
    refine W.region ?_
    refine wl_move rfl rfl ?_
    refine wl_lss rfl rfl rfl ?_
    refine WL.nil ?_
    refine fun a ha => hK27 _ _ ?_ a ha
    refine W.cond rfl (fun h28 => ?_) (fun h28 => ?_)
    · replace hF := ifP h28 hF
      refine W.seq fun K29 hK29 => ?_
      refine W.region ?_
      refine wl_assign rfl rfl ?_
      refine WL.nil ?_
      refine fun a ha => hK29 _ _ ?_ a ha
      refine W.ret ?_
      have hr := Option.some.inj hF
      subst hr
      exact rets (vs := [(.bool true)]) hQ rfl ⟨rv_tmp rfl, trivial⟩ ⟨rfl, hB23⟩
    · replace hF := ifN h28 hF
      refine W.skip ?_
      refine fun a ha => hK26 _ _ ?_ a ha
      refine W.seq fun K30 hK30 => ?_
      refine W.region ?_
      refine wl_load_blk (i := 0) (vs := [(.int .i64 x2.1), (.string (mkS x2.2))]) (v := (.agg #[(.int .i64 x2.1), (.string (mkS x2.2))])) tf_53 rfl rfl hS24 rfl rfl rfl ?_
      refine wl_move rfl rfl ?_
      obtain ⟨u31, hu31, hF⟩ := bindE hF
      refine wl_call rfl Try.call35 (C_laws_szCue w21 x2 u20 _ hu31) rfl ?_
      rintro _ w32 ⟨rfl, hb33⟩
      refine ⟨_, rfl, ?_⟩
      have hB34 := hB23.trans (hb33.mono hB23.size)
      have hS35 := hS24.below hb33
      refine wl_assign rfl rfl ?_
      refine WL.nil ?_
      refine fun a ha => hK30 _ _ ?_ a ha
      refine W.seq fun K37 hK37 => ?_
      refine W.seq fun K38 hK38 => ?_
      refine W.region ?_
      refine wl_move rfl rfl ?_
      refine wl_lss rfl rfl rfl ?_
      refine WL.nil ?_
      refine fun a ha => hK38 _ _ ?_ a ha
      refine W.cond rfl (fun h39 => ?_) (fun h39 => ?_)
      · replace hF := ifP h39 hF
        refine W.seq fun K40 hK40 => ?_
        refine W.region ?_
        refine wl_assign rfl rfl ?_
        refine WL.nil ?_
        refine fun a ha => hK40 _ _ ?_ a ha
        refine W.ret ?_
        have hr := Option.some.inj hF
        subst hr
        exact rets (vs := [(.bool true)]) hQ rfl ⟨rv_tmp rfl, trivial⟩ ⟨rfl, hB34⟩
      · replace hF := ifN h39 hF
        refine W.skip ?_
        refine fun a ha => hK37 _ _ ?_ a ha
        refine W.seq fun K41 hK41 => ?_
        refine W.regionH mixed_ [] hB34 hS35 ?_
        intro w42 hb43 hB44 hS45
        have hSW46 := KeepX.refl w42 []
        refine WH.takex (i := 0) rfl (by kernel_rfl) (by kernel_rfl) (by kernel_rfl) hP hSW46 ?_
        refine pr_move rfl rfl ?_
        refine WH.takex (i := 2) rfl (by kernel_rfl) (by kernel_rfl) (by kernel_rfl) hP hSW46 ?_
        refine pr_move rfl rfl ?_
        refine WH.takex (i := 4) rfl (by kernel_rfl) (by kernel_rfl) (by kernel_rfl) hP hSW46 ?_
        refine pr_load_blk (i := 0) (vs := [(.int .i64 x2.1), (.string (mkS x2.2))]) (v := (.agg #[(.int .i64 x2.1), (.string (mkS x2.2))])) tf_53 rfl rfl hS45 rfl rfl rfl (by simp) ?_
        refine WH.one (i := 1) (by kernel_rfl) rfl ?_
        obtain ⟨u47, hu47, hF⟩ := bindE hF
        refine wl_call rfl Try.call25 (C_laws_toMeasureS w42 x0 v0_0 (h0_0.ro hB44) _ hu47) rfl ?_
        rintro _ w50 ⟨v48, F49, rfl, hb51, hM54⟩
        refine ⟨_, rfl, ?_⟩
        have hB52 := hB44.trans (hb51.mono hB44.size)
        have hS53 := hS45.join hb51 hM54 hB44.size
        have hSW55 := hSW46.ext hb51
        refine WL.nil (WH.ret hSW55 ?_)
        refine WH.one (i := 3) (by kernel_rfl) rfl ?_
        obtain ⟨u56, hu56, hF⟩ := bindE hF
        refine wl_call rfl Try.call26 (C_laws_toCueS w50 x1 v1_0 (h1_0.ro hB52) _ hu56) rfl ?_
        rintro _ w59 ⟨v57, F58, rfl, hb60, hM63⟩
        refine ⟨_, rfl, ?_⟩
        have hB61 := hB52.trans (hb60.mono hB52.size)
        have hS62 := hS53.join hb60 hM63 hB52.size
        have hSW64 := hSW55.ext hb60
        refine WL.nil (WH.ret hSW64 ?_)
        refine WH.one (i := 5) (by kernel_rfl) rfl ?_
        obtain ⟨u65, hu65, hF⟩ := bindE hF
        refine wl_call rfl Try.call37 (C_laws_toCue w59 x2 _ hu65) rfl ?_
        rintro _ w66 ⟨rfl, hb67⟩
        refine ⟨_, rfl, ?_⟩
        have hB68 := hB61.trans (hb67.mono hB61.size)
        have hS69 := hS62.below hb67
        have hSW71 := hSW64.ext hb67
        refine WL.nil (WH.ret hSW71 ?_)
        refine WH.one (i := 6) (by kernel_rfl) rfl ?_
        obtain ⟨u72, hu72, hF⟩ := bindE hF
        refine wl_call rfl Try.call36 (C_spec_AddCue w66 u47 v48 (hS69.own_ro (i := 1) rfl) u56 v57 (hS69.own_ro (i := 0) rfl) u65 _ hu72) rfl ?_
        rintro _ w75 ⟨v73, F74, rfl, hb76, hM79⟩
        refine ⟨_, rfl, ?_⟩
        have hB77 := hB68.trans (hb76.mono hB68.size)
        have hS78 := hS69.join hb76 hM79 hB68.size
        have hSW80 := hSW71.ext hb76
        refine WL.nil (WH.ret hSW80 ?_)
        refine WH.takex (i := 7) rfl (by kernel_rfl) (by kernel_rfl) (by kernel_rfl) hP hSW80 ?_
        refine pr_move rfl rfl ?_
        refine WH.takex (i := 8) rfl (by kernel_rfl) (by kernel_rfl) (by kernel_rfl) hP hSW80 ?_
        refine pr_extract rfl rfl rfl ?_
        refine WH.takex (i := 9) rfl (by kernel_rfl) (by kernel_rfl) (by kernel_rfl) hP hSW80 ?_
        refine pr_extract rfl rfl rfl ?_
        refine WH.takex (i := 10) rfl (by kernel_rfl) (by kernel_rfl) (by kernel_rfl) hP hSW80 ?_
        refine pr_assign rfl rfl ?_
        refine WH.takex (i := 11) rfl (by kernel_rfl) (by kernel_rfl) (by kernel_rfl) hP hSW80 ?_
        refine pr_assign rfl rfl ?_
        refine WH.done (by kernel_rfl) ?_
        refine fun a ha => hK41 _ _ ?_ a ha
        refine W.seq fun K81 hK81 => ?_
        refine W.region ?_
        refine wl_move rfl rfl ?_
        obtain ⟨u82, hu82, hF⟩ := bindE hF
        refine wl_call rfl Try.call25 (C_laws_toMeasureS w75 x0 v0_0 (h0_0.ro hB77) _ hu82) rfl ?_
        rintro _ w85 ⟨v83, F84, rfl, hb86, hM89⟩
        refine ⟨_, rfl, ?_⟩
        have hB87 := hB77.trans (hb86.mono hB77.size)
        have hS88 := hS78.join hb86 hM89 hB77.size
        refine wl_assign rfl rfl ?_
        refine WL.nil ?_
        refine fun a ha => hK81 _ _ ?_ a ha
        refine W.seq fun K90 hK90 => ?_
        refine W.region ?_
        refine wl_move rfl rfl ?_
        obtain ⟨u91, hu91, hF⟩ := bindE hF
        refine wl_call rfl Try.call26 (C_laws_toCueS w85 x1 v1_0 (h1_0.ro hB87) _ hu91) rfl ?_
        rintro _ w94 ⟨v92, F93, rfl, hb95, hM98⟩
        refine ⟨_, rfl, ?_⟩
        have hB96 := hB87.trans (hb95.mono hB87.size)
        have hS97 := hS88.join hb95 hM98 hB87.size
        refine wl_assign rfl rfl ?_
        refine WL.nil ?_
        refine fun a ha => hK90 _ _ ?_ a ha
        refine W.seq fun K99 hK99 => ?_
        refine W.region ?_
        refine wl_move rfl rfl ?_
        refine wl_move rfl rfl ?_
        refine wl_load_blk (i := 5) (vs := [(.int .i64 x2.1), (.string (mkS x2.2))]) (v := (.agg #[(.int .i64 x2.1), (.string (mkS x2.2))])) tf_53 rfl rfl hS97 rfl rfl rfl ?_
        obtain ⟨u100, hu100, hF⟩ := bindE hF
        refine wl_call rfl Try.call37 (C_laws_toCue w94 x2 _ hu100) rfl ?_
        rintro _ w101 ⟨rfl, hb102⟩
        refine ⟨_, rfl, ?_⟩
        have hB103 := hB96.trans (hb102.mono hB96.size)
        have hS104 := hS97.below hb102
        obtain ⟨u106, hu106, hF⟩ := bindE hF
        refine wl_call rfl Try.call38 (C_impl_AddCue w101 u82 v83 (hS104.own_ro (i := 1) rfl) u91 v92 (hS104.own_ro (i := 0) rfl) u100 _ hu106) rfl ?_
        rintro _ w109 ⟨v107, F108, rfl, hb110, hM113⟩
        refine ⟨_, rfl, ?_⟩
        have hB111 := hB103.trans (hb110.mono hB103.size)
        have hS112 := hS104.join hb110 hM113 hB103.size
        refine wl_move rfl rfl ?_
        refine wl_extract rfl rfl rfl ?_
        refine wl_extract rfl rfl rfl ?_
        refine wl_assign rfl rfl ?_
        refine wl_assign rfl rfl ?_
        refine WL.nil ?_
        refine fun a ha => hK99 _ _ ?_ a ha
        refine W.seq fun K114 hK114 => ?_
        refine W.seq fun K115 hK115 => ?_
        obtain ⟨k120, hk120, hF⟩ := jE1 hF
        have hJ121 : ∀ (y119 : Bool) (w116 : World) (_ : k120 y119 = some r) (_ : Below w0.heap.size w0 w116) (_ : Sep w0.heap.size w116 [R.blk b2 53 [(.int .i64 x2.1), (.string (mkS x2.2))], R.own ty_56 F74 v73 u72.1, R.own ty_93 F84 v83 u82, R.own ty_56 F93 v92 u91, R.own ty_56 F108 v107 u106.1]), ∀ a, St 132 [(0, v0_0), (1, v1_0), (5, (.pointer (some ⟨b2, 0, none⟩))), (8, v73), (9, (.bool u72.2)), (10, v83), (11, v92), (12, v107), (13, (.bool u106.2)), (64, (.bool y119))] a → K115 a w116 := by
          intro y119 w116 hF hB117 hS118
          subst hk120
          refine fun a ha => hK115 _ _ ?_ a ha
          refine W.cond rfl (fun h122 => ?_) (fun h122 => ?_)
          · replace hF := ifP h122 hF
            refine W.seq fun K123 hK123 => ?_
            refine W.region ?_
            refine wl_assign rfl rfl ?_
            refine WL.nil ?_
            refine fun a ha => hK123 _ _ ?_ a ha
            refine W.ret ?_
            have hr := Option.some.inj hF
            subst hr
            exact rets (vs := [(.bool false)]) hQ rfl ⟨rv_tmp rfl, trivial⟩ ⟨rfl, hB117⟩
          · replace hF := ifN h122 hF
            refine W.skip ?_
            refine fun a ha => hK114 _ _ ?_ a ha
            refine W.seq fun K124 hK124 => ?_
            refine W.seq fun K125 hK125 => ?_
            refine W.region ?_
            refine wl_move rfl rfl ?_
            refine wl_move rfl rfl ?_
            obtain ⟨u126, hu126, hF⟩ := bindE hF
            refine wl_call rfl Try.call25 (C_laws_toMeasureS w116 x0 v0_0 (h0_0.ro hB117) _ hu126) rfl ?_
            rintro _ w129 ⟨v127, F128, rfl, hb130, hM133⟩
            refine ⟨_, rfl, ?_⟩
            have hB131 := hB117.trans (hb130.mono hB117.size)
            have hS132 := hS118.join hb130 hM133 hB117.size
            obtain ⟨u134, hu134, hF⟩ := bindE hF
            refine wl_call rfl Try.call28 (C_laws_eqMeasureS w129 u82 v83 (hS132.own_ro (i := 3) rfl) u126 v127 (hS132.own_ro (i := 0) rfl) _ hu134) rfl ?_
            rintro _ w135 ⟨rfl, hb136⟩
            refine ⟨_, rfl, ?_⟩
            have hB137 := hB131.trans (hb136.mono hB131.size)
            have hS138 := hS132.below hb136
            refine wl_not rfl rfl ?_
            refine WL.nil ?_
            refine fun a ha => hK125 _ _ ?_ a ha
            refine W.cond rfl (fun h140 => ?_) (fun h140 => ?_)
            · replace hF := ifP h140 hF
              refine W.seq fun K141 hK141 => ?_
              refine W.region ?_
              refine wl_assign rfl rfl ?_
              refine WL.nil ?_
              refine fun a ha => hK141 _ _ ?_ a ha
              refine W.ret ?_
              have hr := Option.some.inj hF
              subst hr
              exact rets (vs := [(.bool false)]) hQ rfl ⟨rv_tmp rfl, trivial⟩ ⟨rfl, hB137⟩
            · replace hF := ifN h140 hF
              refine W.skip ?_
              refine fun a ha => hK124 _ _ ?_ a ha
              refine W.seq fun K142 hK142 => ?_
              refine W.seq fun K143 hK143 => ?_
              refine W.region ?_
              refine wl_move rfl rfl ?_
              refine wl_move rfl rfl ?_
              obtain ⟨u144, hu144, hF⟩ := bindE hF
              refine wl_call rfl Try.call26 (C_laws_toCueS w135 x1 v1_0 (h1_0.ro hB137) _ hu144) rfl ?_
              rintro _ w147 ⟨v145, F146, rfl, hb148, hM151⟩
              refine ⟨_, rfl, ?_⟩
              have hB149 := hB137.trans (hb148.mono hB137.size)
              have hS150 := hS138.join hb148 hM151 hB137.size
              obtain ⟨u152, hu152, hF⟩ := bindE hF
              refine wl_call rfl Try.call29 (C_laws_eqCueS w147 u91 v92 (hS150.own_ro (i := 5) rfl) u144 v145 (hS150.own_ro (i := 0) rfl) _ hu152) rfl ?_
              rintro _ w153 ⟨rfl, hb154⟩
              refine ⟨_, rfl, ?_⟩
              have hB155 := hB149.trans (hb154.mono hB149.size)
              have hS156 := hS150.below hb154
              refine wl_not rfl rfl ?_
              refine WL.nil ?_
              refine fun a ha => hK143 _ _ ?_ a ha
              refine W.cond rfl (fun h158 => ?_) (fun h158 => ?_)
              · replace hF := ifP h158 hF
                refine W.seq fun K159 hK159 => ?_
                refine W.region ?_
                refine wl_assign rfl rfl ?_
                refine WL.nil ?_
                refine fun a ha => hK159 _ _ ?_ a ha
                refine W.ret ?_
                have hr := Option.some.inj hF
                subst hr
                exact rets (vs := [(.bool false)]) hQ rfl ⟨rv_tmp rfl, trivial⟩ ⟨rfl, hB155⟩
              · replace hF := ifN h158 hF
                refine W.skip ?_
                refine fun a ha => hK142 _ _ ?_ a ha
                refine W.seq fun K160 hK160 => ?_
                refine W.region ?_
                refine wl_assign rfl rfl ?_
                refine WL.nil ?_
                refine fun a ha => hK160 _ _ ?_ a ha
                refine W.seq fun K161 hK161 => ?_
                refine W.region ?_
                refine wl_move rfl rfl ?_
                refine wl_move rfl rfl ?_
                obtain ⟨u162, hu162, hF⟩ := bindE hF
                refine wl_call rfl Try.call32 (C_laws_markMeasureS w153 u82 v83 F84 1 (hS156.sel [4] rfl).base0 _ hu162) rfl ?_
                rintro _ w163 ⟨rfl, hE164, hM165⟩
                refine ⟨_, rfl, ?_⟩
                have hB166 := hS156.mutB [4] rfl (M := [R.own ty_93 F84 v83 u82]) rfl (M' := [R.own ty_93 F84 v83 u162.2]) rfl hB155 hB155.size hE164 hM165
                have hS167 : Sep w0.heap.size w163 [R.own ty_93 F84 v83 u162.2, R.own ty_56 F146 v145 u144, R.own ty_93 F128 v127 u126, R.blk b2 53 [(.int .i64 x2.1), (.string (mkS x2.2))], R.own ty_56 F74 v73 u72.1, R.own ty_56 F93 v92 u91, R.own ty_56 F108 v107 u106.1] := hS156.mut [4] [0, 1, 2, 3, 5, 6] rfl (M := [R.own ty_93 F84 v83 u82]) rfl (M' := [R.own ty_93 F84 v83 u162.2]) rfl hM165
                refine wl_assign rfl rfl ?_
                refine WL.nil ?_
                refine fun a ha => hK161 _ _ ?_ a ha
                refine W.seq fun K168 hK168 => ?_
                refine W.region ?_
                refine wl_move rfl rfl ?_
                refine wl_move rfl rfl ?_
                obtain ⟨u169, hu169, hF⟩ := bindE hF
                refine wl_call rfl Try.call33 (C_laws_markCueS w163 u91 v92 F93 u162.1 (hS167.sel [5] rfl).base0 _ hu169) rfl ?_
                rintro _ w170 ⟨rfl, hE171, hM172⟩
                refine ⟨_, rfl, ?_⟩
                have hB173 := hS167.mutB [5] rfl (M := [R.own ty_56 F93 v92 u91]) rfl (M' := [R.own ty_56 F93 v92 u169.2]) rfl hB166 hB166.size hE171 hM172
                have hS174 : Sep w0.heap.size w170 [R.own ty_56 F93 v92 u169.2, R.own ty_93 F84 v83 u162.2, R.own ty_56 F146 v145 u144, R.own ty_93 F128 v127 u126, R.blk b2 53 [(.int .i64 x2.1), (.string (mkS x2.2))], R.own ty_56 F74 v73 u72.1, R.own ty_56 F108 v107 u106.1] := hS167.mut [5] [0, 1, 2, 3, 4, 6] rfl (M := [R.own ty_56 F93 v92 u91]) rfl (M' := [R.own ty_56 F93 v92 u169.2]) rfl hM172
                refine wl_assign rfl rfl ?_
                refine WL.nil ?_
                refine fun a ha => hK168 _ _ ?_ a ha
                refine W.seq fun K175 hK175 => ?_
                refine W.seq fun K176 hK176 => ?_
                obtain ⟨k181, hk181, hF⟩ := jE1 hF
                have hJ182 : ∀ (y180 : Bool) (w177 : World) (_ : k181 y180 = some r) (_ : Below w0.heap.size w0 w177) (_ : Sep w0.heap.size w177 [R.blk b2 53 [(.int .i64 x2.1), (.string (mkS x2.2))], R.own ty_56 F74 v73 u72.1, R.own ty_56 F108 v107 u106.1]), ∀ a, St 132 [(0, v0_0), (1, v1_0), (5, (.pointer (some ⟨b2, 0, none⟩))), (8, v73), (9, (.bool u72.2)), (12, v107), (93, (.bool y180))] a → K176 a w177 := by
                  intro y180 w177 hF hB178 hS179
                  subst hk181
                  refine fun a ha => hK176 _ _ ?_ a ha
                  refine W.cond rfl (fun h183 => ?_) (fun h183 => ?_)
                  · replace hF := ifP h183 hF
                    refine W.seq fun K184 hK184 => ?_
                    refine W.region ?_
                    refine wl_assign rfl rfl ?_
                    refine WL.nil ?_
                    refine fun a ha => hK184 _ _ ?_ a ha
                    refine W.ret ?_
                    have hr := Option.some.inj hF
                    subst hr
                    exact rets (vs := [(.bool false)]) hQ rfl ⟨rv_tmp rfl, trivial⟩ ⟨rfl, hB178⟩
                  · replace hF := ifN h183 hF
                    refine W.skip ?_
                    refine fun a ha => hK175 _ _ ?_ a ha
                    refine W.seq fun K185 hK185 => ?_
                    refine W.region ?_
                    refine wl_assign rfl rfl ?_
                    refine WL.nil ?_
                    refine fun a ha => hK185 _ _ ?_ a ha
                    refine W.seq fun K186 hK186 => ?_
                    refine W.region ?_
                    refine wl_move rfl rfl ?_
                    refine wl_move rfl rfl ?_
                    obtain ⟨u187, hu187, hF⟩ := bindE hF
                    refine wl_call rfl Try.call33 (C_laws_markCueS w177 u106.1 v107 F108 1 (hS179.sel [2] rfl).base0 _ hu187) rfl ?_
                    rintro _ w188 ⟨rfl, hE189, hM190⟩
                    refine ⟨_, rfl, ?_⟩
                    have hB191 := hS179.mutB [2] rfl (M := [R.own ty_56 F108 v107 u106.1]) rfl (M' := [R.own ty_56 F108 v107 u187.2]) rfl hB178 hB178.size hE189 hM190
                    have hS192 : Sep w0.heap.size w188 [R.own ty_56 F108 v107 u187.2, R.blk b2 53 [(.int .i64 x2.1), (.string (mkS x2.2))], R.own ty_56 F74 v73 u72.1] := hS179.mut [2] [0, 1] rfl (M := [R.own ty_56 F108 v107 u106.1]) rfl (M' := [R.own ty_56 F108 v107 u187.2]) rfl hM190
                    refine wl_assign rfl rfl ?_
                    refine WL.nil ?_
                    refine fun a ha => hK186 _ _ ?_ a ha
                    refine W.seq fun K193 hK193 => ?_
                    refine W.region ?_
                    refine wl_assign rfl rfl ?_
                    refine WL.nil ?_
                    refine fun a ha => hK193 _ _ ?_ a ha
                    refine W.seq fun K194 hK194 => ?_
                    refine W.region ?_
                    refine wl_move rfl rfl ?_
                    refine wl_move rfl rfl ?_
                    obtain ⟨u195, hu195, hF⟩ := bindE hF
                    refine wl_call rfl Try.call34 (C_laws_heldCueS w188 u187.2 v107 (hS192.own_ro (i := 0) rfl) 1 _ hu195) rfl ?_
                    rintro _ w196 ⟨rfl, hb197⟩
                    refine ⟨_, rfl, ?_⟩
                    have hB198 := hB191.trans (hb197.mono hB191.size)
                    have hS199 := hS192.below hb197
                    refine wl_assign rfl rfl ?_
                    refine WL.nil ?_
                    refine fun a ha => hK194 _ _ ?_ a ha
                    refine W.seq fun K201 hK201 => ?_
                    refine W.seq fun K202 hK202 => ?_
                    refine W.region ?_
                    refine wl_move rfl rfl ?_
                    refine wl_lss rfl rfl rfl ?_
                    refine WL.nil ?_
                    refine fun a ha => hK202 _ _ ?_ a ha
                    refine W.cond rfl (fun h203 => ?_) (fun h203 => ?_)
                    · replace hF := ifP h203 hF
                      refine W.seq fun K204 hK204 => ?_
                      refine W.region ?_
                      refine wl_assign rfl rfl ?_
                      refine WL.nil ?_
                      refine fun a ha => hK204 _ _ ?_ a ha
                      refine W.ret ?_
                      have hr := Option.some.inj hF
                      subst hr
                      exact rets (vs := [(.bool false)]) hQ rfl ⟨rv_tmp rfl, trivial⟩ ⟨rfl, hB198⟩
                    · replace hF := ifN h203 hF
                      refine W.skip ?_
                      refine fun a ha => hK201 _ _ ?_ a ha
                      refine W.seq fun K205 hK205 => ?_
                      refine W.seq fun K206 hK206 => ?_
                      refine W.region ?_
                      refine wl_move rfl rfl ?_
                      refine wl_move rfl rfl ?_
                      refine wl_neq rfl rfl rfl ?_
                      refine WL.nil ?_
                      refine fun a ha => hK206 _ _ ?_ a ha
                      refine W.cond rfl (fun h207 => ?_) (fun h207 => ?_)
                      · replace hF := ifP h207 hF
                        refine W.seq fun K208 hK208 => ?_
                        refine W.region ?_
                        refine wl_assign rfl rfl ?_
                        refine WL.nil ?_
                        refine fun a ha => hK208 _ _ ?_ a ha
                        refine W.ret ?_
                        have hr := Option.some.inj hF
                        subst hr
                        exact rets (vs := [(.bool false)]) hQ rfl ⟨rv_tmp rfl, trivial⟩ ⟨rfl, hB198⟩
                      · replace hF := ifN h207 hF
                        refine W.skip ?_
                        refine fun a ha => hK205 _ _ ?_ a ha
                        refine W.seq fun K209 hK209 => ?_
                        refine W.regionH mixed_ [] hB198 hS199 ?_
                        intro w210 hb211 hB212 hS213
                        have hSW214 := KeepX.refl w210 []
                        refine WH.takex (i := 0) rfl (by kernel_rfl) (by kernel_rfl) (by kernel_rfl) hP hSW214 ?_
                        refine pr_move rfl rfl ?_
                        refine WH.takex (i := 2) rfl (by kernel_rfl) (by kernel_rfl) (by kernel_rfl) hP hSW214 ?_
                        refine pr_move rfl rfl ?_
                        refine WH.takex (i := 4) rfl (by kernel_rfl) (by kernel_rfl) (by kernel_rfl) hP hSW214 ?_
                        refine pr_load_blk (i := 1) (vs := [(.int .i64 x2.1), (.string (mkS x2.2))]) (v := (.agg #[(.int .i64 x2.1), (.string (mkS x2.2))])) tf_53 rfl rfl hS213 rfl rfl rfl (by simp) ?_
                        refine WH.one (i := 1) (by kernel_rfl) rfl ?_
                        obtain ⟨u215, hu215, hF⟩ := bindE hF
                        refine wl_call rfl Try.call25 (C_laws_toMeasureS w210 x0 v0_0 (h0_0.ro hB212) _ hu215) rfl ?_
                        rintro _ w218 ⟨v216, F217, rfl, hb219, hM222⟩
                        refine ⟨_, rfl, ?_⟩
                        have hB220 := hB212.trans (hb219.mono hB212.size)
                        have hS221 := hS213.join hb219 hM222 hB212.size
                        have hSW223 := hSW214.ext hb219
                        refine WL.nil (WH.ret hSW223 ?_)
                        refine WH.one (i := 3) (by kernel_rfl) rfl ?_
                        obtain ⟨u224, hu224, hF⟩ := bindE hF
                        refine wl_call rfl Try.call26 (C_laws_toCueS w218 x1 v1_0 (h1_0.ro hB220) _ hu224) rfl ?_
                        rintro _ w227 ⟨v225, F226, rfl, hb228, hM231⟩
                        refine ⟨_, rfl, ?_⟩
                        have hB229 := hB220.trans (hb228.mono hB220.size)
                        have hS230 := hS221.join hb228 hM231 hB220.size
                        have hSW232 := hSW223.ext hb228
                        refine WL.nil (WH.ret hSW232 ?_)
                        refine WH.one (i := 5) (by kernel_rfl) rfl ?_
                        obtain ⟨u233, hu233, hF⟩ := bindE hF
                        refine wl_call rfl Try.call37 (C_laws_toCue w227 x2 _ hu233) rfl ?_
                        rintro _ w234 ⟨rfl, hb235⟩
                        refine ⟨_, rfl, ?_⟩
                        have hB236 := hB229.trans (hb235.mono hB229.size)
                        have hS237 := hS230.below hb235
                        have hSW239 := hSW232.ext hb235
                        refine WL.nil (WH.ret hSW239 ?_)
                        refine WH.one (i := 6) (by kernel_rfl) rfl ?_
                        obtain ⟨u240, hu240, hF⟩ := bindE hF
                        refine wl_call rfl Try.call38 (C_impl_AddCue w234 u215 v216 (hS237.own_ro (i := 1) rfl) u224 v225 (hS237.own_ro (i := 0) rfl) u233 _ hu240) rfl ?_
                        rintro _ w243 ⟨v241, F242, rfl, hb244, hM247⟩
                        refine ⟨_, rfl, ?_⟩
                        have hB245 := hB236.trans (hb244.mono hB236.size)
                        have hS246 := hS237.join hb244 hM247 hB236.size
                        have hSW248 := hSW239.ext hb244
                        refine WL.nil (WH.ret hSW248 ?_)
                        refine WH.takex (i := 7) rfl (by kernel_rfl) (by kernel_rfl) (by kernel_rfl) hP hSW248 ?_
                        refine pr_move rfl rfl ?_
                        refine WH.takex (i := 8) rfl (by kernel_rfl) (by kernel_rfl) (by kernel_rfl) hP hSW248 ?_
                        refine pr_extract rfl rfl rfl ?_
                        refine WH.takex (i := 9) rfl (by kernel_rfl) (by kernel_rfl) (by kernel_rfl) hP hSW248 ?_
                        refine pr_extract rfl rfl rfl ?_
                        refine WH.takex (i := 10) rfl (by kernel_rfl) (by kernel_rfl) (by kernel_rfl) hP hSW248 ?_
                        refine pr_assign rfl rfl ?_
                        refine WH.takex (i := 11) rfl (by kernel_rfl) (by kernel_rfl) (by kernel_rfl) hP hSW248 ?_
                        refine pr_assign rfl rfl ?_
                        refine WH.done (by kernel_rfl) ?_
                        refine fun a ha => hK209 _ _ ?_ a ha
                        refine W.seq fun K249 hK249 => ?_
                        refine W.seq fun K250 hK250 => ?_
                        obtain ⟨k255, hk255, hF⟩ := jE1 hF
                        have hJ256 : ∀ (y254 : Bool) (w251 : World) (_ : k255 y254 = some r) (_ : Below w0.heap.size w0 w251) (_ : Sep w0.heap.size w251 [R.own ty_56 F108 v107 u187.2]), ∀ a, St 132 [(12, v107), (15, (.int .i64 u187.1)), (123, (.bool y254))] a → K250 a w251 := by
                          intro y254 w251 hF hB252 hS253
                          subst hk255
                          refine fun a ha => hK250 _ _ ?_ a ha
                          refine W.cond rfl (fun h257 => ?_) (fun h257 => ?_)
                          · replace hF := ifP h257 hF
                            refine W.seq fun K258 hK258 => ?_
                            refine W.region ?_
                            refine wl_assign rfl rfl ?_
                            refine WL.nil ?_
                            refine fun a ha => hK258 _ _ ?_ a ha
                            refine W.ret ?_
                            have hr := Option.some.inj hF
                            subst hr
                            exact rets (vs := [(.bool false)]) hQ rfl ⟨rv_tmp rfl, trivial⟩ ⟨rfl, hB252⟩
                          · replace hF := ifN h257 hF
                            refine W.skip ?_
                            refine fun a ha => hK249 _ _ ?_ a ha
                            refine W.seq fun K259 hK259 => ?_
                            refine W.region ?_
                            refine wl_assign rfl rfl ?_
                            refine WL.nil ?_
                            refine fun a ha => hK259 _ _ ?_ a ha
                            refine W.seq fun K260 hK260 => ?_
                            refine W.region ?_
                            refine wl_move rfl rfl ?_
                            refine wl_move rfl rfl ?_
                            obtain ⟨u261, hu261, hF⟩ := bindE hF
                            refine wl_call rfl Try.call34 (C_laws_heldCueS w251 u187.2 v107 (hS253.own_ro (i := 0) rfl) 1 _ hu261) rfl ?_
                            rintro _ w262 ⟨rfl, hb263⟩
                            refine ⟨_, rfl, ?_⟩
                            have hB264 := hB252.trans (hb263.mono hB252.size)
                            have hS265 := hS253.below hb263
                            refine wl_assign rfl rfl ?_
                            refine WL.nil ?_
                            refine fun a ha => hK260 _ _ ?_ a ha
                            refine W.seq fun K267 hK267 => ?_
                            refine W.seq fun K268 hK268 => ?_
                            refine W.region ?_
                            refine wl_move rfl rfl ?_
                            refine wl_lss rfl rfl rfl ?_
                            refine WL.nil ?_
                            refine fun a ha => hK268 _ _ ?_ a ha
                            refine W.cond rfl (fun h269 => ?_) (fun h269 => ?_)
                            · replace hF := ifP h269 hF
                              refine W.seq fun K270 hK270 => ?_
                              refine W.region ?_
                              refine wl_assign rfl rfl ?_
                              refine WL.nil ?_
                              refine fun a ha => hK270 _ _ ?_ a ha
                              refine W.ret ?_
                              have hr := Option.some.inj hF
                              subst hr
                              exact rets (vs := [(.bool false)]) hQ rfl ⟨rv_tmp rfl, trivial⟩ ⟨rfl, hB264⟩
                            · replace hF := ifN h269 hF
                              refine W.skip ?_
                              refine fun a ha => hK267 _ _ ?_ a ha
                              refine W.seq fun K271 hK271 => ?_
                              refine W.seq fun K272 hK272 => ?_
                              refine W.region ?_
                              refine wl_move rfl rfl ?_
                              refine wl_move rfl rfl ?_
                              refine wl_neq rfl rfl rfl ?_
                              refine WL.nil ?_
                              refine fun a ha => hK272 _ _ ?_ a ha
                              refine W.cond rfl (fun h273 => ?_) (fun h273 => ?_)
                              · replace hF := ifP h273 hF
                                refine W.seq fun K274 hK274 => ?_
                                refine W.region ?_
                                refine wl_assign rfl rfl ?_
                                refine WL.nil ?_
                                refine fun a ha => hK274 _ _ ?_ a ha
                                refine W.ret ?_
                                have hr := Option.some.inj hF
                                subst hr
                                exact rets (vs := [(.bool false)]) hQ rfl ⟨rv_tmp rfl, trivial⟩ ⟨rfl, hB264⟩
                              · replace hF := ifN h273 hF
                                refine W.skip ?_
                                refine fun a ha => hK271 _ _ ?_ a ha
                                refine W.seq fun K275 hK275 => ?_
                                refine W.region ?_
                                refine wl_assign rfl rfl ?_
                                refine WL.nil ?_
                                refine fun a ha => hK275 _ _ ?_ a ha
                                refine W.ret ?_
                                have hr := Option.some.inj hF
                                subst hr
                                exact rets (vs := [(.bool true)]) hQ rfl ⟨rv_tmp rfl, trivial⟩ ⟨rfl, hB264⟩
                        refine W.region ?_
                        refine wl_move rfl rfl ?_
                        refine wl_move rfl rfl ?_
                        obtain ⟨u276, hu276, hF⟩ := bindE hF
                        refine wl_call rfl Try.call29 (C_laws_eqCueS w243 u240.1 v241 (hS246.own_ro (i := 0) rfl) u72.1 v73 (hS246.own_ro (i := 5) rfl) _ hu276) rfl ?_
                        rintro _ w277 ⟨rfl, hb278⟩
                        refine ⟨_, rfl, ?_⟩
                        have hB279 := hB245.trans (hb278.mono hB245.size)
                        have hS280 := hS246.below hb278
                        refine wl_not rfl rfl ?_
                        refine wl_move rfl rfl ?_
                        rcases bE (!u276) with h282 | h282
                        · replace hF := ifP h282 hF
                          refine wl_off rfl rfl rfl h282 ?_
                          refine wl_off rfl rfl rfl h282 ?_
                          refine wl_off rfl rfl rfl h282 ?_
                          refine wl_pick_t rfl rfl h282 rfl ?_
                          refine WL.nil ?_
                          exact fun a ha => hJ256 (true) _ hF hB279 (hS280.sel [3] rfl) a (ha.sub ⟨rfl, rfl, rfl, trivial⟩)
                        · replace hF := ifN h282 hF
                          refine wl_on rfl rfl h282 ?_
                          refine wl_move rfl rfl ?_
                          refine wl_on rfl rfl h282 ?_
                          refine wl_move rfl rfl ?_
                          refine wl_on rfl rfl h282 ?_
                          refine wl_neqb Try.underlying4 rfl rfl rfl ?_
                          refine wl_pick_f rfl rfl h282 rfl ?_
                          refine WL.nil ?_
                          exact fun a ha => hJ256 ((u240.2 != u72.2)) _ hF hB279 (hS280.sel [3] rfl) a (ha.sub ⟨rfl, rfl, rfl, trivial⟩)
                refine W.region ?_
                refine wl_move rfl rfl ?_
                refine wl_lss rfl rfl rfl ?_
                refine wl_move rfl rfl ?_
                rcases bE (decide (u169.1 < 0)) with h283 | h283
                · replace hF := ifP h283 hF
                  refine wl_off rfl rfl rfl h283 ?_
                  refine wl_off rfl rfl rfl h283 ?_
                  refine wl_off rfl rfl rfl h283 ?_
                  refine wl_off rfl rfl rfl h283 ?_
                  refine wl_pick_t rfl rfl h283 rfl ?_
                  refine wl_move rfl rfl ?_
                  refine wl_off rfl rfl rfl rfl ?_
                  refine wl_off rfl rfl rfl rfl ?_
                  refine wl_off rfl rfl rfl rfl ?_
                  refine wl_pick_t rfl rfl rfl rfl ?_
                  refine WL.nil ?_
                  exact fun a ha => hJ182 (true) _ hF hB173 (hS174.sel [4, 5, 6] rfl) a (ha.sub ⟨rfl, rfl, rfl, rfl, rfl, rfl, rfl, trivial⟩)
                · replace hF := ifN h283 hF
                  refine wl_on rfl rfl h283 ?_
                  refine wl_move rfl rfl ?_
                  refine wl_on rfl rfl h283 ?_
                  refine wl_move rfl rfl ?_
                  refine wl_on rfl rfl h283 ?_
                  obtain ⟨u284, hu284, hF⟩ := bindE hF
                  refine wl_call rfl Try.call29 (C_laws_eqCueS w170 u106.1 v107 (hS174.own_ro (i := 6) rfl) u72.1 v73 (hS174.own_ro (i := 5) rfl) _ hu284) rfl ?_
                  rintro _ w285 ⟨rfl, hb286⟩
                  refine ⟨_, rfl, ?_⟩
                  have hB287 := hB173.trans (hb286.mono hB173.size)
                  have hS288 := hS174.below hb286
                  refine wl_on rfl rfl h283 ?_
                  refine wl_not rfl rfl ?_
                  refine wl_pick_f rfl rfl h283 rfl ?_
                  refine wl_move rfl rfl ?_
                  rcases bE (!u284) with h290 | h290
                  · replace hF := ifP h290 hF
                    refine wl_off rfl rfl rfl h290 ?_
                    refine wl_off rfl rfl rfl h290 ?_
                    refine wl_off rfl rfl rfl h290 ?_
                    refine wl_pick_t rfl rfl h290 rfl ?_
                    refine WL.nil ?_
                    exact fun a ha => hJ182 (true) _ hF hB287 (hS288.sel [4, 5, 6] rfl) a (ha.sub ⟨rfl, rfl, rfl, rfl, rfl, rfl, rfl, trivial⟩)
                  · replace hF := ifN h290 hF
                    refine wl_on rfl rfl h290 ?_
                    refine wl_move rfl rfl ?_
                    refine wl_on rfl rfl h290 ?_
                    refine wl_move rfl rfl ?_
                    refine wl_on rfl rfl h290 ?_
                    refine wl_neqb Try.underlying4 rfl rfl rfl ?_
                    refine wl_pick_f rfl rfl h290 rfl ?_
                    refine WL.nil ?_
                    exact fun a ha => hJ182 ((u106.2 != u72.2)) _ hF hB287 (hS288.sel [4, 5, 6] rfl) a (ha.sub ⟨rfl, rfl, rfl, rfl, rfl, rfl, rfl, trivial⟩)
        refine W.region ?_
        refine wl_move rfl rfl ?_
        refine wl_move rfl rfl ?_
        obtain ⟨u291, hu291, hF⟩ := bindE hF
        refine wl_call rfl Try.call29 (C_laws_eqCueS w109 u106.1 v107 (hS112.own_ro (i := 0) rfl) u72.1 v73 (hS112.own_ro (i := 3) rfl) _ hu291) rfl ?_
        rintro _ w292 ⟨rfl, hb293⟩
        refine ⟨_, rfl, ?_⟩
        have hB294 := hB111.trans (hb293.mono hB111.size)
        have hS295 := hS112.below hb293
        refine wl_not rfl rfl ?_
        refine wl_move rfl rfl ?_
        rcases bE (!u291) with h297 | h297
        · replace hF := ifP h297 hF
          refine wl_off rfl rfl rfl h297 ?_
          refine wl_off rfl rfl rfl h297 ?_
          refine wl_off rfl rfl rfl h297 ?_
          refine wl_pick_t rfl rfl h297 rfl ?_
          refine WL.nil ?_
          exact fun a ha => hJ121 (true) _ hF hB294 (hS295.sel [6, 3, 2, 1, 0] rfl) a (ha.sub ⟨rfl, rfl, rfl, rfl, rfl, rfl, rfl, rfl, rfl, rfl, trivial⟩)
        · replace hF := ifN h297 hF
          refine wl_on rfl rfl h297 ?_
          refine wl_move rfl rfl ?_
          refine wl_on rfl rfl h297 ?_
          refine wl_move rfl rfl ?_
          refine wl_on rfl rfl h297 ?_
          refine wl_neqb Try.underlying4 rfl rfl rfl ?_
          refine wl_pick_f rfl rfl h297 rfl ?_
          refine WL.nil ?_
          exact fun a ha => hJ121 ((u106.2 != u72.2)) _ hF hB294 (hS295.sel [6, 3, 2, 1, 0] rfl) a (ha.sub ⟨rfl, rfl, rfl, rfl, rfl, rfl, rfl, rfl, rfl, rfl, trivial⟩)
end Go.Proofs.Ytmbhdelegdhieaa
