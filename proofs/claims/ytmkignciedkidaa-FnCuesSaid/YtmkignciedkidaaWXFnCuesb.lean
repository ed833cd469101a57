/-
  THE WALKS of functions of this seat, by program (gen.py, prune.py).
-/
import Derived.Test.YtmkignciedkidaaWXFnCuesa
set_option linter.unusedSimpArgs false
set_option linter.unusedVariables false
set_option maxRecDepth 100000
set_option maxHeartbeats 1600000
namespace Go.Proofs.Ytmkignciedkidaa
open Go Go.RowKit
theorem C_spec_tiName (w0 : World) (x0 : (List UInt8)) (r : Bool) (hF : F_spec_tiName x0 = some r) :
    Calls Try.prog 254 [(.string (mkS x0))].toArray w0 fun e w' => e = .returned (.bool r) ∧ Below w0.heap.size w0 w' := by
  refine calls_mk' Try.func254 rfl Try.ntmps254 rfl rfl fun Q hQ hP => ?_
  have hB : Below w0.heap.size w0 w0 := Below.refl _ _
  have hS : Sep w0.heap.size w0 [] := Sep.nil _ _
  unfold F_spec_tiName at hF
  refine W.seq fun K1 hK1 => ?_
  refine W.region ?_
  refine wl_assign rfl rfl ?_
  refine WL.nil ?_
  refine fun a ha => hK1 _ _ ?_ a ha
  refine W.seq fun K2 hK2 => ?_
  refine W.seq fun K3 hK3 => ?_
  refine W.region ?_
  refine wl_assign rfl rfl ?_
  refine WL.nil ?_
  refine fun a ha => hK3 _ _ ?_ a ha
  refine W.block ?_
  refine W.loopk (fun m a w4 => ∃ (y7 : Int), St 23 [(0, (.string (mkS x0))), (3, (.int .i64 y7))] a ∧ Below w0.heap.size w0 w4 ∧ Sep w0.heap.size w4 [] ∧ F_spec_tiName_L1 x0 m y7 = some r) FU ?_ ?_
  ·
    exact fun a ha => ⟨0, ha.sub ⟨rfl, rfl, trivial⟩, hB, (hS.sel [] rfl), hF⟩
  ·
    rintro m10 a w4 ⟨y7, ha, hB5, hS6, hF⟩ KL9 hKL9
    refine W.at ?_ ha
    cases m10 with
    | zero => exact noneE hF
    | succ m10 =>
      obtain ⟨nx8, hnx8⟩ : ∃ k, k = F_spec_tiName_L1 x0 m10 := ⟨_, rfl⟩
      rw [F_spec_tiName_L1, ← hnx8] at hF
      refine W.seq fun K11 hK11 => ?_
      refine W.seq fun K12 hK12 => ?_
      refine W.region ?_
      refine wl_move rfl rfl ?_
      refine wl_move rfl rfl ?_
      refine wl_strlen Try.underlying9 rfl rfl ?_
      refine wl_lss rfl rfl rfl ?_
      refine WL.nil ?_
      refine fun a ha => hK12 _ _ ?_ a ha
      refine W.cond rfl (fun h13 => ?_) (fun h13 => ?_)
      · replace hF := ifP h13 hF
        refine W.skip ?_
        refine fun a ha => hK11 _ _ ?_ a ha
        refine W.seq fun K14 hK14 => ?_
        refine W.block ?_
        refine W.seq fun K15 hK15 => ?_
        obtain ⟨k20, hk20, hF⟩ := jE1 hF
        have hJ21 : ∀ (y19 : Bool) (w16 : World) (_ : k20 y19 = some r) (_ : Below w0.heap.size w0 w16) (_ : Sep w0.heap.size w16 []), ∀ a, St 23 [(0, (.string (mkS x0))), (3, (.int .i64 y7)), (19, (.bool y19))] a → K15 a w16 := by
          intro y19 w16 hF hB17 hS18
          subst hk20
          refine fun a ha => hK15 _ _ ?_ a ha
          refine W.cond rfl (fun h22 => ?_) (fun h22 => ?_)
          · replace hF := ifP h22 hF
            refine W.seq fun K23 hK23 => ?_
            refine W.region ?_
            refine wl_assign rfl rfl ?_
            refine WL.nil ?_
            refine fun a ha => hK23 _ _ ?_ a ha
            refine W.ret ?_
            have hr := Option.some.inj hF
            subst hr
            exact rets (vs := [(.bool false)]) hQ rfl ⟨rv_tmp rfl, trivial⟩ ⟨rfl, hB17⟩
          · replace hF := ifN h22 hF
            refine W.skip ?_
            refine fun a ha => hK14 _ _ ?_ a ha
            refine W.region ?_
            refine wl_move rfl rfl ?_
            refine wl_add rfl rfl rfl ?_
            refine wl_assign rfl rfl ?_
            refine WL.nil ?_
            rw [hnx8] at hF
            exact fun a ha => hKL9 a _ m10 (Nat.lt_succ_self m10) ⟨(w64 (y7 + 1)), ha.sub ⟨rfl, rfl, trivial⟩, hB17, (hS18.sel [] rfl), hF⟩
        refine W.region ?_
        refine wl_move rfl rfl ?_
        refine wl_move rfl rfl ?_
        obtain ⟨u24, hu24, hF⟩ := bindE hF
        refine wl_strindex Try.underlying9 rfl rfl rfl hu24 ?_
        refine wl_lss rfl rfl rfl ?_
        refine wl_move rfl rfl ?_
        rcases bE (decide ((UInt8.toNat u24 : Int) < 97)) with h25 | h25
        · replace hF := ifP h25 hF
          refine wl_off rfl rfl rfl h25 ?_
          refine wl_off rfl rfl rfl h25 ?_
          refine wl_off rfl rfl rfl h25 ?_
          refine wl_off rfl rfl rfl h25 ?_
          refine wl_pick_t rfl rfl h25 rfl ?_
          refine WL.nil ?_
          exact fun a ha => hJ21 (true) _ hF hB5 (hS6.sel [] rfl) a (ha.sub ⟨rfl, rfl, rfl, trivial⟩)
        · replace hF := ifN h25 hF
          refine wl_on rfl rfl h25 ?_
          refine wl_move rfl rfl ?_
          refine wl_on rfl rfl h25 ?_
          refine wl_move rfl rfl ?_
          refine wl_on rfl rfl h25 ?_
          obtain ⟨u26, hu26, hF⟩ := bindE hF
          refine wl_strindex Try.underlying9 rfl rfl rfl hu26 ?_
          refine wl_on rfl rfl h25 ?_
          refine wl_gtr rfl rfl rfl ?_
          refine wl_pick_f rfl rfl h25 rfl ?_
          refine WL.nil ?_
          exact fun a ha => hJ21 ((decide (122 < (UInt8.toNat u26 : Int)))) _ hF hB5 (hS6.sel [] rfl) a (ha.sub ⟨rfl, rfl, rfl, trivial⟩)
      · replace hF := ifN h13 hF
        refine W.exit ?_
        refine fun a ha => hK2 _ _ ?_ a ha
        refine W.seq fun K27 hK27 => ?_
        refine W.region ?_
        refine wl_move rfl rfl ?_
        refine wl_strlen Try.underlying9 rfl rfl ?_
        obtain ⟨u28, hu28, hF⟩ := bindE hF
        refine wl_call rfl Try.call138 (C_spec_l1In w4 (List.length x0 : Int) 1 8 _ hu28) rfl ?_
        rintro _ w29 ⟨rfl, hb30⟩
        refine ⟨_, rfl, ?_⟩
        have hB31 := hB5.trans (hb30.mono hB5.size)
        have hS32 := hS6.below hb30
        refine wl_assign rfl rfl ?_
        refine WL.nil ?_
        refine fun a ha => hK27 _ _ ?_ a ha
        refine W.ret ?_
        have hr := Option.some.inj hF
        subst hr
        exact rets (vs := [(.bool u28)]) hQ rfl ⟨rv_tmp rfl, trivial⟩ ⟨rfl, hB31⟩
theorem C_spec_tiCues (w0 : World) (x0 : (List (Int × Int))) (v0_0 : Value) (h0_0 : rdS ty_183 (· < w0.heap.size) w0 v0_0 x0) (x1 : (List (Int × (List UInt8)))) (v1_0 : Value) (h1_0 : rdS ty_44 (· < w0.heap.size) w0 v1_0 x1) (r : Bool) (hF : F_spec_tiCues x0 x1 = some r) :
    Calls Try.prog 217 [v0_0, v1_0].toArray w0 fun e w' => e = .returned (.bool r) ∧ Below w0.heap.size w0 w' := by
  refine calls_mk' Try.func217 rfl Try.ntmps217 rfl rfl fun Q hQ hP => ?_
  have hB : Below w0.heap.size w0 w0 := Below.refl _ _
  have hS : Sep w0.heap.size w0 [] := Sep.nil _ _
  unfold F_spec_tiCues at hF
  refine W.seq fun K1 hK1 => ?_
  refine W.region ?_
  refine wl_assign rfl rfl ?_
  refine WL.nil ?_
  refine fun a ha => hK1 _ _ ?_ a ha
  refine W.seq fun K2 hK2 => ?_
  refine W.seq fun K3 hK3 => ?_
  refine W.region ?_
  refine wl_move rfl rfl ?_
  refine wl_lenr (e := ty_44) (l := x1) Try.underlying24 rfl rfl h1_0 ?_
  refine wl_move rfl rfl ?_
  refine WL.nil ?_
  refine fun a ha => hK3 _ _ ?_ a ha
  refine W.block ?_
  refine W.loopk (fun m a w4 => ∃ (y7 : Int), St 62 [(0, v0_0), (1, v1_0), (9, v1_0), (10, (.int .i64 (List.length x1 : Int))), (11, (.int .i64 y7))] a ∧ Below w0.heap.size w0 w4 ∧ Sep w0.heap.size w4 [] ∧ F_spec_tiCues_L1 x1 x0 m y7 = some r) FU ?_ ?_
  ·
    exact fun a ha => ⟨0, ha.sub ⟨rfl, rfl, rfl, rfl, rfl, trivial⟩, hB, (hS.sel [] rfl), hF⟩
  ·
    rintro m10 a w4 ⟨y7, ha, hB5, hS6, hF⟩ KL9 hKL9
    refine W.at ?_ ha
    cases m10 with
    | zero => exact noneE hF
    | succ m10 =>
      obtain ⟨nx8, hnx8⟩ : ∃ k, k = F_spec_tiCues_L1 x1 x0 m10 := ⟨_, rfl⟩
      rw [F_spec_tiCues_L1, ← hnx8] at hF
      refine W.seq fun K11 hK11 => ?_
      refine W.region ?_
      refine wl_lss rfl rfl rfl ?_
      refine WL.nil ?_
      refine fun a ha => hK11 _ _ ?_ a ha
      refine W.seq fun K12 hK12 => ?_
      refine W.cond rfl (fun h13 => ?_) (fun h13 => ?_)
      · replace hF := ifP h13 hF
        refine W.skip ?_
        refine fun a ha => hK12 _ _ ?_ a ha
        refine W.seq fun K14 hK14 => ?_
        refine W.block ?_
        refine W.seq fun K15 hK15 => ?_
        refine W.region ?_
        refine wl_move rfl rfl ?_
        obtain ⟨u16, hu16, hF⟩ := bindE hF
        refine wl_index (e := ty_44) Try.underlying24 rfl rfl rfl h1_0 hu16 ?_
        rintro p17 _ rfl hp18
        refine wl_load_p (vs := [(.int .i64 u16.1), (.string (mkS u16.2))]) (v := (.agg #[(.int .i64 u16.1), (.string (mkS u16.2))])) tf_44 rfl rfl (hp18.ro hB5) rfl rfl ?_
        refine wl_alloc (cs := [(.int .i64 0), (.string (mkS []))]) tf_44 rfl rfl hB5 hS6 ?_
        intro b19 w20 hb21 hB22 hS23
        refine wl_assign rfl rfl ?_
        refine wl_store_blk (i := 0) (vs := [(.int .i64 u16.1), (.string (mkS u16.2))]) (cs' := [(.int .i64 u16.1), (.string (mkS u16.2))]) tf_44 rfl rfl rfl rfl hB22 hS23 rfl rfl ⟨rfl, rfl, trivial⟩ rfl ?_
        intro w24 hk27 hB25 hS26
        refine WL.nil ?_
        refine fun a ha => hK15 _ _ ?_ a ha
        refine W.seq fun K28 hK28 => ?_
        refine W.seq fun K29 hK29 => ?_
        obtain ⟨k34, hk34, hF⟩ := jE1 hF
        have hJ35 : ∀ (y33 : Bool) (w30 : World) (_ : k34 y33 = some r) (_ : Below w0.heap.size w0 w30) (_ : Sep w0.heap.size w30 [R.blk b19 44 [(.int .i64 u16.1), (.string (mkS u16.2))]]), ∀ a, St 62 [(0, v0_0), (1, v1_0), (5, (.int .i64 y7)), (6, (.pointer (some ⟨b19, 0, none⟩))), (9, v1_0), (10, (.int .i64 (List.length x1 : Int))), (11, (.int .i64 y7)), (43, (.bool y33))] a → K29 a w30 := by
          intro y33 w30 hF hB31 hS32
          subst hk34
          refine fun a ha => hK29 _ _ ?_ a ha
          refine W.cond rfl (fun h36 => ?_) (fun h36 => ?_)
          · replace hF := ifP h36 hF
            refine W.seq fun K37 hK37 => ?_
            refine W.region ?_
            refine wl_assign rfl rfl ?_
            refine WL.nil ?_
            refine fun a ha => hK37 _ _ ?_ a ha
            refine W.ret ?_
            have hr := Option.some.inj hF
            subst hr
            exact rets (vs := [(.bool false)]) hQ rfl ⟨rv_tmp rfl, trivial⟩ ⟨rfl, hB31⟩
          · replace hF := ifN h36 hF
            refine W.skip ?_
            refine fun a ha => hK28 _ _ ?_ a ha
            refine W.seq fun K38 hK38 => ?_
            refine W.region ?_
            refine wl_move rfl rfl ?_
            refine wl_move rfl rfl ?_
            obtain ⟨u39, hu39, hF⟩ := bindE hF
            refine wl_slice (e := ty_44) Try.underlying24 rfl rfl h1_0 hu39 (.inl ⟨rfl, rfl⟩) (.inr ⟨_, _, rfl, rfl⟩) ?_
            intro v40 hv41
            refine wl_lenr (e := ty_44) (l := u39) Try.underlying24 rfl rfl hv41 ?_
            refine wl_move rfl rfl ?_
            refine WL.nil ?_
            refine fun a ha => hK38 _ _ ?_ a ha
            refine W.block ?_
            refine W.loopk (fun m a w42 => ∃ (y45 : Int), St 62 [(0, v0_0), (1, v1_0), (6, (.pointer (some ⟨b19, 0, none⟩))), (9, v1_0), (10, (.int .i64 (List.length x1 : Int))), (11, (.int .i64 y7)), (46, v40), (47, (.int .i64 (List.length u39 : Int))), (48, (.int .i64 y45))] a ∧ Below w0.heap.size w0 w42 ∧ Sep w0.heap.size w42 [R.blk b19 44 [(.int .i64 u16.1), (.string (mkS u16.2))]] ∧ F_spec_tiCues_L2 u39 u16 nx8 y7 m y45 = some r) FU ?_ ?_
            ·
              exact fun a ha => ⟨0, ha.sub ⟨rfl, rfl, rfl, rfl, rfl, rfl, rfl, rfl, rfl, trivial⟩, hB31, (hS32.sel [0] rfl), hF⟩
            ·
              rintro m48 a w42 ⟨y45, ha, hB43, hS44, hF⟩ KL47 hKL47
              refine W.at ?_ ha
              cases m48 with
              | zero => exact noneE hF
              | succ m48 =>
                obtain ⟨nx46, hnx46⟩ : ∃ k, k = F_spec_tiCues_L2 u39 u16 nx8 y7 m48 := ⟨_, rfl⟩
                rw [F_spec_tiCues_L2, ← hnx46] at hF
                refine W.seq fun K49 hK49 => ?_
                refine W.region ?_
                refine wl_lss rfl rfl rfl ?_
                refine WL.nil ?_
                refine fun a ha => hK49 _ _ ?_ a ha
                refine W.seq fun K50 hK50 => ?_
                refine W.cond rfl (fun h51 => ?_) (fun h51 => ?_)
                · replace hF := ifP h51 hF
                  refine W.skip ?_
                  refine fun a ha => hK50 _ _ ?_ a ha
                  refine W.seq fun K52 hK52 => ?_
                  refine W.block ?_
                  refine W.seq fun K53 hK53 => ?_
                  refine W.region ?_
                  obtain ⟨u54, hu54, hF⟩ := bindE hF
                  refine wl_index (e := ty_44) Try.underlying24 rfl rfl rfl hv41 hu54 ?_
                  rintro p55 _ rfl hp56
                  refine wl_load_p (vs := [(.int .i64 u54.1), (.string (mkS u54.2))]) (v := (.agg #[(.int .i64 u54.1), (.string (mkS u54.2))])) tf_44 rfl rfl (hp56.ro hB43) rfl rfl ?_
                  refine wl_alloc (cs := [(.int .i64 0), (.string (mkS []))]) tf_44 rfl rfl hB43 hS44 ?_
                  intro b57 w58 hb59 hB60 hS61
                  refine wl_store_blk (i := 0) (vs := [(.int .i64 u54.1), (.string (mkS u54.2))]) (cs' := [(.int .i64 u54.1), (.string (mkS u54.2))]) tf_44 rfl rfl rfl rfl hB60 hS61 rfl rfl ⟨rfl, rfl, trivial⟩ rfl ?_
                  intro w62 hk65 hB63 hS64
                  refine WL.nil ?_
                  refine fun a ha => hK53 _ _ ?_ a ha
                  refine W.seq fun K66 hK66 => ?_
                  refine W.region ?_
                  refine wl_field (o := 1) (off' := 1) ff_44_1 rfl rfl rfl ?_
                  refine wl_load_blk (i := 0) (vs := [(.string (mkS u54.2))]) (v := (.string (mkS u54.2))) tf_9 rfl rfl hS64 rfl rfl rfl ?_
                  refine wl_field (o := 1) (off' := 1) ff_44_1 rfl rfl rfl ?_
                  refine wl_load_blk (i := 1) (vs := [(.string (mkS u16.2))]) (v := (.string (mkS u16.2))) tf_9 rfl rfl hS64 rfl rfl rfl ?_
                  refine wl_streql rfl rfl rfl ?_
                  refine WL.nil ?_
                  refine fun a ha => hK66 _ _ ?_ a ha
                  refine W.cond rfl (fun h67 => ?_) (fun h67 => ?_)
                  · replace hF := ifP h67 hF
                    refine W.seq fun K68 hK68 => ?_
                    refine W.region ?_
                    refine wl_assign rfl rfl ?_
                    refine WL.nil ?_
                    refine fun a ha => hK68 _ _ ?_ a ha
                    refine W.ret ?_
                    have hr := Option.some.inj hF
                    subst hr
                    exact rets (vs := [(.bool false)]) hQ rfl ⟨rv_tmp rfl, trivial⟩ ⟨rfl, hB63⟩
                  · replace hF := ifN h67 hF
                    refine W.skip ?_
                    refine fun a ha => hK52 _ _ ?_ a ha
                    refine W.region ?_
                    refine wl_add rfl rfl rfl ?_
                    refine wl_move rfl rfl ?_
                    refine WL.nil ?_
                    rw [hnx46] at hF
                    exact fun a ha => hKL47 a _ m48 (Nat.lt_succ_self m48) ⟨(w64 (y45 + 1)), ha.sub ⟨rfl, rfl, rfl, rfl, rfl, rfl, rfl, rfl, rfl, trivial⟩, hB63, (hS64.sel [1] rfl), hF⟩
                · replace hF := ifN h51 hF
                  refine W.exit ?_
                  refine fun a ha => hK14 _ _ ?_ a ha
                  refine W.region ?_
                  refine wl_add rfl rfl rfl ?_
                  refine wl_move rfl rfl ?_
                  refine WL.nil ?_
                  rw [hnx8] at hF
                  exact fun a ha => hKL9 a _ m10 (Nat.lt_succ_self m10) ⟨(w64 (y7 + 1)), ha.sub ⟨rfl, rfl, rfl, rfl, rfl, trivial⟩, hB43, (hS44.sel [] rfl), hF⟩
        refine W.regionH mixed_ [] hB25 hS26 ?_
        intro w69 hb70 hB71 hS72
        have hSW73 := KeepX.refl w69 []
        refine WH.takex (i := 0) rfl (by kernel_rfl) (by kernel_rfl) (by kernel_rfl) hP hSW73 ?_
        refine pr_field (o := 0) (off' := 0) ff_44_0 rfl rfl rfl ?_
        refine WH.takex (i := 1) rfl (by kernel_rfl) (by kernel_rfl) (by kernel_rfl) hP hSW73 ?_
        refine pr_load_blk (i := 0) (vs := [(.int .i64 u16.1)]) (v := (.int .i64 u16.1)) tf_3 rfl rfl hS72 rfl rfl rfl (by simp) ?_
        refine WH.takex (i := 2) rfl (by kernel_rfl) (by kernel_rfl) (by kernel_rfl) hP hSW73 ?_
        refine pr_move rfl rfl ?_
        refine WH.one (i := 3) (by kernel_rfl) rfl ?_
        obtain ⟨u74, hu74, hF⟩ := bindE hF
        refine wl_call rfl Try.call125 (C_spec_muCounts w69 x0 v0_0 (h0_0.ro hB71) _ hu74) rfl ?_
        rintro _ w75 ⟨rfl, hb76⟩
        refine ⟨_, rfl, ?_⟩
        have hB77 := hB71.trans (hb76.mono hB71.size)
        have hS78 := hS72.below hb76
        have hSW80 := hSW73.ext hb76
        refine WL.nil (WH.ret hSW80 ?_)
        refine WH.takex (i := 4) rfl (by kernel_rfl) (by kernel_rfl) (by kernel_rfl) hP hSW80 ?_
        refine pr_sub rfl rfl rfl ?_
        refine WH.one (i := 5) (by kernel_rfl) rfl ?_
        obtain ⟨u81, hu81, hF⟩ := bindE hF
        refine wl_call rfl Try.call138 (C_spec_l1In w75 u16.1 0 (w64 (u74 - 1)) _ hu81) rfl ?_
        rintro _ w82 ⟨rfl, hb83⟩
        refine ⟨_, rfl, ?_⟩
        have hB84 := hB77.trans (hb83.mono hB77.size)
        have hS85 := hS78.below hb83
        have hSW87 := hSW80.ext hb83
        refine WL.nil (WH.ret hSW87 ?_)
        refine WH.takex (i := 6) rfl (by kernel_rfl) (by kernel_rfl) (by kernel_rfl) hP hSW87 ?_
        refine pr_not rfl rfl ?_
        refine WH.takex (i := 7) rfl (by kernel_rfl) (by kernel_rfl) (by kernel_rfl) hP hSW87 ?_
        refine pr_move rfl rfl ?_
        rcases bE (!u81) with h88 | h88
        · replace hF := ifP h88 hF
          refine WH.off (i := 8) rfl (by kernel_rfl) (by kernel_rfl) (by kernel_rfl) hP rfl rfl h88 rfl hSW87 ?_
          refine WH.off (i := 9) rfl (by kernel_rfl) (by kernel_rfl) (by kernel_rfl) hP rfl rfl h88 rfl hSW87 ?_
          refine WH.off (i := 10) rfl (by kernel_rfl) (by kernel_rfl) (by kernel_rfl) hP rfl rfl h88 rfl hSW87 ?_
          refine WH.off (i := 11) rfl (by kernel_rfl) (by kernel_rfl) (by kernel_rfl) hP rfl rfl h88 rfl hSW87 ?_
          refine WH.takex (i := 12) rfl (by kernel_rfl) (by kernel_rfl) (by kernel_rfl) hP hSW87 ?_
          refine pr_pick_t rfl rfl h88 rfl ?_
          refine WH.takex (i := 13) rfl (by kernel_rfl) (by kernel_rfl) (by kernel_rfl) hP hSW87 ?_
          refine pr_move rfl rfl ?_
          refine WH.off (i := 14) rfl (by kernel_rfl) (by kernel_rfl) (by kernel_rfl) hP rfl rfl rfl rfl hSW87 ?_
          refine WH.off (i := 15) rfl (by kernel_rfl) (by kernel_rfl) (by kernel_rfl) hP rfl rfl rfl rfl hSW87 ?_
          refine WH.off (i := 16) rfl (by kernel_rfl) (by kernel_rfl) (by kernel_rfl) hP rfl rfl rfl rfl hSW87 ?_
          refine WH.offu (i := 17) rfl (by kernel_rfl) (by kernel_rfl) (by kernel_rfl) hP rfl rfl rfl hSW87 ?_
          refine WH.offu (i := 18) rfl (by kernel_rfl) (by kernel_rfl) (by kernel_rfl) hP rfl rfl rfl hSW87 ?_
          refine WH.offu (i := 19) rfl (by kernel_rfl) (by kernel_rfl) (by kernel_rfl) hP rfl rfl rfl hSW87 ?_
          refine WH.offu (i := 20) rfl (by kernel_rfl) (by kernel_rfl) (by kernel_rfl) hP rfl rfl rfl hSW87 ?_
          refine WH.offu (i := 21) rfl (by kernel_rfl) (by kernel_rfl) (by kernel_rfl) hP rfl rfl rfl hSW87 ?_
          refine WH.offu (i := 22) rfl (by kernel_rfl) (by kernel_rfl) (by kernel_rfl) hP rfl rfl rfl hSW87 ?_
          refine WH.offu (i := 23) rfl (by kernel_rfl) (by kernel_rfl) (by kernel_rfl) hP rfl rfl rfl hSW87 ?_
          refine WH.offu (i := 24) rfl (by kernel_rfl) (by kernel_rfl) (by kernel_rfl) hP rfl rfl rfl hSW87 ?_
          refine WH.offu (i := 25) rfl (by kernel_rfl) (by kernel_rfl) (by kernel_rfl) hP rfl rfl rfl hSW87 ?_
          refine WH.off (i := 26) rfl (by kernel_rfl) (by kernel_rfl) (by kernel_rfl) hP rfl rfl rfl rfl hSW87 ?_
          refine WH.takex (i := 27) rfl (by kernel_rfl) (by kernel_rfl) (by kernel_rfl) hP hSW87 ?_
          refine pr_pick_t rfl rfl rfl rfl ?_
          refine WH.done (by kernel_rfl) ?_
          exact fun a ha => hJ35 (true) _ hF hB84 (hS85.sel [0] rfl) a (ha.sub ⟨rfl, rfl, rfl, rfl, rfl, rfl, rfl, rfl, trivial⟩)
        · replace hF := ifN h88 hF
          refine WH.takexg (i := 8) rfl (by kernel_rfl) (by kernel_rfl) (by kernel_rfl) hP rfl rfl h88 hSW87 ?_
          refine pr_field (o := 1) (off' := 1) ff_44_1 rfl rfl rfl ?_
          refine WH.takexg (i := 9) rfl (by kernel_rfl) (by kernel_rfl) (by kernel_rfl) hP rfl rfl h88 hSW87 ?_
          refine pr_load_blk (i := 0) (vs := [(.string (mkS u16.2))]) (v := (.string (mkS u16.2))) tf_9 rfl rfl hS72 rfl rfl rfl (by simp) ?_
          refine WH.one (i := 10) (by kernel_rfl) rfl ?_
          refine wl_on rfl rfl h88 ?_
          obtain ⟨u89, hu89, hF⟩ := bindE hF
          refine wl_call rfl Try.call254 (C_spec_tiName w82 u16.2 _ hu89) rfl ?_
          rintro _ w90 ⟨rfl, hb91⟩
          refine ⟨_, rfl, ?_⟩
          have hB92 := hB84.trans (hb91.mono hB84.size)
          have hS93 := hS85.below hb91
          have hSW95 := hSW87.ext hb91
          refine WL.nil (WH.ret hSW95 ?_)
          refine WH.takexg (i := 11) rfl (by kernel_rfl) (by kernel_rfl) (by kernel_rfl) hP rfl rfl h88 hSW95 ?_
          refine pr_not rfl rfl ?_
          refine WH.takex (i := 12) rfl (by kernel_rfl) (by kernel_rfl) (by kernel_rfl) hP hSW95 ?_
          refine pr_pick_f rfl rfl h88 rfl ?_
          refine WH.takex (i := 13) rfl (by kernel_rfl) (by kernel_rfl) (by kernel_rfl) hP hSW95 ?_
          refine pr_move rfl rfl ?_
          rcases bE (!u89) with h96 | h96
          · replace hF := ifP h96 hF
            refine WH.off (i := 14) rfl (by kernel_rfl) (by kernel_rfl) (by kernel_rfl) hP rfl rfl h96 rfl hSW95 ?_
            refine WH.off (i := 15) rfl (by kernel_rfl) (by kernel_rfl) (by kernel_rfl) hP rfl rfl h96 rfl hSW95 ?_
            refine WH.off (i := 16) rfl (by kernel_rfl) (by kernel_rfl) (by kernel_rfl) hP rfl rfl h96 rfl hSW95 ?_
            refine WH.offu (i := 17) rfl (by kernel_rfl) (by kernel_rfl) (by kernel_rfl) hP rfl rfl rfl hSW95 ?_
            refine WH.offu (i := 18) rfl (by kernel_rfl) (by kernel_rfl) (by kernel_rfl) hP rfl rfl rfl hSW95 ?_
            refine WH.offu (i := 19) rfl (by kernel_rfl) (by kernel_rfl) (by kernel_rfl) hP rfl rfl rfl hSW95 ?_
            refine WH.offu (i := 20) rfl (by kernel_rfl) (by kernel_rfl) (by kernel_rfl) hP rfl rfl rfl hSW95 ?_
            refine WH.offu (i := 21) rfl (by kernel_rfl) (by kernel_rfl) (by kernel_rfl) hP rfl rfl rfl hSW95 ?_
            refine WH.offu (i := 22) rfl (by kernel_rfl) (by kernel_rfl) (by kernel_rfl) hP rfl rfl rfl hSW95 ?_
            refine WH.offu (i := 23) rfl (by kernel_rfl) (by kernel_rfl) (by kernel_rfl) hP rfl rfl rfl hSW95 ?_
            refine WH.offu (i := 24) rfl (by kernel_rfl) (by kernel_rfl) (by kernel_rfl) hP rfl rfl rfl hSW95 ?_
            refine WH.offu (i := 25) rfl (by kernel_rfl) (by kernel_rfl) (by kernel_rfl) hP rfl rfl rfl hSW95 ?_
            refine WH.off (i := 26) rfl (by kernel_rfl) (by kernel_rfl) (by kernel_rfl) hP rfl rfl h96 rfl hSW95 ?_
            refine WH.takex (i := 27) rfl (by kernel_rfl) (by kernel_rfl) (by kernel_rfl) hP hSW95 ?_
            refine pr_pick_t rfl rfl h96 rfl ?_
            refine WH.done (by kernel_rfl) ?_
            exact fun a ha => hJ35 (true) _ hF hB92 (hS93.sel [0] rfl) a (ha.sub ⟨rfl, rfl, rfl, rfl, rfl, rfl, rfl, rfl, trivial⟩)
          · replace hF := ifN h96 hF
            refine WH.takexg (i := 14) rfl (by kernel_rfl) (by kernel_rfl) (by kernel_rfl) hP rfl rfl h96 hSW95 ?_
            refine pr_move rfl rfl ?_
            refine WH.takexg (i := 15) rfl (by kernel_rfl) (by kernel_rfl) (by kernel_rfl) hP rfl rfl h96 hSW95 ?_
            refine pr_gtr rfl rfl rfl ?_
            refine WH.takexg (i := 16) rfl (by kernel_rfl) (by kernel_rfl) (by kernel_rfl) hP rfl rfl h96 hSW95 ?_
            refine pr_move rfl rfl ?_
            rcases bE (decide (0 < y7)) with h97 | h97
            · replace hF := ifP h97 hF
              refine WH.takexg (i := 17) rfl (by kernel_rfl) (by kernel_rfl) (by kernel_rfl) hP rfl rfl h97 hSW95 ?_
              refine pr_move rfl rfl ?_
              refine WH.takexg (i := 18) rfl (by kernel_rfl) (by kernel_rfl) (by kernel_rfl) hP rfl rfl h97 hSW95 ?_
              refine pr_move rfl rfl ?_
              refine WH.takexg (i := 19) rfl (by kernel_rfl) (by kernel_rfl) (by kernel_rfl) hP rfl rfl h97 hSW95 ?_
              refine pr_sub rfl rfl rfl ?_
              obtain ⟨u98, hu98, hF⟩ := bindE hF
              refine WH.takexg (i := 20) rfl (by kernel_rfl) (by kernel_rfl) (by kernel_rfl) hP rfl rfl h97 hSW95 ?_
              refine pr_index (e := ty_44) Try.underlying24 rfl rfl rfl h1_0 hu98 ?_
              rintro p99 _ rfl hp100
              refine WH.takexg (i := 21) rfl (by kernel_rfl) (by kernel_rfl) (by kernel_rfl) hP rfl rfl h97 hSW95 ?_
              refine pr_fieldp (o := 0) ff_44_0 rfl rfl ?_
              refine WH.takexg (i := 22) rfl (by kernel_rfl) (by kernel_rfl) (by kernel_rfl) hP rfl rfl h97 hSW95 ?_
              refine pr_load_p (vs := [(.int .i64 u98.1)]) (v := (.int .i64 u98.1)) tf_3 rfl rfl (EAt.addk (hp100.kx hB71 (by simp)) 0) rfl rfl ?_
              refine WH.takexg (i := 23) rfl (by kernel_rfl) (by kernel_rfl) (by kernel_rfl) hP rfl rfl h97 hSW95 ?_
              refine pr_field (o := 0) (off' := 0) ff_44_0 rfl rfl rfl ?_
              refine WH.takexg (i := 24) rfl (by kernel_rfl) (by kernel_rfl) (by kernel_rfl) hP rfl rfl h97 hSW95 ?_
              refine pr_load_blk (i := 0) (vs := [(.int .i64 u16.1)]) (v := (.int .i64 u16.1)) tf_3 rfl rfl hS72 rfl rfl rfl (by simp) ?_
              refine WH.takexg (i := 25) rfl (by kernel_rfl) (by kernel_rfl) (by kernel_rfl) hP rfl rfl h97 hSW95 ?_
              refine pr_geq rfl rfl rfl ?_
              refine WH.takexg (i := 26) rfl (by kernel_rfl) (by kernel_rfl) (by kernel_rfl) hP rfl rfl h96 hSW95 ?_
              refine pr_pick_t rfl rfl h97 rfl ?_
              refine WH.takex (i := 27) rfl (by kernel_rfl) (by kernel_rfl) (by kernel_rfl) hP hSW95 ?_
              refine pr_pick_f rfl rfl h96 rfl ?_
              refine WH.done (by kernel_rfl) ?_
              exact fun a ha => hJ35 ((decide (u16.1 ≤ u98.1))) _ hF hB92 (hS93.sel [0] rfl) a (ha.sub ⟨rfl, rfl, rfl, rfl, rfl, rfl, rfl, rfl, trivial⟩)
            · replace hF := ifN h97 hF
              refine WH.off (i := 17) rfl (by kernel_rfl) (by kernel_rfl) (by kernel_rfl) hP rfl rfl h97 rfl hSW95 ?_
              refine WH.off (i := 18) rfl (by kernel_rfl) (by kernel_rfl) (by kernel_rfl) hP rfl rfl h97 rfl hSW95 ?_
              refine WH.off (i := 19) rfl (by kernel_rfl) (by kernel_rfl) (by kernel_rfl) hP rfl rfl h97 rfl hSW95 ?_
              refine WH.off (i := 20) rfl (by kernel_rfl) (by kernel_rfl) (by kernel_rfl) hP rfl rfl h97 rfl hSW95 ?_
              refine WH.off (i := 21) rfl (by kernel_rfl) (by kernel_rfl) (by kernel_rfl) hP rfl rfl h97 rfl hSW95 ?_
              refine WH.off (i := 22) rfl (by kernel_rfl) (by kernel_rfl) (by kernel_rfl) hP rfl rfl h97 rfl hSW95 ?_
              refine WH.off (i := 23) rfl (by kernel_rfl) (by kernel_rfl) (by kernel_rfl) hP rfl rfl h97 rfl hSW95 ?_
              refine WH.off (i := 24) rfl (by kernel_rfl) (by kernel_rfl) (by kernel_rfl) hP rfl rfl h97 rfl hSW95 ?_
              refine WH.off (i := 25) rfl (by kernel_rfl) (by kernel_rfl) (by kernel_rfl) hP rfl rfl h97 rfl hSW95 ?_
              refine WH.takexg (i := 26) rfl (by kernel_rfl) (by kernel_rfl) (by kernel_rfl) hP rfl rfl h96 hSW95 ?_
              refine pr_pick_f rfl rfl h97 rfl ?_
              refine WH.takex (i := 27) rfl (by kernel_rfl) (by kernel_rfl) (by kernel_rfl) hP hSW95 ?_
              refine pr_pick_f rfl rfl h96 rfl ?_
              refine WH.done (by kernel_rfl) ?_
              exact fun a ha => hJ35 (false) _ hF hB92 (hS93.sel [0] rfl) a (ha.sub ⟨rfl, rfl, rfl, rfl, rfl, rfl, rfl, rfl, trivial⟩)
      · replace hF := ifN h13 hF
        refine W.exit ?_
        refine fun a ha => hK2 _ _ ?_ a ha
        refine W.seq fun K101 hK101 => ?_
        refine W.region ?_
        refine wl_move rfl rfl ?_
        refine wl_lenr (e := ty_44) (l := x1) Try.underlying24 rfl rfl h1_0 ?_
        refine wl_leq rfl rfl rfl ?_
        refine wl_assign rfl rfl ?_
        refine WL.nil ?_
        refine fun a ha => hK101 _ _ ?_ a ha
        refine W.ret ?_
        have hr := Option.some.inj hF
        subst hr
        exact rets (vs := [(.bool (decide ((List.length x1 : Int) ≤ 30)))]) hQ rfl ⟨rv_tmp rfl, trivial⟩ ⟨rfl, hB5⟩
theorem C_spec_tiGood (w0 : World) (x0 : (List (Int × Int))) (v0_0 : Value) (h0_0 : rdS ty_183 (· < w0.heap.size) w0 v0_0 x0) (x1 : (List (Int × (List UInt8)))) (v1_0 : Value) (h1_0 : rdS ty_44 (· < w0.heap.size) w0 v1_0 x1) (r : Bool) (hF : F_spec_tiGood x0 x1 = some r) :
    Calls Try.prog 122 [v0_0, v1_0].toArray w0 fun e w' => e = .returned (.bool r) ∧ Below w0.heap.size w0 w' := by
  refine calls_mk' Try.func122 rfl Try.ntmps122 rfl rfl fun Q hQ hP => ?_
  have hB : Below w0.heap.size w0 w0 := Below.refl _ _
  have hS : Sep w0.heap.size w0 [] := Sep.nil _ _
  unfold F_spec_tiGood at hF
  refine W.seq fun K1 hK1 => ?_
  refine W.region ?_
  refine wl_assign rfl rfl ?_
  refine WL.nil ?_
  refine fun a ha => hK1 _ _ ?_ a ha
  refine W.seq fun K2 hK2 => ?_
  obtain ⟨k7, hk7, hF⟩ := jE1 hF
  have hJ8 : ∀ (y6 : Bool) (w3 : World) (_ : k7 y6 = some r) (_ : Below w0.heap.size w0 w3) (_ : Sep w0.heap.size w3 []), ∀ a, St 12 [(4, (.bool y6))] a → K2 a w3 := by
    intro y6 w3 hF hB4 hS5
    subst hk7
    refine fun a ha => hK2 _ _ ?_ a ha
    refine W.ret ?_
    have hr := Option.some.inj hF
    subst hr
    exact rets (vs := [(.bool y6)]) hQ rfl ⟨rv_tmp rfl, trivial⟩ ⟨rfl, hB4⟩
  refine W.region ?_
  refine wl_move rfl rfl ?_
  obtain ⟨u9, hu9, hF⟩ := bindE hF
  refine wl_call rfl Try.call141 (C_spec_muGood w0 x0 v0_0 (h0_0.ro hB) _ hu9) rfl ?_
  rintro _ w10 ⟨rfl, hb11⟩
  refine ⟨_, rfl, ?_⟩
  have hB12 := hB.trans (hb11.mono hB.size)
  have hS13 := hS.below hb11
  refine wl_move rfl rfl ?_
  rcases bE u9 with h15 | h15
  · replace hF := ifP h15 hF
    refine wl_on rfl rfl h15 ?_
    refine wl_move rfl rfl ?_
    refine wl_on rfl rfl h15 ?_
    refine wl_move rfl rfl ?_
    refine wl_on rfl rfl h15 ?_
    obtain ⟨u16, hu16, hF⟩ := bindE hF
    refine wl_call rfl Try.call217 (C_spec_tiCues w10 x0 v0_0 (h0_0.ro hB12) x1 v1_0 (h1_0.ro hB12) _ hu16) rfl ?_
    rintro _ w17 ⟨rfl, hb18⟩
    refine ⟨_, rfl, ?_⟩
    have hB19 := hB12.trans (hb18.mono hB12.size)
    have hS20 := hS13.below hb18
    refine wl_pick_t rfl rfl h15 rfl ?_
    refine wl_assign rfl rfl ?_
    refine WL.nil ?_
    exact fun a ha => hJ8 (u16) _ hF hB19 (hS20.sel [] rfl) a (ha.sub ⟨rfl, trivial⟩)
  · replace hF := ifN h15 hF
    refine wl_off rfl rfl rfl h15 ?_
    refine wl_off rfl rfl rfl h15 ?_
    refine wl_off rfl rfl rfl h15 ?_
    refine wl_pick_f rfl rfl h15 rfl ?_
    refine wl_assign rfl rfl ?_
    refine WL.nil ?_
    exact fun a ha => hJ8 (false) _ hF hB12 (hS13.sel [] rfl) a (ha.sub ⟨rfl, trivial⟩)
theorem C_spec_muLasts (w0 : World) (x0 : Int) (x1 : Int) (r : Int) (hF : F_spec_muLasts x0 x1 = some r) :
    Calls Try.prog 218 [(.int .i64 x0), (.int .i64 x1)].toArray w0 fun e w' => e = .returned (.int .i64 r) ∧ Below w0.heap.size w0 w' := by
  refine calls_mk' Try.func218 rfl Try.ntmps218 rfl rfl fun Q hQ hP => ?_
  have hB : Below w0.heap.size w0 w0 := Below.refl _ _
  have hS : Sep w0.heap.size w0 [] := Sep.nil _ _
  unfold F_spec_muLasts at hF
  refine W.seq fun K1 hK1 => ?_
  refine W.region ?_
  refine wl_assign rfl rfl ?_
  refine WL.nil ?_
  refine fun a ha => hK1 _ _ ?_ a ha
  refine W.seq fun K2 hK2 => ?_
  refine W.region ?_
  refine wl_move rfl rfl ?_
  refine wl_mul rfl rfl rfl ?_
  refine wl_move rfl rfl ?_
  have h3 : x1 ≠ 0 := fun h3 => noneE (ifP h3 hF)
  replace hF := ifNP h3 hF
  refine wl_quo rfl rfl rfl h3 ?_
  refine wl_assign rfl rfl ?_
  refine WL.nil ?_
  refine fun a ha => hK2 _ _ ?_ a ha
  refine W.ret ?_
  have hr := Option.some.inj hF
  subst hr
  exact rets (vs := [(.int .i64 (w64 (Int.tdiv (w64 (60000 * x0)) x1)))]) hQ rfl ⟨rv_tmp rfl, trivial⟩ ⟨rfl, hB⟩
theorem C_spec_muTime (w0 : World) (x0 : (List (Int × Int))) (v0_0 : Value) (h0_0 : rdS ty_183 (· < w0.heap.size) w0 v0_0 x0) (x1 : Int) (r : Int) (hF : F_spec_muTime x0 x1 = some r) :
    Calls Try.prog 124 [v0_0, (.int .i64 x1)].toArray w0 fun e w' => e = .returned (.int .i64 r) ∧ Below w0.heap.size w0 w' := by
  refine calls_mk' Try.func124 rfl Try.ntmps124 rfl rfl fun Q hQ hP => ?_
  have hB : Below w0.heap.size w0 w0 := Below.refl _ _
  have hS : Sep w0.heap.size w0 [] := Sep.nil _ _
  unfold F_spec_muTime at hF
  refine W.seq fun K1 hK1 => ?_
  refine W.region ?_
  refine wl_assign rfl rfl ?_
  refine WL.nil ?_
  refine fun a ha => hK1 _ _ ?_ a ha
  refine W.seq fun K2 hK2 => ?_
  refine W.region ?_
  refine wl_assign rfl rfl ?_
  refine WL.nil ?_
  refine fun a ha => hK2 _ _ ?_ a ha
  refine W.seq fun K3 hK3 => ?_
  refine W.seq fun K4 hK4 => ?_
  refine W.region ?_
  refine wl_move rfl rfl ?_
  refine wl_lenr (e := ty_183) (l := x0) Try.underlying23 rfl rfl h0_0 ?_
  refine wl_move rfl rfl ?_
  refine WL.nil ?_
  refine fun a ha => hK4 _ _ ?_ a ha
  refine W.block ?_
  refine W.loopk (fun m a w5 => ∃ (y8 : Int) (y9 : Int) (y10 : Int), St 37 [(1, (.int .i64 y8)), (5, (.int .i64 y9)), (8, v0_0), (9, (.int .i64 (List.length x0 : Int))), (10, (.int .i64 y10))] a ∧ Below w0.heap.size w0 w5 ∧ Sep w0.heap.size w5 [] ∧ F_spec_muTime_L1 x0 m y8 y9 y10 = some r) FU ?_ ?_
  ·
    exact fun a ha => ⟨x1, 0, 0, ha.sub ⟨rfl, rfl, rfl, rfl, rfl, trivial⟩, hB, (hS.sel [] rfl), hF⟩
  ·
    rintro m13 a w5 ⟨y8, y9, y10, ha, hB6, hS7, hF⟩ KL12 hKL12
    refine W.at ?_ ha
    cases m13 with
    | zero => exact noneE hF
    | succ m13 =>
      obtain ⟨nx11, hnx11⟩ : ∃ k, k = F_spec_muTime_L1 x0 m13 := ⟨_, rfl⟩
      rw [F_spec_muTime_L1, ← hnx11] at hF
      refine W.seq fun K14 hK14 => ?_
      refine W.region ?_
      refine wl_lss rfl rfl rfl ?_
      refine WL.nil ?_
      refine fun a ha => hK14 _ _ ?_ a ha
      refine W.seq fun K15 hK15 => ?_
      refine W.cond rfl (fun h16 => ?_) (fun h16 => ?_)
      · replace hF := ifP h16 hF
        refine W.skip ?_
        refine fun a ha => hK15 _ _ ?_ a ha
        refine W.seq fun K17 hK17 => ?_
        refine W.block ?_
        refine W.seq fun K18 hK18 => ?_
        refine W.region ?_
        obtain ⟨u19, hu19, hF⟩ := bindE hF
        refine wl_index (e := ty_183) Try.underlying23 rfl rfl rfl h0_0 hu19 ?_
        rintro p20 _ rfl hp21
        refine wl_load_p (vs := [(.int .i64 u19.1), (.int .i64 u19.2)]) (v := (.agg #[(.int .i64 u19.1), (.int .i64 u19.2)])) tf_183 rfl rfl (hp21.ro hB6) rfl rfl ?_
        refine wl_alloc (cs := [(.int .i64 0), (.int .i64 0)]) tf_183 rfl rfl hB6 hS7 ?_
        intro b22 w23 hb24 hB25 hS26
        refine wl_store_blk (i := 0) (vs := [(.int .i64 u19.1), (.int .i64 u19.2)]) (cs' := [(.int .i64 u19.1), (.int .i64 u19.2)]) tf_183 rfl rfl rfl rfl hB25 hS26 rfl rfl ⟨rfl, rfl, trivial⟩ rfl ?_
        intro w27 hk30 hB28 hS29
        refine WL.nil ?_
        refine fun a ha => hK18 _ _ ?_ a ha
        refine W.seq fun K31 hK31 => ?_
        refine W.seq fun K32 hK32 => ?_
        refine W.region ?_
        refine wl_move rfl rfl ?_
        refine wl_field (o := 0) (off' := 0) ff_183_0 rfl rfl rfl ?_
        refine wl_load_blk (i := 0) (vs := [(.int .i64 u19.1)]) (v := (.int .i64 u19.1)) tf_3 rfl rfl hS29 rfl rfl rfl ?_
        refine wl_lss rfl rfl rfl ?_
        refine WL.nil ?_
        refine fun a ha => hK32 _ _ ?_ a ha
        refine W.cond rfl (fun h33 => ?_) (fun h33 => ?_)
        · replace hF := ifP h33 hF
          refine W.seq fun K34 hK34 => ?_
          refine W.region ?_
          refine wl_move rfl rfl ?_
          refine wl_move rfl rfl ?_
          refine wl_field (o := 1) (off' := 1) ff_183_1 rfl rfl rfl ?_
          refine wl_load_blk (i := 0) (vs := [(.int .i64 u19.2)]) (v := (.int .i64 u19.2)) tf_3 rfl rfl hS29 rfl rfl rfl ?_
          obtain ⟨u35, hu35, hF⟩ := bindE hF
          refine wl_call rfl Try.call218 (C_spec_muLasts w27 y8 u19.2 _ hu35) rfl ?_
          rintro _ w36 ⟨rfl, hb37⟩
          refine ⟨_, rfl, ?_⟩
          have hB38 := hB28.trans (hb37.mono hB28.size)
          have hS39 := hS29.below hb37
          refine wl_add rfl rfl rfl ?_
          refine wl_assign rfl rfl ?_
          refine WL.nil ?_
          refine fun a ha => hK34 _ _ ?_ a ha
          refine W.ret ?_
          have hr := Option.some.inj hF
          subst hr
          exact rets (vs := [(.int .i64 (w64 (y9 + u35)))]) hQ rfl ⟨rv_tmp rfl, trivial⟩ ⟨rfl, hB38⟩
        · replace hF := ifN h33 hF
          refine W.skip ?_
          refine fun a ha => hK31 _ _ ?_ a ha
          refine W.seq fun K41 hK41 => ?_
          refine W.region ?_
          refine wl_move rfl rfl ?_
          refine wl_field (o := 0) (off' := 0) ff_183_0 rfl rfl rfl ?_
          refine wl_load_blk (i := 0) (vs := [(.int .i64 u19.1)]) (v := (.int .i64 u19.1)) tf_3 rfl rfl hS29 rfl rfl rfl ?_
          refine wl_field (o := 1) (off' := 1) ff_183_1 rfl rfl rfl ?_
          refine wl_load_blk (i := 0) (vs := [(.int .i64 u19.2)]) (v := (.int .i64 u19.2)) tf_3 rfl rfl hS29 rfl rfl rfl ?_
          obtain ⟨u42, hu42, hF⟩ := bindE hF
          refine wl_call rfl Try.call218 (C_spec_muLasts w27 u19.1 u19.2 _ hu42) rfl ?_
          rintro _ w43 ⟨rfl, hb44⟩
          refine ⟨_, rfl, ?_⟩
          have hB45 := hB28.trans (hb44.mono hB28.size)
          have hS46 := hS29.below hb44
          refine wl_add rfl rfl rfl ?_
          refine wl_assign rfl rfl ?_
          refine WL.nil ?_
          refine fun a ha => hK41 _ _ ?_ a ha
          refine W.region ?_
          refine wl_move rfl rfl ?_
          refine wl_field (o := 0) (off' := 0) ff_183_0 rfl rfl rfl ?_
          refine wl_load_blk (i := 0) (vs := [(.int .i64 u19.1)]) (v := (.int .i64 u19.1)) tf_3 rfl rfl hS46 rfl rfl rfl ?_
          refine wl_sub rfl rfl rfl ?_
          refine wl_assign rfl rfl ?_
          refine WL.nil ?_
          refine fun a ha => hK17 _ _ ?_ a ha
          refine W.region ?_
          refine wl_add rfl rfl rfl ?_
          refine wl_move rfl rfl ?_
          refine WL.nil ?_
          rw [hnx11] at hF
          exact fun a ha => hKL12 a _ m13 (Nat.lt_succ_self m13) ⟨(w64 (y8 - u19.1)), (w64 (y9 + u42)), (w64 (y10 + 1)), ha.sub ⟨rfl, rfl, rfl, rfl, rfl, trivial⟩, hB45, (hS46.sel [] rfl), hF⟩
      · replace hF := ifN h16 hF
        refine W.exit ?_
        refine fun a ha => hK3 _ _ ?_ a ha
        refine W.seq fun K48 hK48 => ?_
        refine W.region ?_
        refine wl_move rfl rfl ?_
        refine wl_assign rfl rfl ?_
        refine WL.nil ?_
        refine fun a ha => hK48 _ _ ?_ a ha
        refine W.ret ?_
        have hr := Option.some.inj hF
        subst hr
        exact rets (vs := [(.int .i64 y9)]) hQ rfl ⟨rv_tmp rfl, trivial⟩ ⟨rfl, hB6⟩
theorem C_spec_tiTimes (w0 : World) (x0 : (List (Int × Int))) (v0_0 : Value) (h0_0 : rdS ty_183 (· < w0.heap.size) w0 v0_0 x0) (x1 : (List (Int × (List UInt8)))) (v1_0 : Value) (h1_0 : rdS ty_44 (· < w0.heap.size) w0 v1_0 x1) (r : (List Int)) (hF : F_spec_tiTimes x0 x1 = some r) :
    Calls Try.prog 123 [v0_0, v1_0].toArray w0 fun e w' => ∃ (q0 : Value) (G0 : List Nat), e = .returned q0 ∧ Below w0.heap.size w0 w' ∧ Sep w0.heap.size w' [R.own ty_3 G0 q0 r] := by
  refine calls_mk' Try.func123 rfl Try.ntmps123 rfl rfl fun Q hQ hP => ?_
  have hB : Below w0.heap.size w0 w0 := Below.refl _ _
  have hS : Sep w0.heap.size w0 [] := Sep.nil _ _
  unfold F_spec_tiTimes at hF
  refine W.seq fun K1 hK1 => ?_
  refine W.region ?_
  refine wl_assign rfl rfl ?_
  refine WL.nil ?_
  refine fun a ha => hK1 _ _ ?_ a ha
  refine W.seq fun K2 hK2 => ?_
  refine W.region ?_
  refine wl_assign rfl rfl ?_
  refine WL.nil ?_
  refine fun a ha => hK2 _ _ ?_ a ha
  refine W.seq fun K3 hK3 => ?_
  refine W.seq fun K4 hK4 => ?_
  refine W.region ?_
  refine wl_move rfl rfl ?_
  refine wl_lenr (e := ty_44) (l := x1) Try.underlying24 rfl rfl h1_0 ?_
  refine wl_move rfl rfl ?_
  refine WL.nil ?_
  refine fun a ha => hK4 _ _ ?_ a ha
  refine W.block ?_
  refine W.loopk (fun m a w5 => ∃ (l8 : (List Int)) (y11 : Int) (v9 : Value) (F10 : List Nat), St 23 [(0, v0_0), (5, v9), (8, v1_0), (9, (.int .i64 (List.length x1 : Int))), (10, (.int .i64 y11))] a ∧ Below w0.heap.size w0 w5 ∧ Sep w0.heap.size w5 [R.own ty_3 F10 v9 l8] ∧ F_spec_tiTimes_L1 x1 x0 m l8 y11 = some r) FU ?_ ?_
  ·
    have hS13 := hS.push0 (r := R.own ty_3 [] (.slice none 0 0) []) rfl fun _ => .inl ⟨rfl, rfl, rfl⟩
    exact fun a ha => ⟨[], 0, (.slice none 0 0), [], ha.sub ⟨rfl, rfl, rfl, rfl, rfl, trivial⟩, hB, (hS13.sel [0] rfl), hF⟩
  ·
    rintro m15 a w5 ⟨l8, y11, v9, F10, ha, hB6, hS7, hF⟩ KL14 hKL14
    refine W.at ?_ ha
    cases m15 with
    | zero => exact noneE hF
    | succ m15 =>
      obtain ⟨nx12, hnx12⟩ : ∃ k, k = F_spec_tiTimes_L1 x1 x0 m15 := ⟨_, rfl⟩
      rw [F_spec_tiTimes_L1, ← hnx12] at hF
      refine W.seq fun K16 hK16 => ?_
      refine W.region ?_
      refine wl_lss rfl rfl rfl ?_
      refine WL.nil ?_
      refine fun a ha => hK16 _ _ ?_ a ha
      refine W.seq fun K17 hK17 => ?_
      refine W.cond rfl (fun h18 => ?_) (fun h18 => ?_)
      · replace hF := ifP h18 hF
        refine W.skip ?_
        refine fun a ha => hK17 _ _ ?_ a ha
        refine W.seq fun K19 hK19 => ?_
        refine W.block ?_
        refine W.seq fun K20 hK20 => ?_
        refine W.region ?_
        obtain ⟨u21, hu21, hF⟩ := bindE hF
        refine wl_index (e := ty_44) Try.underlying24 rfl rfl rfl h1_0 hu21 ?_
        rintro p22 _ rfl hp23
        refine wl_load_p (vs := [(.int .i64 u21.1), (.string (mkS u21.2))]) (v := (.agg #[(.int .i64 u21.1), (.string (mkS u21.2))])) tf_44 rfl rfl (hp23.ro hB6) rfl rfl ?_
        refine wl_alloc (cs := [(.int .i64 0), (.string (mkS []))]) tf_44 rfl rfl hB6 hS7 ?_
        intro b24 w25 hb26 hB27 hS28
        refine wl_store_blk (i := 0) (vs := [(.int .i64 u21.1), (.string (mkS u21.2))]) (cs' := [(.int .i64 u21.1), (.string (mkS u21.2))]) tf_44 rfl rfl rfl rfl hB27 hS28 rfl rfl ⟨rfl, rfl, trivial⟩ rfl ?_
        intro w29 hk32 hB30 hS31
        refine WL.nil ?_
        refine fun a ha => hK20 _ _ ?_ a ha
        refine W.region ?_
        refine wl_move rfl rfl ?_
        refine wl_move rfl rfl ?_
        refine wl_field (o := 0) (off' := 0) ff_44_0 rfl rfl rfl ?_
        refine wl_load_blk (i := 0) (vs := [(.int .i64 u21.1)]) (v := (.int .i64 u21.1)) tf_3 rfl rfl hS31 rfl rfl rfl ?_
        obtain ⟨u33, hu33, hF⟩ := bindE hF
        refine wl_call rfl Try.call124 (C_spec_muTime w29 x0 v0_0 (h0_0.ro hB30) u21.1 _ hu33) rfl ?_
        rintro _ w34 ⟨rfl, hb35⟩
        refine ⟨_, rfl, ?_⟩
        have hB36 := hB30.trans (hb35.mono hB30.size)
        have hS37 := hS31.below hb35
        refine wl_lit (vs := [(.int .i64 u33)]) (l := [u33]) fl_3 Try.underlying29 rfl rfl rfl rfl rfl rfl hB36 hS37 ?_
        intro v39 F40 w41 hb42 hB43 hS44
        obtain ⟨u45, hu45, hF⟩ := bindE hF
        refine wl_append (i := 2) (S := (· < w41.heap.size)) fl_3 Try.underlying29 rfl rfl rfl hB43 hS44 rfl (hS44.own_ro (i := 0) rfl) hu45 ?_
        intro v46 F47 w48 hk49 hB50 hS51
        refine wl_assign rfl rfl ?_
        refine WL.nil ?_
        refine fun a ha => hK19 _ _ ?_ a ha
        refine W.region ?_
        refine wl_add rfl rfl rfl ?_
        refine wl_move rfl rfl ?_
        refine WL.nil ?_
        rw [hnx12] at hF
        exact fun a ha => hKL14 a _ m15 (Nat.lt_succ_self m15) ⟨u45, (w64 (y11 + 1)), v46, F47, ha.sub ⟨rfl, rfl, rfl, rfl, rfl, trivial⟩, hB50, (hS51.sel [2] rfl), hF⟩
      · replace hF := ifN h18 hF
        refine W.exit ?_
        refine fun a ha => hK3 _ _ ?_ a ha
        refine W.seq fun K52 hK52 => ?_
        refine W.region ?_
        refine wl_move rfl rfl ?_
        refine wl_assign rfl rfl ?_
        refine WL.nil ?_
        refine fun a ha => hK52 _ _ ?_ a ha
        refine W.ret ?_
        have hr := Option.some.inj hF
        subst hr
        exact rets (vs := [v9]) hQ rfl ⟨rv_tmp rfl, trivial⟩ ⟨v9, F10, rfl, hB6, hS7.sel [0] rfl⟩
theorem C_spec_LongestGap (w0 : World) (x0 : (List (Int × Int))) (v0_0 : Value) (h0_0 : rdS ty_183 (· < w0.heap.size) w0 v0_0 x0) (x1 : (List (Int × (List UInt8)))) (v1_0 : Value) (h1_0 : rdS ty_44 (· < w0.heap.size) w0 v1_0 x1) (r : (Int × Int × Bool)) (hF : F_spec_LongestGap x0 x1 = some r) :
    Calls Try.prog 11 [v0_0, v1_0].toArray w0 fun e w' => e = .returned (.tuple #[(.int .i64 r.1), (.int .i64 r.2.1), (.bool r.2.2)]) ∧ Below w0.heap.size w0 w' := by
  refine calls_mk' Try.func11 rfl Try.ntmps11 rfl rfl fun Q hQ hP => ?_
  have hB : Below w0.heap.size w0 w0 := Below.refl _ _
  have hS : Sep w0.heap.size w0 [] := Sep.nil _ _
  unfold F_spec_LongestGap at hF
  refine W.seq fun K1 hK1 => ?_
  refine W.region ?_
  refine wl_assign rfl rfl ?_
  refine wl_assign rfl rfl ?_
  refine wl_assign rfl rfl ?_
  refine WL.nil ?_
  refine fun a ha => hK1 _ _ ?_ a ha
  refine W.seq fun K2 hK2 => ?_
  refine W.seq fun K3 hK3 => ?_
  obtain ⟨k8, hk8, hF⟩ := jE1 hF
  have hJ9 : ∀ (y7 : Bool) (w4 : World) (_ : k8 y7 = some r) (_ : Below w0.heap.size w0 w4) (_ : Sep w0.heap.size w4 []), ∀ a, St 67 [(0, v0_0), (1, v1_0), (18, (.bool y7))] a → K3 a w4 := by
    intro y7 w4 hF hB5 hS6
    subst hk8
    refine fun a ha => hK3 _ _ ?_ a ha
    refine W.cond rfl (fun h10 => ?_) (fun h10 => ?_)
    · replace hF := ifP h10 hF
      refine W.seq fun K11 hK11 => ?_
      refine W.region ?_
      refine wl_assign rfl rfl ?_
      refine wl_assign rfl rfl ?_
      refine wl_assign rfl rfl ?_
      refine WL.nil ?_
      refine fun a ha => hK11 _ _ ?_ a ha
      refine W.ret ?_
      have hr := Option.some.inj hF
      subst hr
      exact rets (vs := [(.int .i64 0), (.int .i64 0), (.bool false)]) hQ rfl ⟨rv_tmp rfl, rv_tmp rfl, rv_tmp rfl, trivial⟩ ⟨rfl, hB5⟩
    · replace hF := ifN h10 hF
      refine W.skip ?_
      refine fun a ha => hK2 _ _ ?_ a ha
      refine W.seq fun K12 hK12 => ?_
      refine W.region ?_
      refine wl_move rfl rfl ?_
      refine wl_move rfl rfl ?_
      obtain ⟨u13, hu13, hF⟩ := bindE hF
      refine wl_call rfl Try.call123 (C_spec_tiTimes w4 x0 v0_0 (h0_0.ro hB5) x1 v1_0 (h1_0.ro hB5) _ hu13) rfl ?_
      rintro _ w16 ⟨v14, F15, rfl, hb17, hM20⟩
      refine ⟨_, rfl, ?_⟩
      have hB18 := hB5.trans (hb17.mono hB5.size)
      have hS19 := hS6.join hb17 hM20 hB5.size
      refine wl_move rfl rfl ?_
      refine wl_move rfl rfl ?_
      obtain ⟨u21, hu21, hF⟩ := bindE hF
      refine wl_call rfl Try.call125 (C_spec_muCounts w16 x0 v0_0 (h0_0.ro hB18) _ hu21) rfl ?_
      rintro _ w22 ⟨rfl, hb23⟩
      refine ⟨_, rfl, ?_⟩
      have hB24 := hB18.trans (hb23.mono hB18.size)
      have hS25 := hS19.below hb23
      obtain ⟨u27, hu27, hF⟩ := bindE hF
      refine wl_call rfl Try.call124 (C_spec_muTime w22 x0 v0_0 (h0_0.ro hB24) u21 _ hu27) rfl ?_
      rintro _ w28 ⟨rfl, hb29⟩
      refine ⟨_, rfl, ?_⟩
      have hB30 := hB24.trans (hb29.mono hB24.size)
      have hS31 := hS25.below hb29
      refine wl_lit (vs := [(.int .i64 u27)]) (l := [u27]) fl_3 Try.underlying29 rfl rfl rfl rfl rfl rfl hB30 hS31 ?_
      intro v33 F34 w35 hb36 hB37 hS38
      obtain ⟨u39, hu39, hF⟩ := bindE hF
      refine wl_append (i := 1) (S := (· < w35.heap.size)) fl_3 Try.underlying29 rfl rfl rfl hB37 hS38 rfl (hS38.own_ro (i := 0) rfl) hu39 ?_
      intro v40 F41 w42 hk43 hB44 hS45
      refine wl_assign rfl rfl ?_
      refine WL.nil ?_
      refine fun a ha => hK12 _ _ ?_ a ha
      refine W.seq fun K46 hK46 => ?_
      refine W.region ?_
      refine wl_assign rfl rfl ?_
      refine WL.nil ?_
      refine fun a ha => hK46 _ _ ?_ a ha
      refine W.seq fun K47 hK47 => ?_
      refine W.seq fun K48 hK48 => ?_
      refine W.region ?_
      refine wl_move rfl rfl ?_
      refine wl_lenr (e := ty_44) (l := x1) Try.underlying24 rfl rfl h1_0 ?_
      refine wl_move rfl rfl ?_
      refine WL.nil ?_
      refine fun a ha => hK48 _ _ ?_ a ha
      refine W.block ?_
      refine W.loopk (fun m a w49 => ∃ (y52 : Int) (y53 : Int), St 67 [(7, v40), (8, (.int .i64 y52)), (29, (.int .i64 (List.length x1 : Int))), (30, (.int .i64 y53))] a ∧ Below w0.heap.size w0 w49 ∧ Sep w0.heap.size w49 [R.own ty_3 F41 v40 u39] ∧ F_spec_LongestGap_L1 x1 u39 m y52 y53 = some r) FU ?_ ?_
      ·
        exact fun a ha => ⟨0, 0, ha.sub ⟨rfl, rfl, rfl, rfl, trivial⟩, hB44, (hS45.sel [1] rfl), hF⟩
      ·
        rintro m56 a w49 ⟨y52, y53, ha, hB50, hS51, hF⟩ KL55 hKL55
        refine W.at ?_ ha
        cases m56 with
        | zero => exact noneE hF
        | succ m56 =>
          obtain ⟨nx54, hnx54⟩ : ∃ k, k = F_spec_LongestGap_L1 x1 u39 m56 := ⟨_, rfl⟩
          rw [F_spec_LongestGap_L1, ← hnx54] at hF
          refine W.seq fun K57 hK57 => ?_
          refine W.region ?_
          refine wl_lss rfl rfl rfl ?_
          refine WL.nil ?_
          refine fun a ha => hK57 _ _ ?_ a ha
          refine W.seq fun K58 hK58 => ?_
          refine W.cond rfl (fun h59 => ?_) (fun h59 => ?_)
          · replace hF := ifP h59 hF
            refine W.skip ?_
            refine fun a ha => hK58 _ _ ?_ a ha
            refine W.seq fun K60 hK60 => ?_
            obtain ⟨k65, hk65, hF⟩ := jE1 hF
            have hJ66 : ∀ (y64 : Int) (w61 : World) (_ : k65 y64 = some r) (_ : Below w0.heap.size w0 w61) (_ : Sep w0.heap.size w61 [R.own ty_3 F41 v40 u39]), ∀ a, St 67 [(7, v40), (8, (.int .i64 y64)), (29, (.int .i64 (List.length x1 : Int))), (30, (.int .i64 y53))] a → K60 a w61 := by
              intro y64 w61 hF hB62 hS63
              subst hk65
              refine fun a ha => hK60 _ _ ?_ a ha
              refine W.region ?_
              refine wl_add rfl rfl rfl ?_
              refine wl_move rfl rfl ?_
              refine WL.nil ?_
              rw [hnx54] at hF
              exact fun a ha => hKL55 a _ m56 (Nat.lt_succ_self m56) ⟨y64, (w64 (y53 + 1)), ha.sub ⟨rfl, rfl, rfl, rfl, trivial⟩, hB62, (hS63.sel [0] rfl), hF⟩
            refine W.block ?_
            refine W.seq fun K67 hK67 => ?_
            refine W.region ?_
            refine wl_move rfl rfl ?_
            refine wl_assign rfl rfl ?_
            refine WL.nil ?_
            refine fun a ha => hK67 _ _ ?_ a ha
            refine W.seq fun K68 hK68 => ?_
            refine W.regionH mixed_ [] hB50 hS51 ?_
            intro w69 hb70 hB71 hS72
            have hSW73 := KeepX.refl w69 []
            refine WH.takex (i := 0) rfl (by kernel_rfl) (by kernel_rfl) (by kernel_rfl) hP hSW73 ?_
            refine pr_move rfl rfl ?_
            refine WH.takex (i := 1) rfl (by kernel_rfl) (by kernel_rfl) (by kernel_rfl) hP hSW73 ?_
            refine pr_move rfl rfl ?_
            refine WH.takex (i := 2) rfl (by kernel_rfl) (by kernel_rfl) (by kernel_rfl) hP hSW73 ?_
            refine pr_add rfl rfl rfl ?_
            obtain ⟨u74, hu74, hF⟩ := bindE hF
            refine WH.takex (i := 3) rfl (by kernel_rfl) (by kernel_rfl) (by kernel_rfl) hP hSW73 ?_
            refine pr_indexo (e := ty_3) (i := 0) Try.underlying29 rfl rfl rfl hS72 rfl hu74 ?_
            rintro p75 _ rfl hp76 ho77
            refine WH.takex (i := 4) rfl (by kernel_rfl) (by kernel_rfl) (by kernel_rfl) hP hSW73 ?_
            refine pr_load_p (vs := [(.int .i64 u74)]) (v := (.int .i64 u74)) tf_3 rfl rfl (hp76.kx0) rfl rfl ?_
            refine WH.takex (i := 5) rfl (by kernel_rfl) (by kernel_rfl) (by kernel_rfl) hP hSW73 ?_
            refine pr_move rfl rfl ?_
            refine WH.takex (i := 6) rfl (by kernel_rfl) (by kernel_rfl) (by kernel_rfl) hP hSW73 ?_
            refine pr_move rfl rfl ?_
            obtain ⟨u78, hu78, hF⟩ := bindE hF
            refine WH.takex (i := 7) rfl (by kernel_rfl) (by kernel_rfl) (by kernel_rfl) hP hSW73 ?_
            refine pr_indexo (e := ty_3) (i := 0) Try.underlying29 rfl rfl rfl hS72 rfl hu78 ?_
            rintro p79 _ rfl hp80 ho81
            refine WH.takex (i := 8) rfl (by kernel_rfl) (by kernel_rfl) (by kernel_rfl) hP hSW73 ?_
            refine pr_load_p (vs := [(.int .i64 u78)]) (v := (.int .i64 u78)) tf_3 rfl rfl (hp80.kx0) rfl rfl ?_
            refine WH.takex (i := 9) rfl (by kernel_rfl) (by kernel_rfl) (by kernel_rfl) hP hSW73 ?_
            refine pr_sub rfl rfl rfl ?_
            refine WH.takex (i := 10) rfl (by kernel_rfl) (by kernel_rfl) (by kernel_rfl) hP hSW73 ?_
            refine pr_move rfl rfl ?_
            refine WH.takex (i := 11) rfl (by kernel_rfl) (by kernel_rfl) (by kernel_rfl) hP hSW73 ?_
            refine pr_move rfl rfl ?_
            refine WH.takex (i := 12) rfl (by kernel_rfl) (by kernel_rfl) (by kernel_rfl) hP hSW73 ?_
            refine pr_add rfl rfl rfl ?_
            obtain ⟨u82, hu82, hF⟩ := bindE hF
            refine WH.takex (i := 13) rfl (by kernel_rfl) (by kernel_rfl) (by kernel_rfl) hP hSW73 ?_
            refine pr_indexo (e := ty_3) (i := 0) Try.underlying29 rfl rfl rfl hS72 rfl hu82 ?_
            rintro p83 _ rfl hp84 ho85
            refine WH.takex (i := 14) rfl (by kernel_rfl) (by kernel_rfl) (by kernel_rfl) hP hSW73 ?_
            refine pr_load_p (vs := [(.int .i64 u82)]) (v := (.int .i64 u82)) tf_3 rfl rfl (hp84.kx0) rfl rfl ?_
            refine WH.takex (i := 15) rfl (by kernel_rfl) (by kernel_rfl) (by kernel_rfl) hP hSW73 ?_
            refine pr_move rfl rfl ?_
            refine WH.takex (i := 16) rfl (by kernel_rfl) (by kernel_rfl) (by kernel_rfl) hP hSW73 ?_
            refine pr_move rfl rfl ?_
            obtain ⟨u86, hu86, hF⟩ := bindE hF
            refine WH.takex (i := 17) rfl (by kernel_rfl) (by kernel_rfl) (by kernel_rfl) hP hSW73 ?_
            refine pr_indexo (e := ty_3) (i := 0) Try.underlying29 rfl rfl rfl hS72 rfl hu86 ?_
            rintro p87 _ rfl hp88 ho89
            refine WH.takex (i := 18) rfl (by kernel_rfl) (by kernel_rfl) (by kernel_rfl) hP hSW73 ?_
            refine pr_load_p (vs := [(.int .i64 u86)]) (v := (.int .i64 u86)) tf_3 rfl rfl (hp88.kx0) rfl rfl ?_
            refine WH.takex (i := 19) rfl (by kernel_rfl) (by kernel_rfl) (by kernel_rfl) hP hSW73 ?_
            refine pr_sub rfl rfl rfl ?_
            refine WH.takex (i := 20) rfl (by kernel_rfl) (by kernel_rfl) (by kernel_rfl) hP hSW73 ?_
            refine pr_gtr rfl rfl rfl ?_
            refine WH.done (by kernel_rfl) ?_
            refine fun a ha => hK68 _ _ ?_ a ha
            refine W.cond rfl (fun h90 => ?_) (fun h90 => ?_)
            · replace hF := ifP h90 hF
              refine W.region ?_
              refine wl_move rfl rfl ?_
              refine wl_assign rfl rfl ?_
              refine WL.nil ?_
              exact fun a ha => hJ66 (y53) _ hF hB71 (hS72.sel [0] rfl) a (ha.sub ⟨rfl, rfl, rfl, rfl, trivial⟩)
            · replace hF := ifN h90 hF
              refine W.skip ?_
              exact fun a ha => hJ66 (y52) _ hF hB71 (hS72.sel [0] rfl) a (ha.sub ⟨rfl, rfl, rfl, rfl, trivial⟩)
          · replace hF := ifN h59 hF
            refine W.exit ?_
            refine fun a ha => hK47 _ _ ?_ a ha
            refine W.seq fun K91 hK91 => ?_
            refine W.regionH mixed_ [] hB50 hS51 ?_
            intro w92 hb93 hB94 hS95
            have hSW96 := KeepX.refl w92 []
            refine WH.takex (i := 0) rfl (by kernel_rfl) (by kernel_rfl) (by kernel_rfl) hP hSW96 ?_
            refine pr_move rfl rfl ?_
            refine WH.takex (i := 1) rfl (by kernel_rfl) (by kernel_rfl) (by kernel_rfl) hP hSW96 ?_
            refine pr_move rfl rfl ?_
            refine WH.takex (i := 2) rfl (by kernel_rfl) (by kernel_rfl) (by kernel_rfl) hP hSW96 ?_
            refine pr_move rfl rfl ?_
            refine WH.takex (i := 3) rfl (by kernel_rfl) (by kernel_rfl) (by kernel_rfl) hP hSW96 ?_
            refine pr_add rfl rfl rfl ?_
            obtain ⟨u97, hu97, hF⟩ := bindE hF
            refine WH.takex (i := 4) rfl (by kernel_rfl) (by kernel_rfl) (by kernel_rfl) hP hSW96 ?_
            refine pr_indexo (e := ty_3) (i := 0) Try.underlying29 rfl rfl rfl hS95 rfl hu97 ?_
            rintro p98 _ rfl hp99 ho100
            refine WH.takex (i := 5) rfl (by kernel_rfl) (by kernel_rfl) (by kernel_rfl) hP hSW96 ?_
            refine pr_load_p (vs := [(.int .i64 u97)]) (v := (.int .i64 u97)) tf_3 rfl rfl (hp99.kx0) rfl rfl ?_
            refine WH.takex (i := 6) rfl (by kernel_rfl) (by kernel_rfl) (by kernel_rfl) hP hSW96 ?_
            refine pr_move rfl rfl ?_
            refine WH.takex (i := 7) rfl (by kernel_rfl) (by kernel_rfl) (by kernel_rfl) hP hSW96 ?_
            refine pr_move rfl rfl ?_
            obtain ⟨u101, hu101, hF⟩ := bindE hF
            refine WH.takex (i := 8) rfl (by kernel_rfl) (by kernel_rfl) (by kernel_rfl) hP hSW96 ?_
            refine pr_indexo (e := ty_3) (i := 0) Try.underlying29 rfl rfl rfl hS95 rfl hu101 ?_
            rintro p102 _ rfl hp103 ho104
            refine WH.takex (i := 9) rfl (by kernel_rfl) (by kernel_rfl) (by kernel_rfl) hP hSW96 ?_
            refine pr_load_p (vs := [(.int .i64 u101)]) (v := (.int .i64 u101)) tf_3 rfl rfl (hp103.kx0) rfl rfl ?_
            refine WH.takex (i := 10) rfl (by kernel_rfl) (by kernel_rfl) (by kernel_rfl) hP hSW96 ?_
            refine pr_sub rfl rfl rfl ?_
            refine WH.takex (i := 11) rfl (by kernel_rfl) (by kernel_rfl) (by kernel_rfl) hP hSW96 ?_
            refine pr_assign rfl rfl ?_
            refine WH.takex (i := 12) rfl (by kernel_rfl) (by kernel_rfl) (by kernel_rfl) hP hSW96 ?_
            refine pr_assign rfl rfl ?_
            refine WH.takex (i := 13) rfl (by kernel_rfl) (by kernel_rfl) (by kernel_rfl) hP hSW96 ?_
            refine pr_assign rfl rfl ?_
            refine WH.done (by kernel_rfl) ?_
            refine fun a ha => hK91 _ _ ?_ a ha
            refine W.ret ?_
            have hr := Option.some.inj hF
            subst hr
            exact rets (vs := [(.int .i64 y52), (.int .i64 (w64 (u97 - u101))), (.bool true)]) hQ rfl ⟨rv_tmp rfl, rv_tmp rfl, rv_tmp rfl, trivial⟩ ⟨rfl, hB94⟩
  refine W.region ?_
  refine wl_move rfl rfl ?_
  refine wl_move rfl rfl ?_
  obtain ⟨u105, hu105, hF⟩ := bindE hF
  refine wl_call rfl Try.call122 (C_spec_tiGood w0 x0 v0_0 (h0_0.ro hB) x1 v1_0 (h1_0.ro hB) _ hu105) rfl ?_
  rintro _ w106 ⟨rfl, hb107⟩
  refine ⟨_, rfl, ?_⟩
  have hB108 := hB.trans (hb107.mono hB.size)
  have hS109 := hS.below hb107
  refine wl_not rfl rfl ?_
  refine wl_move rfl rfl ?_
  rcases bE (!u105) with h111 | h111
  · replace hF := ifP h111 hF
    refine wl_off rfl rfl rfl h111 ?_
    refine wl_off rfl rfl rfl h111 ?_
    refine wl_off rfl rfl rfl h111 ?_
    refine wl_pick_t rfl rfl h111 rfl ?_
    refine WL.nil ?_
    exact fun a ha => hJ9 (true) _ hF hB108 (hS109.sel [] rfl) a (ha.sub ⟨rfl, rfl, rfl, trivial⟩)
  · replace hF := ifN h111 hF
    refine wl_on rfl rfl h111 ?_
    refine wl_move rfl rfl ?_
    refine wl_on rfl rfl h111 ?_
    refine wl_lenr (e := ty_44) (l := x1) Try.underlying24 rfl rfl h1_0 ?_
    refine wl_on rfl rfl h111 ?_
    refine wl_eql rfl rfl rfl ?_
    refine wl_pick_f rfl rfl h111 rfl ?_
    refine WL.nil ?_
    exact fun a ha => hJ9 (((List.length x1 : Int) == 0)) _ hF hB108 (hS109.sel [] rfl) a (ha.sub ⟨rfl, rfl, rfl, trivial⟩)
theorem C_impl_CueTimes (w0 : World) (x0 : (List (Int × Int))) (v0_0 : Value) (h0_0 : rdS ty_183 (· < w0.heap.size) w0 v0_0 x0) (x1 : (List (Int × (List UInt8)))) (v1_0 : Value) (h1_0 : rdS ty_44 (· < w0.heap.size) w0 v1_0 x1) (r : ((List Int) × Bool)) (hF : F_impl_CueTimes x0 x1 = some r) :
    Calls Try.prog 12 [v0_0, v1_0].toArray w0 fun e w' => ∃ (q0 : Value) (G0 : List Nat), e = .returned (.tuple #[q0, (.bool r.2)]) ∧ Below w0.heap.size w0 w' ∧ Sep w0.heap.size w' [R.own ty_3 G0 q0 r.1] := by
  refine calls_mk' Try.func12 rfl Try.ntmps12 rfl rfl fun Q hQ hP => ?_
  have hB : Below w0.heap.size w0 w0 := Below.refl _ _
  have hS : Sep w0.heap.size w0 [] := Sep.nil _ _
  unfold F_impl_CueTimes at hF
  refine W.seq fun K1 hK1 => ?_
  refine W.region ?_
  refine wl_assign rfl rfl ?_
  refine wl_assign rfl rfl ?_
  refine WL.nil ?_
  refine fun a ha => hK1 _ _ ?_ a ha
  refine W.seq fun K2 hK2 => ?_
  refine W.seq fun K3 hK3 => ?_
  refine W.region ?_
  refine wl_move rfl rfl ?_
  refine wl_move rfl rfl ?_
  obtain ⟨u4, hu4, hF⟩ := bindE hF
  refine wl_call rfl Try.call118 (C_impl_haveCues w0 x0 v0_0 (h0_0.ro hB) x1 v1_0 (h1_0.ro hB) _ hu4) rfl ?_
  rintro _ w5 ⟨rfl, hb6⟩
  refine ⟨_, rfl, ?_⟩
  have hB7 := hB.trans (hb6.mono hB.size)
  have hS8 := hS.below hb6
  refine wl_not rfl rfl ?_
  refine WL.nil ?_
  refine fun a ha => hK3 _ _ ?_ a ha
  refine W.cond rfl (fun h10 => ?_) (fun h10 => ?_)
  · replace hF := ifP h10 hF
    refine W.seq fun K11 hK11 => ?_
    refine W.region ?_
    refine wl_assign rfl rfl ?_
    refine wl_assign rfl rfl ?_
    refine WL.nil ?_
    refine fun a ha => hK11 _ _ ?_ a ha
    refine W.ret ?_
    have hS12 := hS8.push0 (r := R.own ty_3 [] (.slice none 0 0) []) rfl fun _ => .inl ⟨rfl, rfl, rfl⟩
    have hr := Option.some.inj hF
    subst hr
    exact rets (vs := [(.slice none 0 0), (.bool false)]) hQ rfl ⟨rv_tmp rfl, rv_tmp rfl, trivial⟩ ⟨(.slice none 0 0), [], rfl, hB7, hS12.sel [0] rfl⟩
  · replace hF := ifN h10 hF
    refine W.skip ?_
    refine fun a ha => hK2 _ _ ?_ a ha
    refine W.seq fun K13 hK13 => ?_
    refine W.region ?_
    refine wl_move rfl rfl ?_
    refine wl_move rfl rfl ?_
    obtain ⟨u14, hu14, hF⟩ := bindE hF
    refine wl_call rfl Try.call119 (C_impl_cueTimes w5 x0 v0_0 (h0_0.ro hB7) x1 v1_0 (h1_0.ro hB7) _ hu14) rfl ?_
    rintro _ w17 ⟨v15, F16, rfl, hb18, hM21⟩
    refine ⟨_, rfl, ?_⟩
    have hB19 := hB7.trans (hb18.mono hB7.size)
    have hS20 := hS8.join hb18 hM21 hB7.size
    refine wl_assign rfl rfl ?_
    refine wl_assign rfl rfl ?_
    refine WL.nil ?_
    refine fun a ha => hK13 _ _ ?_ a ha
    refine W.ret ?_
    have hr := Option.some.inj hF
    subst hr
    exact rets (vs := [v15, (.bool true)]) hQ rfl ⟨rv_tmp rfl, rv_tmp rfl, trivial⟩ ⟨v15, F16, rfl, hB19, hS20.sel [0] rfl⟩
theorem C_spec_CueTimes (w0 : World) (x0 : (List (Int × Int))) (v0_0 : Value) (h0_0 : rdS ty_183 (· < w0.heap.size) w0 v0_0 x0) (x1 : (List (Int × (List UInt8)))) (v1_0 : Value) (h1_0 : rdS ty_44 (· < w0.heap.size) w0 v1_0 x1) (r : ((List Int) × Bool)) (hF : F_spec_CueTimes x0 x1 = some r) :
    Calls Try.prog 13 [v0_0, v1_0].toArray w0 fun e w' => ∃ (q0 : Value) (G0 : List Nat), e = .returned (.tuple #[q0, (.bool r.2)]) ∧ Below w0.heap.size w0 w' ∧ Sep w0.heap.size w' [R.own ty_3 G0 q0 r.1] := by
  refine calls_mk' Try.func13 rfl Try.ntmps13 rfl rfl fun Q hQ hP => ?_
  have hB : Below w0.heap.size w0 w0 := Below.refl _ _
  have hS : Sep w0.heap.size w0 [] := Sep.nil _ _
  unfold F_spec_CueTimes at hF
  refine W.seq fun K1 hK1 => ?_
  refine W.region ?_
  refine wl_assign rfl rfl ?_
  refine wl_assign rfl rfl ?_
  refine WL.nil ?_
  refine fun a ha => hK1 _ _ ?_ a ha
  refine W.seq fun K2 hK2 => ?_
  refine W.seq fun K3 hK3 => ?_
  refine W.region ?_
  refine wl_move rfl rfl ?_
  refine wl_move rfl rfl ?_
  obtain ⟨u4, hu4, hF⟩ := bindE hF
  refine wl_call rfl Try.call122 (C_spec_tiGood w0 x0 v0_0 (h0_0.ro hB) x1 v1_0 (h1_0.ro hB) _ hu4) rfl ?_
  rintro _ w5 ⟨rfl, hb6⟩
  refine ⟨_, rfl, ?_⟩
  have hB7 := hB.trans (hb6.mono hB.size)
  have hS8 := hS.below hb6
  refine wl_not rfl rfl ?_
  refine WL.nil ?_
  refine fun a ha => hK3 _ _ ?_ a ha
  refine W.cond rfl (fun h10 => ?_) (fun h10 => ?_)
  · replace hF := ifP h10 hF
    refine W.seq fun K11 hK11 => ?_
    refine W.region ?_
    refine wl_assign rfl rfl ?_
    refine wl_assign rfl rfl ?_
    refine WL.nil ?_
    refine fun a ha => hK11 _ _ ?_ a ha
    refine W.ret ?_
    have hS12 := hS8.push0 (r := R.own ty_3 [] (.slice none 0 0) []) rfl fun _ => .inl ⟨rfl, rfl, rfl⟩
    have hr := Option.some.inj hF
    subst hr
    exact rets (vs := [(.slice none 0 0), (.bool false)]) hQ rfl ⟨rv_tmp rfl, rv_tmp rfl, trivial⟩ ⟨(.slice none 0 0), [], rfl, hB7, hS12.sel [0] rfl⟩
  · replace hF := ifN h10 hF
    refine W.skip ?_
    refine fun a ha => hK2 _ _ ?_ a ha
    refine W.seq fun K13 hK13 => ?_
    refine W.region ?_
    refine wl_move rfl rfl ?_
    refine wl_move rfl rfl ?_
    obtain ⟨u14, hu14, hF⟩ := bindE hF
    refine wl_call rfl Try.call123 (C_spec_tiTimes w5 x0 v0_0 (h0_0.ro hB7) x1 v1_0 (h1_0.ro hB7) _ hu14) rfl ?_
    rintro _ w17 ⟨v15, F16, rfl, hb18, hM21⟩
    refine ⟨_, rfl, ?_⟩
    have hB19 := hB7.trans (hb18.mono hB7.size)
    have hS20 := hS8.join hb18 hM21 hB7.size
    refine wl_assign rfl rfl ?_
    refine wl_assign rfl rfl ?_
    refine WL.nil ?_
    refine fun a ha => hK13 _ _ ?_ a ha
    refine W.ret ?_
    have hr := Option.some.inj hF
    subst hr
    exact rets (vs := [v15, (.bool true)]) hQ rfl ⟨rv_tmp rfl, rv_tmp rfl, trivial⟩ ⟨v15, F16, rfl, hB19, hS20.sel [0] rfl⟩
theorem C_spec_l1Cur__countOf__mut__box (w0 : World) (x0 : ((List Int) × Int × Int)) (b0 : Nat) (v0_0 : Value) (h0_0 : rdS ty_5 (Out (fps [R.blk b0 131 [v0_0, (.int .i64 x0.2.1), (.int .u64 x0.2.2)]]) w0) w0 v0_0 x0.1) (x1 : (List (Int × Int))) (v1_0 : Value) (h1_0 : rdS ty_183 (Out (fps [R.blk b0 131 [v0_0, (.int .i64 x0.2.1), (.int .u64 x0.2.2)]]) w0) w0 v1_0 x1) (hS0 : Sep 0 w0 [R.blk b0 131 [v0_0, (.int .i64 x0.2.1), (.int .u64 x0.2.2)]]) (r : (Int × ((List Int) × Int × Int))) (hF : F_spec_l1Cur__countOf__mut__box x0 x1 = some r) :
    Calls Try.prog 127 [(.pointer (some ⟨b0, 0, none⟩)), v1_0].toArray w0 fun e w' => e = .returned (.int .i64 r.1) ∧ Below 0 (wE w0) w' ∧ Sep 0 w' [R.rest w0 (fps [R.blk b0 131 [v0_0, (.int .i64 x0.2.1), (.int .u64 x0.2.2)]]), R.blk b0 131 [v0_0, (.int .i64 r.2.2.1), (.int .u64 r.2.2.2)]] := by
  refine calls_mk' Try.func127 rfl Try.ntmps127 rfl rfl fun Q hQ hP => ?_
  have hB : Below (wE w0).heap.size (wE w0) w0 := wE_below w0
  have hS : Sep (wE w0).heap.size w0 [R.rest w0 (fps [R.blk b0 131 [v0_0, (.int .i64 x0.2.1), (.int .u64 x0.2.2)]]), R.blk b0 131 [v0_0, (.int .i64 x0.2.1), (.int .u64 x0.2.2)]] := hS0.rest
  unfold F_spec_l1Cur__countOf__mut__box at hF
  refine W.seq fun K1 hK1 => ?_
  refine W.region ?_
  refine wl_assign rfl rfl ?_
  refine WL.nil ?_
  refine fun a ha => hK1 _ _ ?_ a ha
  refine W.seq fun K2 hK2 => ?_
  refine W.region ?_
  refine wl_assign rfl rfl ?_
  refine WL.nil ?_
  refine fun a ha => hK2 _ _ ?_ a ha
  refine W.seq fun K3 hK3 => ?_
  obtain ⟨k8, hk8, hF⟩ := jE1 hF
  have hJ9 : ∀ (y7 : Int) (w4 : World) (_ : k8 y7 = some r) (_ : Below (wE w0).heap.size (wE w0) w4) (_ : Sep (wE w0).heap.size w4 [R.rest w0 (fps [R.blk b0 131 [v0_0, (.int .i64 x0.2.1), (.int .u64 x0.2.2)]]), R.blk b0 131 [v0_0, (.int .i64 x0.2.1), (.int .u64 x0.2.2)]]), ∀ a, St 27 [(0, (.pointer (some ⟨b0, 0, none⟩))), (5, (.int .i64 y7))] a → K3 a w4 := by
    intro y7 w4 hF hB5 hS6
    subst hk8
    refine fun a ha => hK3 _ _ ?_ a ha
    refine W.seq fun K10 hK10 => ?_
    refine W.region ?_
    refine wl_move rfl rfl ?_
    refine wl_move rfl rfl ?_
    refine wl_move rfl rfl ?_
    obtain ⟨u11, hu11, hF⟩ := bindE hF
    refine wl_call rfl Try.call132 (C_spec_l1Cur__pick__mut__box w4 x0 b0 v0_0 (h0_0.rsto (hS6.sel [0, 1] rfl)) y7 (hS6.sel [1] rfl).base0 _ hu11) rfl ?_
    rintro _ w12 ⟨rfl, hE13, hM14⟩
    refine ⟨_, rfl, ?_⟩
    have hB15 := hS6.takeB [1] rfl (M := [R.blk b0 131 [v0_0, (.int .i64 x0.2.1), (.int .u64 x0.2.2)]]) rfl hB5 hE13 hM14
    have hS16 : Sep (wE w0).heap.size w12 [R.blk b0 131 [v0_0, (.int .i64 u11.2.2.1), (.int .u64 u11.2.2.2)], R.rest w0 (fps [R.blk b0 131 [v0_0, (.int .i64 x0.2.1), (.int .u64 x0.2.2)]])] := hS6.take [1] [0] rfl (M := [R.blk b0 131 [v0_0, (.int .i64 x0.2.1), (.int .u64 x0.2.2)]]) rfl hM14 hB5.size
    refine wl_move rfl rfl ?_
    refine wl_move rfl rfl ?_
    obtain ⟨u17, hu17, hF⟩ := bindE hF
    refine wl_call rfl Try.call132 (C_spec_l1Cur__pick__mut__box w12 (x0.1, u11.2.2.1, u11.2.2.2) b0 v0_0 (h0_0.rsto (hS16.sel [1, 0] rfl)) y7 (hS16.sel [0] rfl).base0 _ hu17) rfl ?_
    rintro _ w18 ⟨rfl, hE19, hM20⟩
    refine ⟨_, rfl, ?_⟩
    have hB21 := hS16.takeB [0] rfl (M := [R.blk b0 131 [v0_0, (.int .i64 u11.2.2.1), (.int .u64 u11.2.2.2)]]) rfl hB15 hE19 hM20
    have hS22 : Sep (wE w0).heap.size w18 [R.blk b0 131 [v0_0, (.int .i64 u17.2.2.1), (.int .u64 u17.2.2.2)], R.rest w0 (fps [R.blk b0 131 [v0_0, (.int .i64 x0.2.1), (.int .u64 x0.2.2)]])] := hS16.take [0] [1] rfl (M := [R.blk b0 131 [v0_0, (.int .i64 u11.2.2.1), (.int .u64 u11.2.2.2)]]) rfl hM20 hB15.size
    refine wl_move rfl rfl ?_
    refine wl_sub rfl rfl rfl ?_
    refine wl_move rfl rfl ?_
    refine wl_move rfl rfl ?_
    refine wl_move rfl rfl ?_
    refine wl_add rfl rfl rfl ?_
    refine wl_lit (vs := [(.int .i64 (-1)), (.int .i64 (w64 (y7 + 1)))]) (l := [(-1), (w64 (y7 + 1))]) fl_3 Try.underlying29 rfl rfl rfl rfl rfl rfl hB21 hS22 ?_
    intro v23 F24 w25 hb26 hB27 hS28
    obtain ⟨u29, hu29, hF⟩ := bindE hF
    refine wl_call rfl Try.call136 (C_spec_l1Cur__among__mut__box w25 (x0.1, u17.2.2.1, u17.2.2.2) b0 v0_0 (h0_0.rsto (hS28.sel [2, 1] rfl)) [(-1), (w64 (y7 + 1))] v23 (own_out (hS28.sel [0, 1] rfl)) (hS28.sel [1] rfl).base0 _ hu29) rfl ?_
    rintro _ w30 ⟨rfl, hE31, hM32⟩
    refine ⟨_, rfl, ?_⟩
    have hB33 := hS28.takeB [1] rfl (M := [R.blk b0 131 [v0_0, (.int .i64 u17.2.2.1), (.int .u64 u17.2.2.2)]]) rfl hB27 hE31 hM32
    have hS34 : Sep (wE w0).heap.size w30 [R.blk b0 131 [v0_0, (.int .i64 u29.2.2.1), (.int .u64 u29.2.2.2)], R.own ty_3 F24 v23 [(-1), (w64 (y7 + 1))], R.rest w0 (fps [R.blk b0 131 [v0_0, (.int .i64 x0.2.1), (.int .u64 x0.2.2)]])] := hS28.take [1] [0, 2] rfl (M := [R.blk b0 131 [v0_0, (.int .i64 u17.2.2.1), (.int .u64 u17.2.2.2)]]) rfl hM32 hB27.size
    refine wl_lit (vs := [(.int .i64 0), (.int .i64 u11.1), (.int .i64 u17.1), (.int .i64 (w64 (y7 - 1))), (.int .i64 y7), (.int .i64 u29.1)]) (l := [0, u11.1, u17.1, (w64 (y7 - 1)), y7, u29.1]) fl_3 Try.underlying29 rfl rfl rfl rfl rfl rfl hB33 hS34 ?_
    intro v35 F36 w37 hb38 hB39 hS40
    obtain ⟨u41, hu41, hF⟩ := bindE hF
    refine wl_call rfl Try.call136 (C_spec_l1Cur__among__mut__box w37 (x0.1, u29.2.2.1, u29.2.2.2) b0 v0_0 (h0_0.rsto (hS40.sel [3, 1] rfl)) [0, u11.1, u17.1, (w64 (y7 - 1)), y7, u29.1] v35 (own_out (hS40.sel [0, 1] rfl)) (hS40.sel [1] rfl).base0 _ hu41) rfl ?_
    rintro _ w42 ⟨rfl, hE43, hM44⟩
    refine ⟨_, rfl, ?_⟩
    have hB45 := hS40.takeB [1] rfl (M := [R.blk b0 131 [v0_0, (.int .i64 u29.2.2.1), (.int .u64 u29.2.2.2)]]) rfl hB39 hE43 hM44
    have hS46 : Sep (wE w0).heap.size w42 [R.blk b0 131 [v0_0, (.int .i64 u41.2.2.1), (.int .u64 u41.2.2.2)], R.own ty_3 F36 v35 [0, u11.1, u17.1, (w64 (y7 - 1)), y7, u29.1], R.own ty_3 F24 v23 [(-1), (w64 (y7 + 1))], R.rest w0 (fps [R.blk b0 131 [v0_0, (.int .i64 x0.2.1), (.int .u64 x0.2.2)]])] := hS40.take [1] [0, 2, 3] rfl (M := [R.blk b0 131 [v0_0, (.int .i64 u29.2.2.1), (.int .u64 u29.2.2.2)]]) rfl hM44 hB39.size
    refine wl_assign rfl rfl ?_
    refine WL.nil ?_
    refine fun a ha => hK10 _ _ ?_ a ha
    refine W.ret ?_
    have hr := Option.some.inj hF
    subst hr
    exact rets (vs := [(.int .i64 u41.1)]) hQ rfl ⟨rv_tmp rfl, trivial⟩ ⟨rfl, hB45, hS46.sel [3, 0] rfl⟩
  refine W.seq fun K47 hK47 => ?_
  refine W.region ?_
  refine wl_move rfl rfl ?_
  obtain ⟨u48, hu48, hF⟩ := bindE hF
  refine wl_call rfl Try.call141 (C_spec_muGood w0 x1 v1_0 (h1_0.rst (i := 0) hS rfl) _ hu48) rfl ?_
  rintro _ w49 ⟨rfl, hb50⟩
  refine ⟨_, rfl, ?_⟩
  have hB51 := hB.trans (hb50.mono hB.size)
  have hS52 := hS.below hb50
  refine WL.nil ?_
  refine fun a ha => hK47 _ _ ?_ a ha
  refine W.cond rfl (fun h54 => ?_) (fun h54 => ?_)
  · replace hF := ifP h54 hF
    refine W.region ?_
    refine wl_move rfl rfl ?_
    obtain ⟨u55, hu55, hF⟩ := bindE hF
    refine wl_call rfl Try.call125 (C_spec_muCounts w49 x1 v1_0 (h1_0.rst (i := 0) hS52 rfl) _ hu55) rfl ?_
    rintro _ w56 ⟨rfl, hb57⟩
    refine ⟨_, rfl, ?_⟩
    have hB58 := hB51.trans (hb57.mono hB51.size)
    have hS59 := hS52.below hb57
    refine wl_assign rfl rfl ?_
    refine WL.nil ?_
    exact fun a ha => hJ9 (u55) _ hF hB58 (hS59.sel [0, 1] rfl) a (ha.sub ⟨rfl, rfl, trivial⟩)
  · replace hF := ifN h54 hF
    refine W.skip ?_
    exact fun a ha => hJ9 (1) _ hF hB51 (hS52.sel [0, 1] rfl) a (ha.sub ⟨rfl, rfl, trivial⟩)
theorem C_spec_DrawNextCue (w0 : World) (x0 : (List Int)) (v0_0 : Value) (h0_0 : rdS ty_5 (· < w0.heap.size) w0 v0_0 x0) (r : ((List (Int × Int)) × (List (Int × (List UInt8))) × Int)) (hF : F_spec_DrawNextCue x0 = some r) :
    Calls Try.prog 14 [v0_0].toArray w0 fun e w' => ∃ (q0 : Value) (G0 : List Nat) (q1 : Value) (G1 : List Nat), e = .returned (.tuple #[q0, q1, (.int .i64 r.2.2)]) ∧ Below w0.heap.size w0 w' ∧ Sep w0.heap.size w' [R.own ty_183 G0 q0 r.1, R.own ty_44 G1 q1 r.2.1] := by
  refine calls_mk' Try.func14 rfl Try.ntmps14 rfl rfl fun Q hQ hP => ?_
  have hB : Below w0.heap.size w0 w0 := Below.refl _ _
  have hS : Sep w0.heap.size w0 [] := Sep.nil _ _
  unfold F_spec_DrawNextCue at hF
  refine W.seq fun K1 hK1 => ?_
  refine W.region ?_
  refine wl_assign rfl rfl ?_
  refine wl_assign rfl rfl ?_
  refine wl_assign rfl rfl ?_
  refine WL.nil ?_
  refine fun a ha => hK1 _ _ ?_ a ha
  refine W.seq fun K2 hK2 => ?_
  refine W.region ?_
  refine wl_move rfl rfl ?_
  refine wl_build (zs := [(.slice none 0 0), (.int .i64 0), (.int .u64 0)]) (out := [v0_0, (.int .i64 0), (.int .u64 0)]) (vs := [v0_0]) (css := [[v0_0]]) tf_131 pl_131 rfl rfl (by simp only [List.map_cons, List.map_nil, cells_one ((h0_0.ro hB).one)] <;> rfl) rfl rfl ?_
  refine wl_box (cs := [v0_0, (.int .i64 0), (.int .u64 0)]) rfl rfl rfl hB hS ?_
  intro b3 w4 hb5 hB6 hS7
  refine wl_assign rfl rfl ?_
  refine WL.nil ?_
  refine fun a ha => hK2 _ _ ?_ a ha
  refine W.seq fun K8 hK8 => ?_
  refine W.region ?_
  refine wl_move rfl rfl ?_
  obtain ⟨u9, hu9, hF⟩ := bindE hF
  refine wl_call rfl Try.call126 (C_spec_l1Cur__cues__mut__box w4 (x0, 0, 0) b3 v0_0 (h0_0.oldo hB6 (hS7.sel [0] rfl)) (hS7.sel [0] rfl).base0 _ hu9) rfl ?_
  rintro _ w10 ⟨v15, F16, v17, F18, rfl, hE11, hM12⟩
  refine ⟨_, rfl, ?_⟩
  have hB13 := hS7.takeB [0] rfl (M := [R.blk b3 131 [v0_0, (.int .i64 0), (.int .u64 0)]]) rfl hB6 hE11 hM12
  have hS14 : Sep w0.heap.size w10 [R.blk b3 131 [v0_0, (.int .i64 u9.2.2.2.1), (.int .u64 u9.2.2.2.2)], R.own ty_183 F16 v15 u9.1, R.own ty_44 F18 v17 u9.2.1] := hS7.take [0] [] rfl (M := [R.blk b3 131 [v0_0, (.int .i64 0), (.int .u64 0)]]) rfl hM12 hB6.size
  refine wl_move rfl rfl ?_
  refine wl_extract rfl rfl rfl ?_
  refine wl_extract rfl rfl rfl ?_
  refine wl_assign rfl rfl ?_
  refine wl_assign rfl rfl ?_
  refine WL.nil ?_
  refine fun a ha => hK8 _ _ ?_ a ha
  refine W.seq fun K19 hK19 => ?_
  refine W.region ?_
  refine wl_move rfl rfl ?_
  refine wl_move rfl rfl ?_
  refine wl_move rfl rfl ?_
  refine wl_move rfl rfl ?_
  obtain ⟨u20, hu20, hF⟩ := bindE hF
  refine wl_call rfl Try.call127 (C_spec_l1Cur__countOf__mut__box w10 (x0, u9.2.2.2.1, u9.2.2.2.2) b3 v0_0 (h0_0.oldo hB13 (hS14.sel [0] rfl)) u9.1 v15 (own_out (hS14.sel [1, 0] rfl)) (hS14.sel [0] rfl).base0 _ hu20) rfl ?_
  rintro _ w21 ⟨rfl, hE22, hM23⟩
  refine ⟨_, rfl, ?_⟩
  have hB24 := hS14.takeB [0] rfl (M := [R.blk b3 131 [v0_0, (.int .i64 u9.2.2.2.1), (.int .u64 u9.2.2.2.2)]]) rfl hB13 hE22 hM23
  have hS25 : Sep w0.heap.size w21 [R.blk b3 131 [v0_0, (.int .i64 u20.2.2.1), (.int .u64 u20.2.2.2)], R.own ty_183 F16 v15 u9.1, R.own ty_44 F18 v17 u9.2.1] := hS14.take [0] [1, 2] rfl (M := [R.blk b3 131 [v0_0, (.int .i64 u9.2.2.2.1), (.int .u64 u9.2.2.2.2)]]) rfl hM23 hB13.size
  refine wl_assign rfl rfl ?_
  refine wl_assign rfl rfl ?_
  refine wl_assign rfl rfl ?_
  refine WL.nil ?_
  refine fun a ha => hK19 _ _ ?_ a ha
  refine W.ret ?_
  have hr := Option.some.inj hF
  subst hr
  exact rets (vs := [v15, v17, (.int .i64 u20.1)]) hQ rfl ⟨rv_tmp rfl, rv_tmp rfl, rv_tmp rfl, trivial⟩ ⟨v15, F16, v17, F18, rfl, hB24, hS25.sel [1, 2] rfl⟩
theorem C_impl_NextCue (w0 : World) (x0 : (List (Int × Int))) (v0_0 : Value) (h0_0 : rdS ty_183 (· < w0.heap.size) w0 v0_0 x0) (x1 : (List (Int × (List UInt8)))) (v1_0 : Value) (h1_0 : rdS ty_44 (· < w0.heap.size) w0 v1_0 x1) (x2 : Int) (r : (Int × Bool)) (hF : F_impl_NextCue x0 x1 x2 = some r) :
    Calls Try.prog 15 [v0_0, v1_0, (.int .i64 x2)].toArray w0 fun e w' => e = .returned (.tuple #[(.int .i64 r.1), (.bool r.2)]) ∧ Below w0.heap.size w0 w' := by
  refine calls_mk' Try.func15 rfl Try.ntmps15 rfl rfl fun Q hQ hP => ?_
  have hB : Below w0.heap.size w0 w0 := Below.refl _ _
  have hS : Sep w0.heap.size w0 [] := Sep.nil _ _
  unfold F_impl_NextCue at hF
  refine W.seq fun K1 hK1 => ?_
  refine W.region ?_
  refine wl_assign rfl rfl ?_
  refine wl_assign rfl rfl ?_
  refine WL.nil ?_
  refine fun a ha => hK1 _ _ ?_ a ha
  refine W.seq fun K2 hK2 => ?_
  refine W.seq fun K3 hK3 => ?_
  obtain ⟨k8, hk8, hF⟩ := jE1 hF
  have hJ9 : ∀ (y7 : Bool) (w4 : World) (_ : k8 y7 = some r) (_ : Below w0.heap.size w0 w4) (_ : Sep w0.heap.size w4 []), ∀ a, St 35 [(1, v1_0), (2, (.int .i64 x2)), (21, (.bool y7))] a → K3 a w4 := by
    intro y7 w4 hF hB5 hS6
    subst hk8
    refine fun a ha => hK3 _ _ ?_ a ha
    refine W.cond rfl (fun h10 => ?_) (fun h10 => ?_)
    · replace hF := ifP h10 hF
      refine W.seq fun K11 hK11 => ?_
      refine W.region ?_
      refine wl_assign rfl rfl ?_
      refine wl_assign rfl rfl ?_
      refine WL.nil ?_
      refine fun a ha => hK11 _ _ ?_ a ha
      refine W.ret ?_
      have hr := Option.some.inj hF
      subst hr
      exact rets (vs := [(.int .i64 0), (.bool false)]) hQ rfl ⟨rv_tmp rfl, rv_tmp rfl, trivial⟩ ⟨rfl, hB5⟩
    · replace hF := ifN h10 hF
      refine W.skip ?_
      refine fun a ha => hK2 _ _ ?_ a ha
      refine W.seq fun K12 hK12 => ?_
      refine W.seq fun K13 hK13 => ?_
      refine W.region ?_
      refine wl_move rfl rfl ?_
      refine wl_lenr (e := ty_44) (l := x1) Try.underlying24 rfl rfl h1_0 ?_
      refine wl_move rfl rfl ?_
      refine WL.nil ?_
      refine fun a ha => hK13 _ _ ?_ a ha
      refine W.block ?_
      refine W.loopk (fun m a w14 => ∃ (y17 : Int), St 35 [(2, (.int .i64 x2)), (22, v1_0), (23, (.int .i64 (List.length x1 : Int))), (24, (.int .i64 y17))] a ∧ Below w0.heap.size w0 w14 ∧ Sep w0.heap.size w14 [] ∧ F_impl_NextCue_L1 x1 x2 m y17 = some r) FU ?_ ?_
      ·
        exact fun a ha => ⟨0, ha.sub ⟨rfl, rfl, rfl, rfl, trivial⟩, hB5, (hS6.sel [] rfl), hF⟩
      ·
        rintro m20 a w14 ⟨y17, ha, hB15, hS16, hF⟩ KL19 hKL19
        refine W.at ?_ ha
        cases m20 with
        | zero => exact noneE hF
        | succ m20 =>
          obtain ⟨nx18, hnx18⟩ : ∃ k, k = F_impl_NextCue_L1 x1 x2 m20 := ⟨_, rfl⟩
          rw [F_impl_NextCue_L1, ← hnx18] at hF
          refine W.seq fun K21 hK21 => ?_
          refine W.region ?_
          refine wl_lss rfl rfl rfl ?_
          refine WL.nil ?_
          refine fun a ha => hK21 _ _ ?_ a ha
          refine W.seq fun K22 hK22 => ?_
          refine W.cond rfl (fun h23 => ?_) (fun h23 => ?_)
          · replace hF := ifP h23 hF
            refine W.skip ?_
            refine fun a ha => hK22 _ _ ?_ a ha
            refine W.seq fun K24 hK24 => ?_
            refine W.block ?_
            refine W.seq fun K25 hK25 => ?_
            refine W.region ?_
            refine wl_move rfl rfl ?_
            obtain ⟨u26, hu26, hF⟩ := bindE hF
            refine wl_index (e := ty_44) Try.underlying24 rfl rfl rfl h1_0 hu26 ?_
            rintro p27 _ rfl hp28
            refine wl_load_p (vs := [(.int .i64 u26.1), (.string (mkS u26.2))]) (v := (.agg #[(.int .i64 u26.1), (.string (mkS u26.2))])) tf_44 rfl rfl (hp28.ro hB15) rfl rfl ?_
            refine wl_alloc (cs := [(.int .i64 0), (.string (mkS []))]) tf_44 rfl rfl hB15 hS16 ?_
            intro b29 w30 hb31 hB32 hS33
            refine wl_assign rfl rfl ?_
            refine wl_store_blk (i := 0) (vs := [(.int .i64 u26.1), (.string (mkS u26.2))]) (cs' := [(.int .i64 u26.1), (.string (mkS u26.2))]) tf_44 rfl rfl rfl rfl hB32 hS33 rfl rfl ⟨rfl, rfl, trivial⟩ rfl ?_
            intro w34 hk37 hB35 hS36
            refine WL.nil ?_
            refine fun a ha => hK25 _ _ ?_ a ha
            refine W.seq fun K38 hK38 => ?_
            refine W.region ?_
            refine wl_field (o := 0) (off' := 0) ff_44_0 rfl rfl rfl ?_
            refine wl_load_blk (i := 0) (vs := [(.int .i64 u26.1)]) (v := (.int .i64 u26.1)) tf_3 rfl rfl hS36 rfl rfl rfl ?_
            refine wl_move rfl rfl ?_
            refine wl_geq rfl rfl rfl ?_
            refine WL.nil ?_
            refine fun a ha => hK38 _ _ ?_ a ha
            refine W.cond rfl (fun h39 => ?_) (fun h39 => ?_)
            · replace hF := ifP h39 hF
              refine W.seq fun K40 hK40 => ?_
              refine W.region ?_
              refine wl_move rfl rfl ?_
              refine wl_assign rfl rfl ?_
              refine wl_assign rfl rfl ?_
              refine WL.nil ?_
              refine fun a ha => hK40 _ _ ?_ a ha
              refine W.ret ?_
              have hr := Option.some.inj hF
              subst hr
              exact rets (vs := [(.int .i64 y17), (.bool true)]) hQ rfl ⟨rv_tmp rfl, rv_tmp rfl, trivial⟩ ⟨rfl, hB35⟩
            · replace hF := ifN h39 hF
              refine W.skip ?_
              refine fun a ha => hK24 _ _ ?_ a ha
              refine W.region ?_
              refine wl_add rfl rfl rfl ?_
              refine wl_move rfl rfl ?_
              refine WL.nil ?_
              rw [hnx18] at hF
              exact fun a ha => hKL19 a _ m20 (Nat.lt_succ_self m20) ⟨(w64 (y17 + 1)), ha.sub ⟨rfl, rfl, rfl, rfl, trivial⟩, hB35, (hS36.sel [] rfl), hF⟩
          · replace hF := ifN h23 hF
            refine W.exit ?_
            refine fun a ha => hK12 _ _ ?_ a ha
            refine W.seq fun K41 hK41 => ?_
            refine W.region ?_
            refine wl_assign rfl rfl ?_
            refine wl_assign rfl rfl ?_
            refine WL.nil ?_
            refine fun a ha => hK41 _ _ ?_ a ha
            refine W.ret ?_
            have hr := Option.some.inj hF
            subst hr
            exact rets (vs := [(.int .i64 0), (.bool false)]) hQ rfl ⟨rv_tmp rfl, rv_tmp rfl, trivial⟩ ⟨rfl, hB15⟩
  refine W.region ?_
  refine wl_move rfl rfl ?_
  refine wl_move rfl rfl ?_
  obtain ⟨u42, hu42, hF⟩ := bindE hF
  refine wl_call rfl Try.call118 (C_impl_haveCues w0 x0 v0_0 (h0_0.ro hB) x1 v1_0 (h1_0.ro hB) _ hu42) rfl ?_
  rintro _ w43 ⟨rfl, hb44⟩
  refine ⟨_, rfl, ?_⟩
  have hB45 := hB.trans (hb44.mono hB.size)
  have hS46 := hS.below hb44
  refine wl_not rfl rfl ?_
  refine wl_move rfl rfl ?_
  rcases bE (!u42) with h48 | h48
  · replace hF := ifP h48 hF
    refine wl_off rfl rfl rfl h48 ?_
    refine wl_off rfl rfl rfl h48 ?_
    refine wl_off rfl rfl rfl h48 ?_
    refine wl_off rfl rfl rfl h48 ?_
    refine wl_off rfl rfl rfl h48 ?_
    refine wl_off rfl rfl rfl h48 ?_
    refine wl_pick_t rfl rfl h48 rfl ?_
    refine WL.nil ?_
    exact fun a ha => hJ9 (true) _ hF hB45 (hS46.sel [] rfl) a (ha.sub ⟨rfl, rfl, rfl, trivial⟩)
  · replace hF := ifN h48 hF
    refine wl_on rfl rfl h48 ?_
    refine wl_move rfl rfl ?_
    refine wl_on rfl rfl h48 ?_
    refine wl_move rfl rfl ?_
    refine wl_on rfl rfl h48 ?_
    obtain ⟨u49, hu49, hF⟩ := bindE hF
    refine wl_call rfl Try.call121 (C_impl_countsOf w43 x0 v0_0 (h0_0.ro hB45) _ hu49) rfl ?_
    rintro _ w50 ⟨rfl, hb51⟩
    refine ⟨_, rfl, ?_⟩
    have hB52 := hB45.trans (hb51.mono hB45.size)
    have hS53 := hS46.below hb51
    refine wl_on rfl rfl h48 ?_
    refine wl_sub rfl rfl rfl ?_
    refine wl_on rfl rfl h48 ?_
    obtain ⟨u55, hu55, hF⟩ := bindE hF
    refine wl_call rfl Try.call128 (C_impl_within w50 x2 0 (w64 (u49 - 1)) _ hu55) rfl ?_
    rintro _ w56 ⟨rfl, hb57⟩
    refine ⟨_, rfl, ?_⟩
    have hB58 := hB52.trans (hb57.mono hB52.size)
    have hS59 := hS53.below hb57
    refine wl_on rfl rfl h48 ?_
    refine wl_not rfl rfl ?_
    refine wl_pick_f rfl rfl h48 rfl ?_
    refine WL.nil ?_
    exact fun a ha => hJ9 ((!u55)) _ hF hB58 (hS59.sel [] rfl) a (ha.sub ⟨rfl, rfl, rfl, trivial⟩)
theorem C_spec_muHas (w0 : World) (x0 : (List (Int × Int))) (v0_0 : Value) (h0_0 : rdS ty_183 (· < w0.heap.size) w0 v0_0 x0) (x1 : Int) (r : Bool) (hF : F_spec_muHas x0 x1 = some r) :
    Calls Try.prog 129 [v0_0, (.int .i64 x1)].toArray w0 fun e w' => e = .returned (.bool r) ∧ Below w0.heap.size w0 w' := by
  refine calls_mk' Try.func129 rfl Try.ntmps129 rfl rfl fun Q hQ hP => ?_
  have hB : Below w0.heap.size w0 w0 := Below.refl _ _
  have hS : Sep w0.heap.size w0 [] := Sep.nil _ _
  unfold F_spec_muHas at hF
  refine W.seq fun K1 hK1 => ?_
  refine W.region ?_
  refine wl_assign rfl rfl ?_
  refine WL.nil ?_
  refine fun a ha => hK1 _ _ ?_ a ha
  refine W.seq fun K2 hK2 => ?_
  obtain ⟨k7, hk7, hF⟩ := jE1 hF
  have hJ8 : ∀ (y6 : Bool) (w3 : World) (_ : k7 y6 = some r) (_ : Below w0.heap.size w0 w3) (_ : Sep w0.heap.size w3 []), ∀ a, St 14 [(4, (.bool y6))] a → K2 a w3 := by
    intro y6 w3 hF hB4 hS5
    subst hk7
    refine fun a ha => hK2 _ _ ?_ a ha
    refine W.ret ?_
    have hr := Option.some.inj hF
    subst hr
    exact rets (vs := [(.bool y6)]) hQ rfl ⟨rv_tmp rfl, trivial⟩ ⟨rfl, hB4⟩
  refine W.region ?_
  refine wl_move rfl rfl ?_
  obtain ⟨u9, hu9, hF⟩ := bindE hF
  refine wl_call rfl Try.call141 (C_spec_muGood w0 x0 v0_0 (h0_0.ro hB) _ hu9) rfl ?_
  rintro _ w10 ⟨rfl, hb11⟩
  refine ⟨_, rfl, ?_⟩
  have hB12 := hB.trans (hb11.mono hB.size)
  have hS13 := hS.below hb11
  refine wl_move rfl rfl ?_
  rcases bE u9 with h15 | h15
  · replace hF := ifP h15 hF
    refine wl_on rfl rfl h15 ?_
    refine wl_move rfl rfl ?_
    refine wl_on rfl rfl h15 ?_
    refine wl_move rfl rfl ?_
    refine wl_on rfl rfl h15 ?_
    obtain ⟨u16, hu16, hF⟩ := bindE hF
    refine wl_call rfl Try.call125 (C_spec_muCounts w10 x0 v0_0 (h0_0.ro hB12) _ hu16) rfl ?_
    rintro _ w17 ⟨rfl, hb18⟩
    refine ⟨_, rfl, ?_⟩
    have hB19 := hB12.trans (hb18.mono hB12.size)
    have hS20 := hS13.below hb18
    refine wl_on rfl rfl h15 ?_
    refine wl_sub rfl rfl rfl ?_
    refine wl_on rfl rfl h15 ?_
    obtain ⟨u22, hu22, hF⟩ := bindE hF
    refine wl_call rfl Try.call138 (C_spec_l1In w17 x1 0 (w64 (u16 - 1)) _ hu22) rfl ?_
    rintro _ w23 ⟨rfl, hb24⟩
    refine ⟨_, rfl, ?_⟩
    have hB25 := hB19.trans (hb24.mono hB19.size)
    have hS26 := hS20.below hb24
    refine wl_pick_t rfl rfl h15 rfl ?_
    refine wl_assign rfl rfl ?_
    refine WL.nil ?_
    exact fun a ha => hJ8 (u22) _ hF hB25 (hS26.sel [] rfl) a (ha.sub ⟨rfl, trivial⟩)
  · replace hF := ifN h15 hF
    refine wl_off rfl rfl rfl h15 ?_
    refine wl_off rfl rfl rfl h15 ?_
    refine wl_off rfl rfl rfl h15 ?_
    refine wl_off rfl rfl rfl h15 ?_
    refine wl_off rfl rfl rfl h15 ?_
    refine wl_pick_f rfl rfl h15 rfl ?_
    refine wl_assign rfl rfl ?_
    refine WL.nil ?_
    exact fun a ha => hJ8 (false) _ hF hB12 (hS13.sel [] rfl) a (ha.sub ⟨rfl, trivial⟩)
theorem C_spec_NextCue (w0 : World) (x0 : (List (Int × Int))) (v0_0 : Value) (h0_0 : rdS ty_183 (· < w0.heap.size) w0 v0_0 x0) (x1 : (List (Int × (List UInt8)))) (v1_0 : Value) (h1_0 : rdS ty_44 (· < w0.heap.size) w0 v1_0 x1) (x2 : Int) (r : (Int × Bool)) (hF : F_spec_NextCue x0 x1 x2 = some r) :
    Calls Try.prog 16 [v0_0, v1_0, (.int .i64 x2)].toArray w0 fun e w' => e = .returned (.tuple #[(.int .i64 r.1), (.bool r.2)]) ∧ Below w0.heap.size w0 w' := by
  refine calls_mk' Try.func16 rfl Try.ntmps16 rfl rfl fun Q hQ hP => ?_
  have hB : Below w0.heap.size w0 w0 := Below.refl _ _
  have hS : Sep w0.heap.size w0 [] := Sep.nil _ _
  unfold F_spec_NextCue at hF
  refine W.seq fun K1 hK1 => ?_
  refine W.region ?_
  refine wl_assign rfl rfl ?_
  refine wl_assign rfl rfl ?_
  refine WL.nil ?_
  refine fun a ha => hK1 _ _ ?_ a ha
  refine W.seq fun K2 hK2 => ?_
  refine W.seq fun K3 hK3 => ?_
  obtain ⟨k8, hk8, hF⟩ := jE1 hF
  have hJ9 : ∀ (y7 : Bool) (w4 : World) (_ : k8 y7 = some r) (_ : Below w0.heap.size w0 w4) (_ : Sep w0.heap.size w4 []), ∀ a, St 33 [(1, v1_0), (2, (.int .i64 x2)), (19, (.bool y7))] a → K3 a w4 := by
    intro y7 w4 hF hB5 hS6
    subst hk8
    refine fun a ha => hK3 _ _ ?_ a ha
    refine W.cond rfl (fun h10 => ?_) (fun h10 => ?_)
    · replace hF := ifP h10 hF
      refine W.seq fun K11 hK11 => ?_
      refine W.region ?_
      refine wl_assign rfl rfl ?_
      refine wl_assign rfl rfl ?_
      refine WL.nil ?_
      refine fun a ha => hK11 _ _ ?_ a ha
      refine W.ret ?_
      have hr := Option.some.inj hF
      subst hr
      exact rets (vs := [(.int .i64 0), (.bool false)]) hQ rfl ⟨rv_tmp rfl, rv_tmp rfl, trivial⟩ ⟨rfl, hB5⟩
    · replace hF := ifN h10 hF
      refine W.skip ?_
      refine fun a ha => hK2 _ _ ?_ a ha
      refine W.seq fun K12 hK12 => ?_
      refine W.seq fun K13 hK13 => ?_
      refine W.region ?_
      refine wl_move rfl rfl ?_
      refine wl_lenr (e := ty_44) (l := x1) Try.underlying24 rfl rfl h1_0 ?_
      refine wl_move rfl rfl ?_
      refine WL.nil ?_
      refine fun a ha => hK13 _ _ ?_ a ha
      refine W.block ?_
      refine W.loopk (fun m a w14 => ∃ (y17 : Int), St 33 [(2, (.int .i64 x2)), (20, v1_0), (21, (.int .i64 (List.length x1 : Int))), (22, (.int .i64 y17))] a ∧ Below w0.heap.size w0 w14 ∧ Sep w0.heap.size w14 [] ∧ F_spec_NextCue_L1 x1 x2 m y17 = some r) FU ?_ ?_
      ·
        exact fun a ha => ⟨0, ha.sub ⟨rfl, rfl, rfl, rfl, trivial⟩, hB5, (hS6.sel [] rfl), hF⟩
      ·
        rintro m20 a w14 ⟨y17, ha, hB15, hS16, hF⟩ KL19 hKL19
        refine W.at ?_ ha
        cases m20 with
        | zero => exact noneE hF
        | succ m20 =>
          obtain ⟨nx18, hnx18⟩ : ∃ k, k = F_spec_NextCue_L1 x1 x2 m20 := ⟨_, rfl⟩
          rw [F_spec_NextCue_L1, ← hnx18] at hF
          refine W.seq fun K21 hK21 => ?_
          refine W.region ?_
          refine wl_lss rfl rfl rfl ?_
          refine WL.nil ?_
          refine fun a ha => hK21 _ _ ?_ a ha
          refine W.seq fun K22 hK22 => ?_
          refine W.cond rfl (fun h23 => ?_) (fun h23 => ?_)
          · replace hF := ifP h23 hF
            refine W.skip ?_
            refine fun a ha => hK22 _ _ ?_ a ha
            refine W.seq fun K24 hK24 => ?_
            refine W.block ?_
            refine W.seq fun K25 hK25 => ?_
            refine W.region ?_
            refine wl_move rfl rfl ?_
            obtain ⟨u26, hu26, hF⟩ := bindE hF
            refine wl_index (e := ty_44) Try.underlying24 rfl rfl rfl h1_0 hu26 ?_
            rintro p27 _ rfl hp28
            refine wl_load_p (vs := [(.int .i64 u26.1), (.string (mkS u26.2))]) (v := (.agg #[(.int .i64 u26.1), (.string (mkS u26.2))])) tf_44 rfl rfl (hp28.ro hB15) rfl rfl ?_
            refine wl_alloc (cs := [(.int .i64 0), (.string (mkS []))]) tf_44 rfl rfl hB15 hS16 ?_
            intro b29 w30 hb31 hB32 hS33
            refine wl_assign rfl rfl ?_
            refine wl_store_blk (i := 0) (vs := [(.int .i64 u26.1), (.string (mkS u26.2))]) (cs' := [(.int .i64 u26.1), (.string (mkS u26.2))]) tf_44 rfl rfl rfl rfl hB32 hS33 rfl rfl ⟨rfl, rfl, trivial⟩ rfl ?_
            intro w34 hk37 hB35 hS36
            refine WL.nil ?_
            refine fun a ha => hK25 _ _ ?_ a ha
            refine W.seq fun K38 hK38 => ?_
            refine W.region ?_
            refine wl_field (o := 0) (off' := 0) ff_44_0 rfl rfl rfl ?_
            refine wl_load_blk (i := 0) (vs := [(.int .i64 u26.1)]) (v := (.int .i64 u26.1)) tf_3 rfl rfl hS36 rfl rfl rfl ?_
            refine wl_move rfl rfl ?_
            refine wl_geq rfl rfl rfl ?_
            refine WL.nil ?_
            refine fun a ha => hK38 _ _ ?_ a ha
            refine W.cond rfl (fun h39 => ?_) (fun h39 => ?_)
            · replace hF := ifP h39 hF
              refine W.seq fun K40 hK40 => ?_
              refine W.region ?_
              refine wl_move rfl rfl ?_
              refine wl_assign rfl rfl ?_
              refine wl_assign rfl rfl ?_
              refine WL.nil ?_
              refine fun a ha => hK40 _ _ ?_ a ha
              refine W.ret ?_
              have hr := Option.some.inj hF
              subst hr
              exact rets (vs := [(.int .i64 y17), (.bool true)]) hQ rfl ⟨rv_tmp rfl, rv_tmp rfl, trivial⟩ ⟨rfl, hB35⟩
            · replace hF := ifN h39 hF
              refine W.skip ?_
              refine fun a ha => hK24 _ _ ?_ a ha
              refine W.region ?_
              refine wl_add rfl rfl rfl ?_
              refine wl_move rfl rfl ?_
              refine WL.nil ?_
              rw [hnx18] at hF
              exact fun a ha => hKL19 a _ m20 (Nat.lt_succ_self m20) ⟨(w64 (y17 + 1)), ha.sub ⟨rfl, rfl, rfl, rfl, trivial⟩, hB35, (hS36.sel [] rfl), hF⟩
          · replace hF := ifN h23 hF
            refine W.exit ?_
            refine fun a ha => hK12 _ _ ?_ a ha
            refine W.seq fun K41 hK41 => ?_
            refine W.region ?_
            refine wl_assign rfl rfl ?_
            refine wl_assign rfl rfl ?_
            refine WL.nil ?_
            refine fun a ha => hK41 _ _ ?_ a ha
            refine W.ret ?_
            have hr := Option.some.inj hF
            subst hr
            exact rets (vs := [(.int .i64 0), (.bool false)]) hQ rfl ⟨rv_tmp rfl, rv_tmp rfl, trivial⟩ ⟨rfl, hB15⟩
  refine W.region ?_
  refine wl_move rfl rfl ?_
  refine wl_move rfl rfl ?_
  obtain ⟨u42, hu42, hF⟩ := bindE hF
  refine wl_call rfl Try.call122 (C_spec_tiGood w0 x0 v0_0 (h0_0.ro hB) x1 v1_0 (h1_0.ro hB) _ hu42) rfl ?_
  rintro _ w43 ⟨rfl, hb44⟩
  refine ⟨_, rfl, ?_⟩
  have hB45 := hB.trans (hb44.mono hB.size)
  have hS46 := hS.below hb44
  refine wl_not rfl rfl ?_
  refine wl_move rfl rfl ?_
  rcases bE (!u42) with h48 | h48
  · replace hF := ifP h48 hF
    refine wl_off rfl rfl rfl h48 ?_
    refine wl_off rfl rfl rfl h48 ?_
    refine wl_off rfl rfl rfl h48 ?_
    refine wl_off rfl rfl rfl h48 ?_
    refine wl_pick_t rfl rfl h48 rfl ?_
    refine WL.nil ?_
    exact fun a ha => hJ9 (true) _ hF hB45 (hS46.sel [] rfl) a (ha.sub ⟨rfl, rfl, rfl, trivial⟩)
  · replace hF := ifN h48 hF
    refine wl_on rfl rfl h48 ?_
    refine wl_move rfl rfl ?_
    refine wl_on rfl rfl h48 ?_
    refine wl_move rfl rfl ?_
    refine wl_on rfl rfl h48 ?_
    obtain ⟨u49, hu49, hF⟩ := bindE hF
    refine wl_call rfl Try.call129 (C_spec_muHas w43 x0 v0_0 (h0_0.ro hB45) x2 _ hu49) rfl ?_
    rintro _ w50 ⟨rfl, hb51⟩
    refine ⟨_, rfl, ?_⟩
    have hB52 := hB45.trans (hb51.mono hB45.size)
    have hS53 := hS46.below hb51
    refine wl_on rfl rfl h48 ?_
    refine wl_not rfl rfl ?_
    refine wl_pick_f rfl rfl h48 rfl ?_
    refine WL.nil ?_
    exact fun a ha => hJ9 ((!u49)) _ hF hB52 (hS53.sel [] rfl) a (ha.sub ⟨rfl, rfl, rfl, trivial⟩)
theorem C_spec_l1Most (w0 : World) (x0 : Int) (x1 : Int) (r : Int) (hF : F_spec_l1Most x0 x1 = some r) :
    Calls Try.prog 131 [(.int .i64 x0), (.int .i64 x1)].toArray w0 fun e w' => e = .returned (.int .i64 r) ∧ Below w0.heap.size w0 w' := by
  refine calls_mk' Try.func131 rfl Try.ntmps131 rfl rfl fun Q hQ hP => ?_
  have hB : Below w0.heap.size w0 w0 := Below.refl _ _
  have hS : Sep w0.heap.size w0 [] := Sep.nil _ _
  unfold F_spec_l1Most at hF
  refine W.seq fun K1 hK1 => ?_
  refine W.region ?_
  refine wl_assign rfl rfl ?_
  refine WL.nil ?_
  refine fun a ha => hK1 _ _ ?_ a ha
  refine W.seq fun K2 hK2 => ?_
  refine W.seq fun K3 hK3 => ?_
  refine W.region ?_
  refine wl_move rfl rfl ?_
  refine wl_move rfl rfl ?_
  refine wl_gtr rfl rfl rfl ?_
  refine WL.nil ?_
  refine fun a ha => hK3 _ _ ?_ a ha
  refine W.cond rfl (fun h4 => ?_) (fun h4 => ?_)
  · replace hF := ifP h4 hF
    refine W.seq fun K5 hK5 => ?_
    refine W.region ?_
    refine wl_move rfl rfl ?_
    refine wl_assign rfl rfl ?_
    refine WL.nil ?_
    refine fun a ha => hK5 _ _ ?_ a ha
    refine W.ret ?_
    have hr := Option.some.inj hF
    subst hr
    exact rets (vs := [(.int .i64 x0)]) hQ rfl ⟨rv_tmp rfl, trivial⟩ ⟨rfl, hB⟩
  · replace hF := ifN h4 hF
    refine W.skip ?_
    refine fun a ha => hK2 _ _ ?_ a ha
    refine W.seq fun K6 hK6 => ?_
    refine W.region ?_
    refine wl_move rfl rfl ?_
    refine wl_assign rfl rfl ?_
    refine WL.nil ?_
    refine fun a ha => hK6 _ _ ?_ a ha
    refine W.ret ?_
    have hr := Option.some.inj hF
    subst hr
    exact rets (vs := [(.int .i64 x1)]) hQ rfl ⟨rv_tmp rfl, trivial⟩ ⟨rfl, hB⟩
theorem C_spec_l1Cur__showTime__mut__box (w0 : World) (x0 : ((List Int) × Int × Int)) (b0 : Nat) (v0_0 : Value) (h0_0 : rdS ty_5 (Out (fps [R.blk b0 131 [v0_0, (.int .i64 x0.2.1), (.int .u64 x0.2.2)]]) w0) w0 v0_0 x0.1) (hS0 : Sep 0 w0 [R.blk b0 131 [v0_0, (.int .i64 x0.2.1), (.int .u64 x0.2.2)]]) (r : (Int × ((List Int) × Int × Int))) (hF : F_spec_l1Cur__showTime__mut__box x0 = some r) :
    Calls Try.prog 133 [(.pointer (some ⟨b0, 0, none⟩))].toArray w0 fun e w' => e = .returned (.int .i64 r.1) ∧ Below 0 (wE w0) w' ∧ Sep 0 w' [R.rest w0 (fps [R.blk b0 131 [v0_0, (.int .i64 x0.2.1), (.int .u64 x0.2.2)]]), R.blk b0 131 [v0_0, (.int .i64 r.2.2.1), (.int .u64 r.2.2.2)]] := by
  refine calls_mk' Try.func133 rfl Try.ntmps133 rfl rfl fun Q hQ hP => ?_
  have hB : Below (wE w0).heap.size (wE w0) w0 := wE_below w0
  have hS : Sep (wE w0).heap.size w0 [R.rest w0 (fps [R.blk b0 131 [v0_0, (.int .i64 x0.2.1), (.int .u64 x0.2.2)]]), R.blk b0 131 [v0_0, (.int .i64 x0.2.1), (.int .u64 x0.2.2)]] := hS0.rest
  unfold F_spec_l1Cur__showTime__mut__box at hF
  refine W.seq fun K1 hK1 => ?_
  refine W.region ?_
  refine wl_assign rfl rfl ?_
  refine WL.nil ?_
  refine fun a ha => hK1 _ _ ?_ a ha
  refine W.seq fun K2 hK2 => ?_
  refine W.region ?_
  refine wl_move rfl rfl ?_
  refine wl_move rfl rfl ?_
  obtain ⟨u3, hu3, hF⟩ := bindE hF
  refine wl_call rfl Try.call132 (C_spec_l1Cur__pick__mut__box w0 x0 b0 v0_0 (h0_0.rsto (hS.sel [0, 1] rfl)) 30000 (hS.sel [1] rfl).base0 _ hu3) rfl ?_
  rintro _ w4 ⟨rfl, hE5, hM6⟩
  refine ⟨_, rfl, ?_⟩
  have hB7 := hS.takeB [1] rfl (M := [R.blk b0 131 [v0_0, (.int .i64 x0.2.1), (.int .u64 x0.2.2)]]) rfl hB hE5 hM6
  have hS8 : Sep (wE w0).heap.size w4 [R.blk b0 131 [v0_0, (.int .i64 u3.2.2.1), (.int .u64 u3.2.2.2)], R.rest w0 (fps [R.blk b0 131 [v0_0, (.int .i64 x0.2.1), (.int .u64 x0.2.2)]])] := hS.take [1] [0] rfl (M := [R.blk b0 131 [v0_0, (.int .i64 x0.2.1), (.int .u64 x0.2.2)]]) rfl hM6 hB.size
  refine wl_move rfl rfl ?_
  obtain ⟨u9, hu9, hF⟩ := bindE hF
  refine wl_call rfl Try.call132 (C_spec_l1Cur__pick__mut__box w4 (x0.1, u3.2.2.1, u3.2.2.2) b0 v0_0 (h0_0.rsto (hS8.sel [1, 0] rfl)) 30000 (hS8.sel [0] rfl).base0 _ hu9) rfl ?_
  rintro _ w10 ⟨rfl, hE11, hM12⟩
  refine ⟨_, rfl, ?_⟩
  have hB13 := hS8.takeB [0] rfl (M := [R.blk b0 131 [v0_0, (.int .i64 u3.2.2.1), (.int .u64 u3.2.2.2)]]) rfl hB7 hE11 hM12
  have hS14 : Sep (wE w0).heap.size w10 [R.blk b0 131 [v0_0, (.int .i64 u9.2.2.1), (.int .u64 u9.2.2.2)], R.rest w0 (fps [R.blk b0 131 [v0_0, (.int .i64 x0.2.1), (.int .u64 x0.2.2)]])] := hS8.take [0] [1] rfl (M := [R.blk b0 131 [v0_0, (.int .i64 u3.2.2.1), (.int .u64 u3.2.2.2)]]) rfl hM12 hB7.size
  refine wl_move rfl rfl ?_
  refine wl_lit (vs := [(.int .i64 1000001), (.int .i64 (-1))]) (l := [1000001, (-1)]) fl_3 Try.underlying29 rfl rfl rfl rfl rfl rfl hB13 hS14 ?_
  intro v15 F16 w17 hb18 hB19 hS20
  obtain ⟨u21, hu21, hF⟩ := bindE hF
  refine wl_call rfl Try.call136 (C_spec_l1Cur__among__mut__box w17 (x0.1, u9.2.2.1, u9.2.2.2) b0 v0_0 (h0_0.rsto (hS20.sel [2, 1] rfl)) [1000001, (-1)] v15 (own_out (hS20.sel [0, 1] rfl)) (hS20.sel [1] rfl).base0 _ hu21) rfl ?_
  rintro _ w22 ⟨rfl, hE23, hM24⟩
  refine ⟨_, rfl, ?_⟩
  have hB25 := hS20.takeB [1] rfl (M := [R.blk b0 131 [v0_0, (.int .i64 u9.2.2.1), (.int .u64 u9.2.2.2)]]) rfl hB19 hE23 hM24
  have hS26 : Sep (wE w0).heap.size w22 [R.blk b0 131 [v0_0, (.int .i64 u21.2.2.1), (.int .u64 u21.2.2.2)], R.own ty_3 F16 v15 [1000001, (-1)], R.rest w0 (fps [R.blk b0 131 [v0_0, (.int .i64 x0.2.1), (.int .u64 x0.2.2)]])] := hS20.take [1] [0, 2] rfl (M := [R.blk b0 131 [v0_0, (.int .i64 u9.2.2.1), (.int .u64 u9.2.2.2)]]) rfl hM24 hB19.size
  refine wl_lit (vs := [(.int .i64 0), (.int .i64 500), (.int .i64 2000), (.int .i64 u3.1), (.int .i64 u9.1), (.int .i64 59999), (.int .i64 60000), (.int .i64 1000000), (.int .i64 u21.1)]) (l := [0, 500, 2000, u3.1, u9.1, 59999, 60000, 1000000, u21.1]) fl_3 Try.underlying29 rfl rfl rfl rfl rfl rfl hB25 hS26 ?_
  intro v27 F28 w29 hb30 hB31 hS32
  obtain ⟨u33, hu33, hF⟩ := bindE hF
  refine wl_call rfl Try.call136 (C_spec_l1Cur__among__mut__box w29 (x0.1, u21.2.2.1, u21.2.2.2) b0 v0_0 (h0_0.rsto (hS32.sel [3, 1] rfl)) [0, 500, 2000, u3.1, u9.1, 59999, 60000, 1000000, u21.1] v27 (own_out (hS32.sel [0, 1] rfl)) (hS32.sel [1] rfl).base0 _ hu33) rfl ?_
  rintro _ w34 ⟨rfl, hE35, hM36⟩
  refine ⟨_, rfl, ?_⟩
  have hB37 := hS32.takeB [1] rfl (M := [R.blk b0 131 [v0_0, (.int .i64 u21.2.2.1), (.int .u64 u21.2.2.2)]]) rfl hB31 hE35 hM36
  have hS38 : Sep (wE w0).heap.size w34 [R.blk b0 131 [v0_0, (.int .i64 u33.2.2.1), (.int .u64 u33.2.2.2)], R.own ty_3 F28 v27 [0, 500, 2000, u3.1, u9.1, 59999, 60000, 1000000, u21.1], R.own ty_3 F16 v15 [1000001, (-1)], R.rest w0 (fps [R.blk b0 131 [v0_0, (.int .i64 x0.2.1), (.int .u64 x0.2.2)]])] := hS32.take [1] [0, 2, 3] rfl (M := [R.blk b0 131 [v0_0, (.int .i64 u21.2.2.1), (.int .u64 u21.2.2.2)]]) rfl hM36 hB31.size
  refine wl_assign rfl rfl ?_
  refine WL.nil ?_
  refine fun a ha => hK2 _ _ ?_ a ha
  refine W.ret ?_
  have hr := Option.some.inj hF
  subst hr
  exact rets (vs := [(.int .i64 u33.1)]) hQ rfl ⟨rv_tmp rfl, trivial⟩ ⟨rfl, hB37, hS38.sel [3, 0] rfl⟩
theorem C_spec_DrawLastCueAt (w0 : World) (x0 : (List Int)) (v0_0 : Value) (h0_0 : rdS ty_5 (· < w0.heap.size) w0 v0_0 x0) (r : ((List (Int × Int)) × (List (Int × (List UInt8))) × Int)) (hF : F_spec_DrawLastCueAt x0 = some r) :
    Calls Try.prog 17 [v0_0].toArray w0 fun e w' => ∃ (q0 : Value) (G0 : List Nat) (q1 : Value) (G1 : List Nat), e = .returned (.tuple #[q0, q1, (.int .i64 r.2.2)]) ∧ Below w0.heap.size w0 w' ∧ Sep w0.heap.size w' [R.own ty_183 G0 q0 r.1, R.own ty_44 G1 q1 r.2.1] := by
  refine calls_mk' Try.func17 rfl Try.ntmps17 rfl rfl fun Q hQ hP => ?_
  have hB : Below w0.heap.size w0 w0 := Below.refl _ _
  have hS : Sep w0.heap.size w0 [] := Sep.nil _ _
  unfold F_spec_DrawLastCueAt at hF
  refine W.seq fun K1 hK1 => ?_
  refine W.region ?_
  refine wl_assign rfl rfl ?_
  refine wl_assign rfl rfl ?_
  refine wl_assign rfl rfl ?_
  refine WL.nil ?_
  refine fun a ha => hK1 _ _ ?_ a ha
  refine W.seq fun K2 hK2 => ?_
  refine W.region ?_
  refine wl_move rfl rfl ?_
  refine wl_build (zs := [(.slice none 0 0), (.int .i64 0), (.int .u64 0)]) (out := [v0_0, (.int .i64 0), (.int .u64 0)]) (vs := [v0_0]) (css := [[v0_0]]) tf_131 pl_131 rfl rfl (by simp only [List.map_cons, List.map_nil, cells_one ((h0_0.ro hB).one)] <;> rfl) rfl rfl ?_
  refine wl_box (cs := [v0_0, (.int .i64 0), (.int .u64 0)]) rfl rfl rfl hB hS ?_
  intro b3 w4 hb5 hB6 hS7
  refine wl_assign rfl rfl ?_
  refine WL.nil ?_
  refine fun a ha => hK2 _ _ ?_ a ha
  refine W.seq fun K8 hK8 => ?_
  refine W.region ?_
  refine wl_move rfl rfl ?_
  obtain ⟨u9, hu9, hF⟩ := bindE hF
  refine wl_call rfl Try.call126 (C_spec_l1Cur__cues__mut__box w4 (x0, 0, 0) b3 v0_0 (h0_0.oldo hB6 (hS7.sel [0] rfl)) (hS7.sel [0] rfl).base0 _ hu9) rfl ?_
  rintro _ w10 ⟨v15, F16, v17, F18, rfl, hE11, hM12⟩
  refine ⟨_, rfl, ?_⟩
  have hB13 := hS7.takeB [0] rfl (M := [R.blk b3 131 [v0_0, (.int .i64 0), (.int .u64 0)]]) rfl hB6 hE11 hM12
  have hS14 : Sep w0.heap.size w10 [R.blk b3 131 [v0_0, (.int .i64 u9.2.2.2.1), (.int .u64 u9.2.2.2.2)], R.own ty_183 F16 v15 u9.1, R.own ty_44 F18 v17 u9.2.1] := hS7.take [0] [] rfl (M := [R.blk b3 131 [v0_0, (.int .i64 0), (.int .u64 0)]]) rfl hM12 hB6.size
  refine wl_move rfl rfl ?_
  refine wl_extract rfl rfl rfl ?_
  refine wl_extract rfl rfl rfl ?_
  refine wl_assign rfl rfl ?_
  refine wl_assign rfl rfl ?_
  refine WL.nil ?_
  refine fun a ha => hK8 _ _ ?_ a ha
  refine W.seq fun K19 hK19 => ?_
  refine W.seq fun K20 hK20 => ?_
  obtain ⟨k27, hk27, hF⟩ := jE3 hF
  have hJ28 : ∀ (y24 : Int) (y25 : Int) (y26 : Bool) (w21 : World) (_ : k27 y24 y25 y26 = some r) (_ : Below w0.heap.size w0 w21) (_ : Sep w0.heap.size w21 [R.blk b3 131 [v0_0, (.int .i64 y24), (.int .u64 y25)], R.own ty_183 F16 v15 u9.1, R.own ty_44 F18 v17 u9.2.1]), ∀ a, St 49 [(5, (.pointer (some ⟨b3, 0, none⟩))), (6, v15), (7, v17), (27, (.bool y26))] a → K20 a w21 := by
    intro y24 y25 y26 w21 hF hB22 hS23
    subst hk27
    refine fun a ha => hK20 _ _ ?_ a ha
    refine W.cond rfl (fun h29 => ?_) (fun h29 => ?_)
    · replace hF := ifP h29 hF
      refine W.seq fun K30 hK30 => ?_
      refine W.region ?_
      refine wl_move rfl rfl ?_
      refine wl_move rfl rfl ?_
      refine wl_move rfl rfl ?_
      refine wl_move rfl rfl ?_
      refine wl_move rfl rfl ?_
      refine wl_move rfl rfl ?_
      refine wl_lenr (e := ty_44) (l := u9.2.1) Try.underlying24 rfl rfl (hS23.own_ro (i := 2) rfl) ?_
      obtain ⟨u31, hu31, hF⟩ := bindE hF
      refine wl_call rfl Try.call132 (C_spec_l1Cur__pick__mut__box w21 (x0, y24, y25) b3 v0_0 (h0_0.oldo hB22 (hS23.sel [0] rfl)) (List.length u9.2.1 : Int) (hS23.sel [0] rfl).base0 _ hu31) rfl ?_
      rintro _ w32 ⟨rfl, hE33, hM34⟩
      refine ⟨_, rfl, ?_⟩
      have hB35 := hS23.takeB [0] rfl (M := [R.blk b3 131 [v0_0, (.int .i64 y24), (.int .u64 y25)]]) rfl hB22 hE33 hM34
      have hS36 : Sep w0.heap.size w32 [R.blk b3 131 [v0_0, (.int .i64 u31.2.2.1), (.int .u64 u31.2.2.2)], R.own ty_183 F16 v15 u9.1, R.own ty_44 F18 v17 u9.2.1] := hS23.take [0] [1, 2] rfl (M := [R.blk b3 131 [v0_0, (.int .i64 y24), (.int .u64 y25)]]) rfl hM34 hB22.size
      obtain ⟨u37, hu37, hF⟩ := bindE hF
      refine wl_indexoF (e := ty_44) (i := 2) Try.underlying24 rfl rfl rfl hS36 rfl hu37 ?_
      rintro p38 _ rfl hp39 ho40
      refine wl_fieldp (o := 0) ff_44_0 rfl rfl ?_
      refine wl_load_p (vs := [(.int .i64 u37.1)]) (v := (.int .i64 u37.1)) tf_3 rfl rfl (hp39.add 0) rfl rfl ?_
      obtain ⟨u41, hu41, hF⟩ := bindE hF
      refine wl_call rfl Try.call124 (C_spec_muTime w32 u9.1 v15 (hS36.own_ro (i := 1) rfl) u37.1 _ hu41) rfl ?_
      rintro _ w42 ⟨rfl, hb43⟩
      refine ⟨_, rfl, ?_⟩
      have hB44 := hB35.trans (hb43.mono hB35.size)
      have hS45 := hS36.below hb43
      have hp39 := hp39.keepS (fun b hb => hb43.block b (((hS36.get (i := 2) rfl).2.1 b hb).2)) (fun _ h => h)
      refine wl_move rfl rfl ?_
      obtain ⟨u47, hu47, hF⟩ := bindE hF
      refine wl_call rfl Try.call132 (C_spec_l1Cur__pick__mut__box w42 (x0, u31.2.2.1, u31.2.2.2) b3 v0_0 (h0_0.oldo hB44 (hS45.sel [0] rfl)) 3 (hS45.sel [0] rfl).base0 _ hu47) rfl ?_
      rintro _ w48 ⟨rfl, hE49, hM50⟩
      refine ⟨_, rfl, ?_⟩
      have hB51 := hS45.takeB [0] rfl (M := [R.blk b3 131 [v0_0, (.int .i64 u31.2.2.1), (.int .u64 u31.2.2.2)]]) rfl hB44 hE49 hM50
      have hS52 : Sep w0.heap.size w48 [R.blk b3 131 [v0_0, (.int .i64 u47.2.2.1), (.int .u64 u47.2.2.2)], R.own ty_183 F16 v15 u9.1, R.own ty_44 F18 v17 u9.2.1] := hS45.take [0] [1, 2] rfl (M := [R.blk b3 131 [v0_0, (.int .i64 u31.2.2.1), (.int .u64 u31.2.2.2)]]) rfl hM50 hB44.size
      have hp39 := hp39.keepS (fun b hb => mut_kept hM50 b (((hS45.get (i := 2) rfl).2.1 b hb).2) (nf_cons (hS45.disj (i := 2) (j := 0) rfl rfl rfl b hb) nf_nil)) (fun _ h => h)
      refine wl_add rfl rfl rfl ?_
      refine wl_sub rfl rfl rfl ?_
      obtain ⟨u53, hu53, hF⟩ := bindE hF
      refine wl_call rfl Try.call131 (C_spec_l1Most w48 0 (w64 ((w64 (u41 + u47.1)) - 1)) _ hu53) rfl ?_
      rintro _ w54 ⟨rfl, hb55⟩
      refine ⟨_, rfl, ?_⟩
      have hB56 := hB51.trans (hb55.mono hB51.size)
      have hS57 := hS52.below hb55
      have hp39 := hp39.keepS (fun b hb => hb55.block b (((hS52.get (i := 2) rfl).2.1 b hb).2)) (fun _ h => h)
      refine wl_assign rfl rfl ?_
      refine wl_assign rfl rfl ?_
      refine wl_assign rfl rfl ?_
      refine WL.nil ?_
      refine fun a ha => hK30 _ _ ?_ a ha
      refine W.ret ?_
      have hr := Option.some.inj hF
      subst hr
      exact rets (vs := [v15, v17, (.int .i64 u53)]) hQ rfl ⟨rv_tmp rfl, rv_tmp rfl, rv_tmp rfl, trivial⟩ ⟨v15, F16, v17, F18, rfl, hB56, hS57.sel [1, 2] rfl⟩
    · replace hF := ifN h29 hF
      refine W.skip ?_
      refine fun a ha => hK19 _ _ ?_ a ha
      refine W.seq fun K59 hK59 => ?_
      refine W.region ?_
      refine wl_move rfl rfl ?_
      refine wl_move rfl rfl ?_
      refine wl_move rfl rfl ?_
      obtain ⟨u60, hu60, hF⟩ := bindE hF
      refine wl_call rfl Try.call133 (C_spec_l1Cur__showTime__mut__box w21 (x0, y24, y25) b3 v0_0 (h0_0.oldo hB22 (hS23.sel [0] rfl)) (hS23.sel [0] rfl).base0 _ hu60) rfl ?_
      rintro _ w61 ⟨rfl, hE62, hM63⟩
      refine ⟨_, rfl, ?_⟩
      have hB64 := hS23.takeB [0] rfl (M := [R.blk b3 131 [v0_0, (.int .i64 y24), (.int .u64 y25)]]) rfl hB22 hE62 hM63
      have hS65 : Sep w0.heap.size w61 [R.blk b3 131 [v0_0, (.int .i64 u60.2.2.1), (.int .u64 u60.2.2.2)], R.own ty_183 F16 v15 u9.1, R.own ty_44 F18 v17 u9.2.1] := hS23.take [0] [1, 2] rfl (M := [R.blk b3 131 [v0_0, (.int .i64 y24), (.int .u64 y25)]]) rfl hM63 hB22.size
      refine wl_assign rfl rfl ?_
      refine wl_assign rfl rfl ?_
      refine wl_assign rfl rfl ?_
      refine WL.nil ?_
      refine fun a ha => hK59 _ _ ?_ a ha
      refine W.ret ?_
      have hr := Option.some.inj hF
      subst hr
      exact rets (vs := [v15, v17, (.int .i64 u60.1)]) hQ rfl ⟨rv_tmp rfl, rv_tmp rfl, rv_tmp rfl, trivial⟩ ⟨v15, F16, v17, F18, rfl, hB64, hS65.sel [1, 2] rfl⟩
  refine W.region ?_
  refine wl_move rfl rfl ?_
  refine wl_move rfl rfl ?_
  obtain ⟨u66, hu66, hF⟩ := bindE hF
  refine wl_call rfl Try.call122 (C_spec_tiGood w10 u9.1 v15 (hS14.own_ro (i := 1) rfl) u9.2.1 v17 (hS14.own_ro (i := 2) rfl) _ hu66) rfl ?_
  rintro _ w67 ⟨rfl, hb68⟩
  refine ⟨_, rfl, ?_⟩
  have hB69 := hB13.trans (hb68.mono hB13.size)
  have hS70 := hS14.below hb68
  refine wl_move rfl rfl ?_
  rcases bE u66 with h72 | h72
  · replace hF := ifP h72 hF
    refine wl_on rfl rfl h72 ?_
    refine wl_move rfl rfl ?_
    refine wl_on rfl rfl h72 ?_
    refine wl_lenr (e := ty_44) (l := u9.2.1) Try.underlying24 rfl rfl (hS70.own_ro (i := 2) rfl) ?_
    refine wl_on rfl rfl h72 ?_
    refine wl_gtr rfl rfl rfl ?_
    refine wl_pick_t rfl rfl h72 rfl ?_
    refine wl_move rfl rfl ?_
    rcases bE (decide (0 < (List.length u9.2.1 : Int))) with h73 | h73
    · replace hF := ifP h73 hF
      refine wl_on rfl rfl h73 ?_
      refine wl_move rfl rfl ?_
      refine wl_on rfl rfl h73 ?_
      obtain ⟨u74, hu74, hF⟩ := bindE hF
      refine wl_call rfl Try.call130 (C_spec_l1Cur__one__mut__box w67 (x0, u9.2.2.2.1, u9.2.2.2.2) b3 v0_0 (h0_0.oldo hB69 (hS70.sel [0] rfl)) 2 (hS70.sel [0] rfl).base0 _ hu74) rfl ?_
      rintro _ w75 ⟨rfl, hE76, hM77⟩
      refine ⟨_, rfl, ?_⟩
      have hB78 := hS70.takeB [0] rfl (M := [R.blk b3 131 [v0_0, (.int .i64 u9.2.2.2.1), (.int .u64 u9.2.2.2.2)]]) rfl hB69 hE76 hM77
      have hS79 : Sep w0.heap.size w75 [R.blk b3 131 [v0_0, (.int .i64 u74.2.2.1), (.int .u64 u74.2.2.2)], R.own ty_183 F16 v15 u9.1, R.own ty_44 F18 v17 u9.2.1] := hS70.take [0] [1, 2] rfl (M := [R.blk b3 131 [v0_0, (.int .i64 u9.2.2.2.1), (.int .u64 u9.2.2.2.2)]]) rfl hM77 hB69.size
      refine wl_pick_t rfl rfl h73 rfl ?_
      refine WL.nil ?_
      exact fun a ha => hJ28 (u74.2.2.1) (u74.2.2.2) (u74.1) _ hF hB78 (hS79.sel [0, 1, 2] rfl) a (ha.sub ⟨rfl, rfl, rfl, rfl, trivial⟩)
    · replace hF := ifN h73 hF
      refine wl_off rfl rfl rfl h73 ?_
      refine wl_off rfl rfl rfl h73 ?_
      refine wl_pick_f rfl rfl h73 rfl ?_
      refine WL.nil ?_
      exact fun a ha => hJ28 (u9.2.2.2.1) (u9.2.2.2.2) (false) _ hF hB69 (hS70.sel [0, 1, 2] rfl) a (ha.sub ⟨rfl, rfl, rfl, rfl, trivial⟩)
  · replace hF := ifN h72 hF
    refine wl_off rfl rfl rfl h72 ?_
    refine wl_off rfl rfl rfl h72 ?_
    refine wl_off rfl rfl rfl h72 ?_
    refine wl_pick_f rfl rfl h72 rfl ?_
    refine wl_move rfl rfl ?_
    refine wl_off rfl rfl rfl rfl ?_
    refine wl_off rfl rfl rfl rfl ?_
    refine wl_pick_f rfl rfl rfl rfl ?_
    refine WL.nil ?_
    exact fun a ha => hJ28 (u9.2.2.2.1) (u9.2.2.2.2) (false) _ hF hB69 (hS70.sel [0, 1, 2] rfl) a (ha.sub ⟨rfl, rfl, rfl, rfl, trivial⟩)
theorem C_impl_isTime (w0 : World) (x0 : Int) (r : Bool) (hF : F_impl_isTime x0 = some r) :
    Calls Try.prog 134 [(.int .i64 x0)].toArray w0 fun e w' => e = .returned (.bool r) ∧ Below w0.heap.size w0 w' := by
  refine calls_mk' Try.func134 rfl Try.ntmps134 rfl rfl fun Q hQ hP => ?_
  have hB : Below w0.heap.size w0 w0 := Below.refl _ _
  have hS : Sep w0.heap.size w0 [] := Sep.nil _ _
  unfold F_impl_isTime at hF
  refine W.seq fun K1 hK1 => ?_
  refine W.region ?_
  refine wl_assign rfl rfl ?_
  refine WL.nil ?_
  refine fun a ha => hK1 _ _ ?_ a ha
  refine W.seq fun K2 hK2 => ?_
  refine W.region ?_
  refine wl_move rfl rfl ?_
  obtain ⟨u3, hu3, hF⟩ := bindE hF
  refine wl_call rfl Try.call128 (C_impl_within w0 x0 0 1000000 _ hu3) rfl ?_
  rintro _ w4 ⟨rfl, hb5⟩
  refine ⟨_, rfl, ?_⟩
  have hB6 := hB.trans (hb5.mono hB.size)
  have hS7 := hS.below hb5
  refine wl_assign rfl rfl ?_
  refine WL.nil ?_
  refine fun a ha => hK2 _ _ ?_ a ha
  refine W.ret ?_
  have hr := Option.some.inj hF
  subst hr
  exact rets (vs := [(.bool u3)]) hQ rfl ⟨rv_tmp rfl, trivial⟩ ⟨rfl, hB6⟩
theorem C_impl_LastCueAt (w0 : World) (x0 : (List (Int × Int))) (v0_0 : Value) (h0_0 : rdS ty_183 (· < w0.heap.size) w0 v0_0 x0) (x1 : (List (Int × (List UInt8)))) (v1_0 : Value) (h1_0 : rdS ty_44 (· < w0.heap.size) w0 v1_0 x1) (x2 : Int) (r : (Int × Bool)) (hF : F_impl_LastCueAt x0 x1 x2 = some r) :
    Calls Try.prog 18 [v0_0, v1_0, (.int .i64 x2)].toArray w0 fun e w' => e = .returned (.tuple #[(.int .i64 r.1), (.bool r.2)]) ∧ Below w0.heap.size w0 w' := by
  refine calls_mk' Try.func18 rfl Try.ntmps18 rfl rfl fun Q hQ hP => ?_
  have hB : Below w0.heap.size w0 w0 := Below.refl _ _
  have hS : Sep w0.heap.size w0 [] := Sep.nil _ _
  unfold F_impl_LastCueAt at hF
  refine W.seq fun K1 hK1 => ?_
  refine W.region ?_
  refine wl_assign rfl rfl ?_
  refine wl_assign rfl rfl ?_
  refine WL.nil ?_
  refine fun a ha => hK1 _ _ ?_ a ha
  refine W.seq fun K2 hK2 => ?_
  refine W.seq fun K3 hK3 => ?_
  obtain ⟨k8, hk8, hF⟩ := jE1 hF
  have hJ9 : ∀ (y7 : Bool) (w4 : World) (_ : k8 y7 = some r) (_ : Below w0.heap.size w0 w4) (_ : Sep w0.heap.size w4 []), ∀ a, St 37 [(0, v0_0), (1, v1_0), (2, (.int .i64 x2)), (19, (.bool y7))] a → K3 a w4 := by
    intro y7 w4 hF hB5 hS6
    subst hk8
    refine fun a ha => hK3 _ _ ?_ a ha
    refine W.cond rfl (fun h10 => ?_) (fun h10 => ?_)
    · replace hF := ifP h10 hF
      refine W.seq fun K11 hK11 => ?_
      refine W.region ?_
      refine wl_assign rfl rfl ?_
      refine wl_assign rfl rfl ?_
      refine WL.nil ?_
      refine fun a ha => hK11 _ _ ?_ a ha
      refine W.ret ?_
      have hr := Option.some.inj hF
      subst hr
      exact rets (vs := [(.int .i64 0), (.bool false)]) hQ rfl ⟨rv_tmp rfl, rv_tmp rfl, trivial⟩ ⟨rfl, hB5⟩
    · replace hF := ifN h10 hF
      refine W.skip ?_
      refine fun a ha => hK2 _ _ ?_ a ha
      refine W.seq fun K12 hK12 => ?_
      refine W.region ?_
      refine wl_assign rfl rfl ?_
      refine WL.nil ?_
      refine fun a ha => hK12 _ _ ?_ a ha
      refine W.seq fun K13 hK13 => ?_
      refine W.seq fun K14 hK14 => ?_
      refine W.region ?_
      refine wl_move rfl rfl ?_
      refine wl_move rfl rfl ?_
      obtain ⟨u15, hu15, hF⟩ := bindE hF
      refine wl_call rfl Try.call119 (C_impl_cueTimes w4 x0 v0_0 (h0_0.ro hB5) x1 v1_0 (h1_0.ro hB5) _ hu15) rfl ?_
      rintro _ w18 ⟨v16, F17, rfl, hb19, hM22⟩
      refine ⟨_, rfl, ?_⟩
      have hB20 := hB5.trans (hb19.mono hB5.size)
      have hS21 := hS6.join hb19 hM22 hB5.size
      refine wl_lenr (e := ty_3) (l := u15) Try.underlying29 rfl rfl (hS21.own_ro (i := 0) rfl) ?_
      refine wl_move rfl rfl ?_
      refine WL.nil ?_
      refine fun a ha => hK14 _ _ ?_ a ha
      refine W.block ?_
      refine W.loopk (fun m a w23 => ∃ (y26 : Int) (y27 : Int), St 37 [(2, (.int .i64 x2)), (8, (.int .i64 y26)), (22, v16), (23, (.int .i64 (List.length u15 : Int))), (24, (.int .i64 y27))] a ∧ Below w0.heap.size w0 w23 ∧ Sep w0.heap.size w23 [R.own ty_3 F17 v16 u15] ∧ F_impl_LastCueAt_L1 u15 x2 m y26 y27 = some r) FU ?_ ?_
      ·
        exact fun a ha => ⟨(-1), 0, ha.sub ⟨rfl, rfl, rfl, rfl, rfl, trivial⟩, hB20, (hS21.sel [0] rfl), hF⟩
      ·
        rintro m30 a w23 ⟨y26, y27, ha, hB24, hS25, hF⟩ KL29 hKL29
        refine W.at ?_ ha
        cases m30 with
        | zero => exact noneE hF
        | succ m30 =>
          obtain ⟨nx28, hnx28⟩ : ∃ k, k = F_impl_LastCueAt_L1 u15 x2 m30 := ⟨_, rfl⟩
          rw [F_impl_LastCueAt_L1, ← hnx28] at hF
          refine W.seq fun K31 hK31 => ?_
          refine W.region ?_
          refine wl_lss rfl rfl rfl ?_
          refine WL.nil ?_
          refine fun a ha => hK31 _ _ ?_ a ha
          refine W.seq fun K32 hK32 => ?_
          refine W.cond rfl (fun h33 => ?_) (fun h33 => ?_)
          · replace hF := ifP h33 hF
            refine W.skip ?_
            refine fun a ha => hK32 _ _ ?_ a ha
            refine W.seq fun K34 hK34 => ?_
            obtain ⟨k39, hk39, hF⟩ := jE1 hF
            have hJ40 : ∀ (y38 : Int) (w35 : World) (_ : k39 y38 = some r) (_ : Below w0.heap.size w0 w35) (_ : Sep w0.heap.size w35 [R.own ty_3 F17 v16 u15]), ∀ a, St 37 [(2, (.int .i64 x2)), (8, (.int .i64 y38)), (22, v16), (23, (.int .i64 (List.length u15 : Int))), (24, (.int .i64 y27))] a → K34 a w35 := by
              intro y38 w35 hF hB36 hS37
              subst hk39
              refine fun a ha => hK34 _ _ ?_ a ha
              refine W.region ?_
              refine wl_add rfl rfl rfl ?_
              refine wl_move rfl rfl ?_
              refine WL.nil ?_
              rw [hnx28] at hF
              exact fun a ha => hKL29 a _ m30 (Nat.lt_succ_self m30) ⟨y38, (w64 (y27 + 1)), ha.sub ⟨rfl, rfl, rfl, rfl, rfl, trivial⟩, hB36, (hS37.sel [0] rfl), hF⟩
            refine W.block ?_
            refine W.seq fun K41 hK41 => ?_
            refine W.region ?_
            refine wl_move rfl rfl ?_
            obtain ⟨u42, hu42, hF⟩ := bindE hF
            refine wl_indexo (e := ty_3) (i := 0) Try.underlying29 rfl rfl rfl hS25 rfl hu42 ?_
            rintro p43 _ rfl hp44 ho45
            refine wl_load_p (vs := [(.int .i64 u42)]) (v := (.int .i64 u42)) tf_3 rfl rfl hp44 rfl rfl ?_
            refine wl_assign rfl rfl ?_
            refine wl_assign rfl rfl ?_
            refine WL.nil ?_
            refine fun a ha => hK41 _ _ ?_ a ha
            refine W.seq fun K46 hK46 => ?_
            refine W.region ?_
            refine wl_move rfl rfl ?_
            refine wl_move rfl rfl ?_
            refine wl_leq rfl rfl rfl ?_
            refine WL.nil ?_
            refine fun a ha => hK46 _ _ ?_ a ha
            refine W.cond rfl (fun h47 => ?_) (fun h47 => ?_)
            · replace hF := ifP h47 hF
              refine W.region ?_
              refine wl_move rfl rfl ?_
              refine wl_assign rfl rfl ?_
              refine WL.nil ?_
              exact fun a ha => hJ40 (y27) _ hF hB24 (hS25.sel [0] rfl) a (ha.sub ⟨rfl, rfl, rfl, rfl, rfl, trivial⟩)
            · replace hF := ifN h47 hF
              refine W.skip ?_
              exact fun a ha => hJ40 (y26) _ hF hB24 (hS25.sel [0] rfl) a (ha.sub ⟨rfl, rfl, rfl, rfl, rfl, trivial⟩)
          · replace hF := ifN h33 hF
            refine W.exit ?_
            refine fun a ha => hK13 _ _ ?_ a ha
            refine W.seq fun K48 hK48 => ?_
            refine W.seq fun K49 hK49 => ?_
            refine W.region ?_
            refine wl_move rfl rfl ?_
            refine wl_lss rfl rfl rfl ?_
            refine WL.nil ?_
            refine fun a ha => hK49 _ _ ?_ a ha
            refine W.cond rfl (fun h50 => ?_) (fun h50 => ?_)
            · replace hF := ifP h50 hF
              refine W.seq fun K51 hK51 => ?_
              refine W.region ?_
              refine wl_assign rfl rfl ?_
              refine wl_assign rfl rfl ?_
              refine WL.nil ?_
              refine fun a ha => hK51 _ _ ?_ a ha
              refine W.ret ?_
              have hr := Option.some.inj hF
              subst hr
              exact rets (vs := [(.int .i64 0), (.bool false)]) hQ rfl ⟨rv_tmp rfl, rv_tmp rfl, trivial⟩ ⟨rfl, hB24⟩
            · replace hF := ifN h50 hF
              refine W.skip ?_
              refine fun a ha => hK48 _ _ ?_ a ha
              refine W.seq fun K52 hK52 => ?_
              refine W.region ?_
              refine wl_move rfl rfl ?_
              refine wl_assign rfl rfl ?_
              refine wl_assign rfl rfl ?_
              refine WL.nil ?_
              refine fun a ha => hK52 _ _ ?_ a ha
              refine W.ret ?_
              have hr := Option.some.inj hF
              subst hr
              exact rets (vs := [(.int .i64 y26), (.bool true)]) hQ rfl ⟨rv_tmp rfl, rv_tmp rfl, trivial⟩ ⟨rfl, hB24⟩
  refine W.region ?_
  refine wl_move rfl rfl ?_
  refine wl_move rfl rfl ?_
  obtain ⟨u53, hu53, hF⟩ := bindE hF
  refine wl_call rfl Try.call118 (C_impl_haveCues w0 x0 v0_0 (h0_0.ro hB) x1 v1_0 (h1_0.ro hB) _ hu53) rfl ?_
  rintro _ w54 ⟨rfl, hb55⟩
  refine ⟨_, rfl, ?_⟩
  have hB56 := hB.trans (hb55.mono hB.size)
  have hS57 := hS.below hb55
  refine wl_not rfl rfl ?_
  refine wl_move rfl rfl ?_
  rcases bE (!u53) with h59 | h59
  · replace hF := ifP h59 hF
    refine wl_off rfl rfl rfl h59 ?_
    refine wl_off rfl rfl rfl h59 ?_
    refine wl_off rfl rfl rfl h59 ?_
    refine wl_pick_t rfl rfl h59 rfl ?_
    refine WL.nil ?_
    exact fun a ha => hJ9 (true) _ hF hB56 (hS57.sel [] rfl) a (ha.sub ⟨rfl, rfl, rfl, rfl, trivial⟩)
  · replace hF := ifN h59 hF
    refine wl_on rfl rfl h59 ?_
    refine wl_move rfl rfl ?_
    refine wl_on rfl rfl h59 ?_
    obtain ⟨u60, hu60, hF⟩ := bindE hF
    refine wl_call rfl Try.call134 (C_impl_isTime w54 x2 _ hu60) rfl ?_
    rintro _ w61 ⟨rfl, hb62⟩
    refine ⟨_, rfl, ?_⟩
    have hB63 := hB56.trans (hb62.mono hB56.size)
    have hS64 := hS57.below hb62
    refine wl_on rfl rfl h59 ?_
    refine wl_not rfl rfl ?_
    refine wl_pick_f rfl rfl h59 rfl ?_
    refine WL.nil ?_
    exact fun a ha => hJ9 ((!u60)) _ hF hB63 (hS64.sel [] rfl) a (ha.sub ⟨rfl, rfl, rfl, rfl, trivial⟩)
theorem C_spec_tiTime (w0 : World) (x0 : Int) (r : Bool) (hF : F_spec_tiTime x0 = some r) :
    Calls Try.prog 135 [(.int .i64 x0)].toArray w0 fun e w' => e = .returned (.bool r) ∧ Below w0.heap.size w0 w' := by
  refine calls_mk' Try.func135 rfl Try.ntmps135 rfl rfl fun Q hQ hP => ?_
  have hB : Below w0.heap.size w0 w0 := Below.refl _ _
  have hS : Sep w0.heap.size w0 [] := Sep.nil _ _
  unfold F_spec_tiTime at hF
  refine W.seq fun K1 hK1 => ?_
  refine W.region ?_
  refine wl_assign rfl rfl ?_
  refine WL.nil ?_
  refine fun a ha => hK1 _ _ ?_ a ha
  refine W.seq fun K2 hK2 => ?_
  refine W.region ?_
  refine wl_move rfl rfl ?_
  obtain ⟨u3, hu3, hF⟩ := bindE hF
  refine wl_call rfl Try.call138 (C_spec_l1In w0 x0 0 1000000 _ hu3) rfl ?_
  rintro _ w4 ⟨rfl, hb5⟩
  refine ⟨_, rfl, ?_⟩
  have hB6 := hB.trans (hb5.mono hB.size)
  have hS7 := hS.below hb5
  refine wl_assign rfl rfl ?_
  refine WL.nil ?_
  refine fun a ha => hK2 _ _ ?_ a ha
  refine W.ret ?_
  have hr := Option.some.inj hF
  subst hr
  exact rets (vs := [(.bool u3)]) hQ rfl ⟨rv_tmp rfl, trivial⟩ ⟨rfl, hB6⟩
theorem C_spec_LastCueAt (w0 : World) (x0 : (List (Int × Int))) (v0_0 : Value) (h0_0 : rdS ty_183 (· < w0.heap.size) w0 v0_0 x0) (x1 : (List (Int × (List UInt8)))) (v1_0 : Value) (h1_0 : rdS ty_44 (· < w0.heap.size) w0 v1_0 x1) (x2 : Int) (r : (Int × Bool)) (hF : F_spec_LastCueAt x0 x1 x2 = some r) :
    Calls Try.prog 19 [v0_0, v1_0, (.int .i64 x2)].toArray w0 fun e w' => e = .returned (.tuple #[(.int .i64 r.1), (.bool r.2)]) ∧ Below w0.heap.size w0 w' := by
  refine calls_mk' Try.func19 rfl Try.ntmps19 rfl rfl fun Q hQ hP => ?_
  have hB : Below w0.heap.size w0 w0 := Below.refl _ _
  have hS : Sep w0.heap.size w0 [] := Sep.nil _ _
  unfold F_spec_LastCueAt at hF
  refine W.seq fun K1 hK1 => ?_
  refine W.region ?_
  refine wl_assign rfl rfl ?_
  refine wl_assign rfl rfl ?_
  refine WL.nil ?_
  refine fun a ha => hK1 _ _ ?_ a ha
  refine W.seq fun K2 hK2 => ?_
  refine W.seq fun K3 hK3 => ?_
  obtain ⟨k8, hk8, hF⟩ := jE1 hF
  have hJ9 : ∀ (y7 : Bool) (w4 : World) (_ : k8 y7 = some r) (_ : Below w0.heap.size w0 w4) (_ : Sep w0.heap.size w4 []), ∀ a, St 37 [(0, v0_0), (1, v1_0), (2, (.int .i64 x2)), (19, (.bool y7))] a → K3 a w4 := by
    intro y7 w4 hF hB5 hS6
    subst hk8
    refine fun a ha => hK3 _ _ ?_ a ha
    refine W.cond rfl (fun h10 => ?_) (fun h10 => ?_)
    · replace hF := ifP h10 hF
      refine W.seq fun K11 hK11 => ?_
      refine W.region ?_
      refine wl_assign rfl rfl ?_
      refine wl_assign rfl rfl ?_
      refine WL.nil ?_
      refine fun a ha => hK11 _ _ ?_ a ha
      refine W.ret ?_
      have hr := Option.some.inj hF
      subst hr
      exact rets (vs := [(.int .i64 0), (.bool false)]) hQ rfl ⟨rv_tmp rfl, rv_tmp rfl, trivial⟩ ⟨rfl, hB5⟩
    · replace hF := ifN h10 hF
      refine W.skip ?_
      refine fun a ha => hK2 _ _ ?_ a ha
      refine W.seq fun K12 hK12 => ?_
      refine W.region ?_
      refine wl_assign rfl rfl ?_
      refine WL.nil ?_
      refine fun a ha => hK12 _ _ ?_ a ha
      refine W.seq fun K13 hK13 => ?_
      refine W.seq fun K14 hK14 => ?_
      refine W.region ?_
      refine wl_move rfl rfl ?_
      refine wl_move rfl rfl ?_
      obtain ⟨u15, hu15, hF⟩ := bindE hF
      refine wl_call rfl Try.call123 (C_spec_tiTimes w4 x0 v0_0 (h0_0.ro hB5) x1 v1_0 (h1_0.ro hB5) _ hu15) rfl ?_
      rintro _ w18 ⟨v16, F17, rfl, hb19, hM22⟩
      refine ⟨_, rfl, ?_⟩
      have hB20 := hB5.trans (hb19.mono hB5.size)
      have hS21 := hS6.join hb19 hM22 hB5.size
      refine wl_lenr (e := ty_3) (l := u15) Try.underlying29 rfl rfl (hS21.own_ro (i := 0) rfl) ?_
      refine wl_move rfl rfl ?_
      refine WL.nil ?_
      refine fun a ha => hK14 _ _ ?_ a ha
      refine W.block ?_
      refine W.loopk (fun m a w23 => ∃ (y26 : Int) (y27 : Int), St 37 [(2, (.int .i64 x2)), (8, (.int .i64 y26)), (22, v16), (23, (.int .i64 (List.length u15 : Int))), (24, (.int .i64 y27))] a ∧ Below w0.heap.size w0 w23 ∧ Sep w0.heap.size w23 [R.own ty_3 F17 v16 u15] ∧ F_spec_LastCueAt_L1 u15 x2 m y26 y27 = some r) FU ?_ ?_
      ·
        exact fun a ha => ⟨(-1), 0, ha.sub ⟨rfl, rfl, rfl, rfl, rfl, trivial⟩, hB20, (hS21.sel [0] rfl), hF⟩
      ·
        rintro m30 a w23 ⟨y26, y27, ha, hB24, hS25, hF⟩ KL29 hKL29
        refine W.at ?_ ha
        cases m30 with
        | zero => exact noneE hF
        | succ m30 =>
          obtain ⟨nx28, hnx28⟩ : ∃ k, k = F_spec_LastCueAt_L1 u15 x2 m30 := ⟨_, rfl⟩
          rw [F_spec_LastCueAt_L1, ← hnx28] at hF
          refine W.seq fun K31 hK31 => ?_
          refine W.region ?_
          refine wl_lss rfl rfl rfl ?_
          refine WL.nil ?_
          refine fun a ha => hK31 _ _ ?_ a ha
          refine W.seq fun K32 hK32 => ?_
          refine W.cond rfl (fun h33 => ?_) (fun h33 => ?_)
          · replace hF := ifP h33 hF
            refine W.skip ?_
            refine fun a ha => hK32 _ _ ?_ a ha
            refine W.seq fun K34 hK34 => ?_
            obtain ⟨k39, hk39, hF⟩ := jE1 hF
            have hJ40 : ∀ (y38 : Int) (w35 : World) (_ : k39 y38 = some r) (_ : Below w0.heap.size w0 w35) (_ : Sep w0.heap.size w35 [R.own ty_3 F17 v16 u15]), ∀ a, St 37 [(2, (.int .i64 x2)), (8, (.int .i64 y38)), (22, v16), (23, (.int .i64 (List.length u15 : Int))), (24, (.int .i64 y27))] a → K34 a w35 := by
              intro y38 w35 hF hB36 hS37
              subst hk39
              refine fun a ha => hK34 _ _ ?_ a ha
              refine W.region ?_
              refine wl_add rfl rfl rfl ?_
              refine wl_move rfl rfl ?_
              refine WL.nil ?_
              rw [hnx28] at hF
              exact fun a ha => hKL29 a _ m30 (Nat.lt_succ_self m30) ⟨y38, (w64 (y27 + 1)), ha.sub ⟨rfl, rfl, rfl, rfl, rfl, trivial⟩, hB36, (hS37.sel [0] rfl), hF⟩
            refine W.block ?_
            refine W.seq fun K41 hK41 => ?_
            refine W.region ?_
            refine wl_move rfl rfl ?_
            obtain ⟨u42, hu42, hF⟩ := bindE hF
            refine wl_indexo (e := ty_3) (i := 0) Try.underlying29 rfl rfl rfl hS25 rfl hu42 ?_
            rintro p43 _ rfl hp44 ho45
            refine wl_load_p (vs := [(.int .i64 u42)]) (v := (.int .i64 u42)) tf_3 rfl rfl hp44 rfl rfl ?_
            refine wl_assign rfl rfl ?_
            refine wl_assign rfl rfl ?_
            refine WL.nil ?_
            refine fun a ha => hK41 _ _ ?_ a ha
            refine W.seq fun K46 hK46 => ?_
            refine W.region ?_
            refine wl_move rfl rfl ?_
            refine wl_move rfl rfl ?_
            refine wl_leq rfl rfl rfl ?_
            refine WL.nil ?_
            refine fun a ha => hK46 _ _ ?_ a ha
            refine W.cond rfl (fun h47 => ?_) (fun h47 => ?_)
            · replace hF := ifP h47 hF
              refine W.region ?_
              refine wl_move rfl rfl ?_
              refine wl_assign rfl rfl ?_
              refine WL.nil ?_
              exact fun a ha => hJ40 (y27) _ hF hB24 (hS25.sel [0] rfl) a (ha.sub ⟨rfl, rfl, rfl, rfl, rfl, trivial⟩)
            · replace hF := ifN h47 hF
              refine W.skip ?_
              exact fun a ha => hJ40 (y26) _ hF hB24 (hS25.sel [0] rfl) a (ha.sub ⟨rfl, rfl, rfl, rfl, rfl, trivial⟩)
          · replace hF := ifN h33 hF
            refine W.exit ?_
            refine fun a ha => hK13 _ _ ?_ a ha
            refine W.seq fun K48 hK48 => ?_
            refine W.seq fun K49 hK49 => ?_
            refine W.region ?_
            refine wl_move rfl rfl ?_
            refine wl_lss rfl rfl rfl ?_
            refine WL.nil ?_
            refine fun a ha => hK49 _ _ ?_ a ha
            refine W.cond rfl (fun h50 => ?_) (fun h50 => ?_)
            · replace hF := ifP h50 hF
              refine W.seq fun K51 hK51 => ?_
              refine W.region ?_
              refine wl_assign rfl rfl ?_
              refine wl_assign rfl rfl ?_
              refine WL.nil ?_
              refine fun a ha => hK51 _ _ ?_ a ha
              refine W.ret ?_
              have hr := Option.some.inj hF
              subst hr
              exact rets (vs := [(.int .i64 0), (.bool false)]) hQ rfl ⟨rv_tmp rfl, rv_tmp rfl, trivial⟩ ⟨rfl, hB24⟩
            · replace hF := ifN h50 hF
              refine W.skip ?_
              refine fun a ha => hK48 _ _ ?_ a ha
              refine W.seq fun K52 hK52 => ?_
              refine W.region ?_
              refine wl_move rfl rfl ?_
              refine wl_assign rfl rfl ?_
              refine wl_assign rfl rfl ?_
              refine WL.nil ?_
              refine fun a ha => hK52 _ _ ?_ a ha
              refine W.ret ?_
              have hr := Option.some.inj hF
              subst hr
              exact rets (vs := [(.int .i64 y26), (.bool true)]) hQ rfl ⟨rv_tmp rfl, rv_tmp rfl, trivial⟩ ⟨rfl, hB24⟩
  refine W.region ?_
  refine wl_move rfl rfl ?_
  refine wl_move rfl rfl ?_
  obtain ⟨u53, hu53, hF⟩ := bindE hF
  refine wl_call rfl Try.call122 (C_spec_tiGood w0 x0 v0_0 (h0_0.ro hB) x1 v1_0 (h1_0.ro hB) _ hu53) rfl ?_
  rintro _ w54 ⟨rfl, hb55⟩
  refine ⟨_, rfl, ?_⟩
  have hB56 := hB.trans (hb55.mono hB.size)
  have hS57 := hS.below hb55
  refine wl_not rfl rfl ?_
  refine wl_move rfl rfl ?_
  rcases bE (!u53) with h59 | h59
  · replace hF := ifP h59 hF
    refine wl_off rfl rfl rfl h59 ?_
    refine wl_off rfl rfl rfl h59 ?_
    refine wl_off rfl rfl rfl h59 ?_
    refine wl_pick_t rfl rfl h59 rfl ?_
    refine WL.nil ?_
    exact fun a ha => hJ9 (true) _ hF hB56 (hS57.sel [] rfl) a (ha.sub ⟨rfl, rfl, rfl, rfl, trivial⟩)
  · replace hF := ifN h59 hF
    refine wl_on rfl rfl h59 ?_
    refine wl_move rfl rfl ?_
    refine wl_on rfl rfl h59 ?_
    obtain ⟨u60, hu60, hF⟩ := bindE hF
    refine wl_call rfl Try.call135 (C_spec_tiTime w54 x2 _ hu60) rfl ?_
    rintro _ w61 ⟨rfl, hb62⟩
    refine ⟨_, rfl, ?_⟩
    have hB63 := hB56.trans (hb62.mono hB56.size)
    have hS64 := hS57.below hb62
    refine wl_on rfl rfl h59 ?_
    refine wl_not rfl rfl ?_
    refine wl_pick_f rfl rfl h59 rfl ?_
    refine WL.nil ?_
    exact fun a ha => hJ9 ((!u60)) _ hF hB63 (hS64.sel [] rfl) a (ha.sub ⟨rfl, rfl, rfl, rfl, trivial⟩)
theorem C_spec_DrawCuesBetween (w0 : World) (x0 : (List Int)) (v0_0 : Value) (h0_0 : rdS ty_5 (· < w0.heap.size) w0 v0_0 x0) (r : ((List (Int × Int)) × (List (Int × (List UInt8))) × Int × Int)) (hF : F_spec_DrawCuesBetween x0 = some r) :
    Calls Try.prog 20 [v0_0].toArray w0 fun e w' => ∃ (q0 : Value) (G0 : List Nat) (q1 : Value) (G1 : List Nat), e = .returned (.tuple #[q0, q1, (.int .i64 r.2.2.1), (.int .i64 r.2.2.2)]) ∧ Below w0.heap.size w0 w' ∧ Sep w0.heap.size w' [R.own ty_183 G0 q0 r.1, R.own ty_44 G1 q1 r.2.1] := by
  refine calls_mk' Try.func20 rfl Try.ntmps20 rfl rfl fun Q hQ hP => ?_
  have hB : Below w0.heap.size w0 w0 := Below.refl _ _
  have hS : Sep w0.heap.size w0 [] := Sep.nil _ _
  unfold F_spec_DrawCuesBetween at hF
  refine W.seq fun K1 hK1 => ?_
  refine W.region ?_
  refine wl_assign rfl rfl ?_
  refine wl_assign rfl rfl ?_
  refine wl_assign rfl rfl ?_
  refine wl_assign rfl rfl ?_
  refine WL.nil ?_
  refine fun a ha => hK1 _ _ ?_ a ha
  refine W.seq fun K2 hK2 => ?_
  refine W.region ?_
  refine wl_move rfl rfl ?_
  refine wl_build (zs := [(.slice none 0 0), (.int .i64 0), (.int .u64 0)]) (out := [v0_0, (.int .i64 0), (.int .u64 0)]) (vs := [v0_0]) (css := [[v0_0]]) tf_131 pl_131 rfl rfl (by simp only [List.map_cons, List.map_nil, cells_one ((h0_0.ro hB).one)] <;> rfl) rfl rfl ?_
  refine wl_box (cs := [v0_0, (.int .i64 0), (.int .u64 0)]) rfl rfl rfl hB hS ?_
  intro b3 w4 hb5 hB6 hS7
  refine wl_assign rfl rfl ?_
  refine WL.nil ?_
  refine fun a ha => hK2 _ _ ?_ a ha
  refine W.seq fun K8 hK8 => ?_
  refine W.region ?_
  refine wl_move rfl rfl ?_
  obtain ⟨u9, hu9, hF⟩ := bindE hF
  refine wl_call rfl Try.call126 (C_spec_l1Cur__cues__mut__box w4 (x0, 0, 0) b3 v0_0 (h0_0.oldo hB6 (hS7.sel [0] rfl)) (hS7.sel [0] rfl).base0 _ hu9) rfl ?_
  rintro _ w10 ⟨v15, F16, v17, F18, rfl, hE11, hM12⟩
  refine ⟨_, rfl, ?_⟩
  have hB13 := hS7.takeB [0] rfl (M := [R.blk b3 131 [v0_0, (.int .i64 0), (.int .u64 0)]]) rfl hB6 hE11 hM12
  have hS14 : Sep w0.heap.size w10 [R.blk b3 131 [v0_0, (.int .i64 u9.2.2.2.1), (.int .u64 u9.2.2.2.2)], R.own ty_183 F16 v15 u9.1, R.own ty_44 F18 v17 u9.2.1] := hS7.take [0] [] rfl (M := [R.blk b3 131 [v0_0, (.int .i64 0), (.int .u64 0)]]) rfl hM12 hB6.size
  refine wl_move rfl rfl ?_
  refine wl_extract rfl rfl rfl ?_
  refine wl_extract rfl rfl rfl ?_
  refine wl_assign rfl rfl ?_
  refine wl_assign rfl rfl ?_
  refine WL.nil ?_
  refine fun a ha => hK8 _ _ ?_ a ha
  refine W.seq fun K19 hK19 => ?_
  refine W.region ?_
  refine wl_move rfl rfl ?_
  obtain ⟨u20, hu20, hF⟩ := bindE hF
  refine wl_call rfl Try.call133 (C_spec_l1Cur__showTime__mut__box w10 (x0, u9.2.2.2.1, u9.2.2.2.2) b3 v0_0 (h0_0.oldo hB13 (hS14.sel [0] rfl)) (hS14.sel [0] rfl).base0 _ hu20) rfl ?_
  rintro _ w21 ⟨rfl, hE22, hM23⟩
  refine ⟨_, rfl, ?_⟩
  have hB24 := hS14.takeB [0] rfl (M := [R.blk b3 131 [v0_0, (.int .i64 u9.2.2.2.1), (.int .u64 u9.2.2.2.2)]]) rfl hB13 hE22 hM23
  have hS25 : Sep w0.heap.size w21 [R.blk b3 131 [v0_0, (.int .i64 u20.2.2.1), (.int .u64 u20.2.2.2)], R.own ty_183 F16 v15 u9.1, R.own ty_44 F18 v17 u9.2.1] := hS14.take [0] [1, 2] rfl (M := [R.blk b3 131 [v0_0, (.int .i64 u9.2.2.2.1), (.int .u64 u9.2.2.2.2)]]) rfl hM23 hB13.size
  refine wl_assign rfl rfl ?_
  refine WL.nil ?_
  refine fun a ha => hK19 _ _ ?_ a ha
  refine W.seq fun K26 hK26 => ?_
  refine W.region ?_
  refine wl_move rfl rfl ?_
  refine wl_move rfl rfl ?_
  refine wl_move rfl rfl ?_
  refine wl_move rfl rfl ?_
  refine wl_move rfl rfl ?_
  refine wl_move rfl rfl ?_
  refine wl_add rfl rfl rfl ?_
  refine wl_move rfl rfl ?_
  obtain ⟨u27, hu27, hF⟩ := bindE hF
  refine wl_call rfl Try.call133 (C_spec_l1Cur__showTime__mut__box w21 (x0, u20.2.2.1, u20.2.2.2) b3 v0_0 (h0_0.oldo hB24 (hS25.sel [0] rfl)) (hS25.sel [0] rfl).base0 _ hu27) rfl ?_
  rintro _ w28 ⟨rfl, hE29, hM30⟩
  refine ⟨_, rfl, ?_⟩
  have hB31 := hS25.takeB [0] rfl (M := [R.blk b3 131 [v0_0, (.int .i64 u20.2.2.1), (.int .u64 u20.2.2.2)]]) rfl hB24 hE29 hM30
  have hS32 : Sep w0.heap.size w28 [R.blk b3 131 [v0_0, (.int .i64 u27.2.2.1), (.int .u64 u27.2.2.2)], R.own ty_183 F16 v15 u9.1, R.own ty_44 F18 v17 u9.2.1] := hS25.take [0] [1, 2] rfl (M := [R.blk b3 131 [v0_0, (.int .i64 u20.2.2.1), (.int .u64 u20.2.2.2)]]) rfl hM30 hB24.size
  refine wl_lit (vs := [(.int .i64 u20.1), (.int .i64 (w64 (u20.1 + 5000))), (.int .i64 1000000), (.int .i64 u27.1)]) (l := [u20.1, (w64 (u20.1 + 5000)), 1000000, u27.1]) fl_3 Try.underlying29 rfl rfl rfl rfl rfl rfl hB31 hS32 ?_
  intro v33 F34 w35 hb36 hB37 hS38
  obtain ⟨u39, hu39, hF⟩ := bindE hF
  refine wl_call rfl Try.call136 (C_spec_l1Cur__among__mut__box w35 (x0, u27.2.2.1, u27.2.2.2) b3 v0_0 (h0_0.oldo hB37 (hS38.sel [1] rfl)) [u20.1, (w64 (u20.1 + 5000)), 1000000, u27.1] v33 (own_out (hS38.sel [0, 1] rfl)) (hS38.sel [1] rfl).base0 _ hu39) rfl ?_
  rintro _ w40 ⟨rfl, hE41, hM42⟩
  refine ⟨_, rfl, ?_⟩
  have hB43 := hS38.takeB [1] rfl (M := [R.blk b3 131 [v0_0, (.int .i64 u27.2.2.1), (.int .u64 u27.2.2.2)]]) rfl hB37 hE41 hM42
  have hS44 : Sep w0.heap.size w40 [R.blk b3 131 [v0_0, (.int .i64 u39.2.2.1), (.int .u64 u39.2.2.2)], R.own ty_3 F34 v33 [u20.1, (w64 (u20.1 + 5000)), 1000000, u27.1], R.own ty_183 F16 v15 u9.1, R.own ty_44 F18 v17 u9.2.1] := hS38.take [1] [0, 2, 3] rfl (M := [R.blk b3 131 [v0_0, (.int .i64 u27.2.2.1), (.int .u64 u27.2.2.2)]]) rfl hM42 hB37.size
  refine wl_assign rfl rfl ?_
  refine wl_assign rfl rfl ?_
  refine wl_assign rfl rfl ?_
  refine wl_assign rfl rfl ?_
  refine WL.nil ?_
  refine fun a ha => hK26 _ _ ?_ a ha
  refine W.ret ?_
  have hr := Option.some.inj hF
  subst hr
  exact rets (vs := [v15, v17, (.int .i64 u20.1), (.int .i64 u39.1)]) hQ rfl ⟨rv_tmp rfl, rv_tmp rfl, rv_tmp rfl, rv_tmp rfl, trivial⟩ ⟨v15, F16, v17, F18, rfl, hB43, hS44.sel [2, 3] rfl⟩
theorem C_impl_CuesBetween (w0 : World) (x0 : (List (Int × Int))) (v0_0 : Value) (h0_0 : rdS ty_183 (· < w0.heap.size) w0 v0_0 x0) (x1 : (List (Int × (List UInt8)))) (v1_0 : Value) (h1_0 : rdS ty_44 (· < w0.heap.size) w0 v1_0 x1) (x2 : Int) (x3 : Int) (r : ((List Int) × Bool)) (hF : F_impl_CuesBetween x0 x1 x2 x3 = some r) :
    Calls Try.prog 21 [v0_0, v1_0, (.int .i64 x2), (.int .i64 x3)].toArray w0 fun e w' => ∃ (q0 : Value) (G0 : List Nat), e = .returned (.tuple #[q0, (.bool r.2)]) ∧ Below w0.heap.size w0 w' ∧ Sep w0.heap.size w' [R.own ty_3 G0 q0 r.1] := by
  refine calls_mk' Try.func21 rfl Try.ntmps21 rfl rfl fun Q hQ hP => ?_
  have hB : Below w0.heap.size w0 w0 := Below.refl _ _
  have hS : Sep w0.heap.size w0 [] := Sep.nil _ _
  unfold F_impl_CuesBetween at hF
  refine W.seq fun K1 hK1 => ?_
  refine W.region ?_
  refine wl_assign rfl rfl ?_
  refine wl_assign rfl rfl ?_
  refine WL.nil ?_
  refine fun a ha => hK1 _ _ ?_ a ha
  refine W.seq fun K2 hK2 => ?_
  refine W.seq fun K3 hK3 => ?_
  obtain ⟨k8, hk8, hF⟩ := jE1 hF
  have hJ9 : ∀ (y7 : Bool) (w4 : World) (_ : k8 y7 = some r) (_ : Below w0.heap.size w0 w4) (_ : Sep w0.heap.size w4 []), ∀ a, St 51 [(0, v0_0), (1, v1_0), (2, (.int .i64 x2)), (3, (.int .i64 x3)), (26, (.bool y7))] a → K3 a w4 := by
    intro y7 w4 hF hB5 hS6
    subst hk8
    refine fun a ha => hK3 _ _ ?_ a ha
    refine W.cond rfl (fun h10 => ?_) (fun h10 => ?_)
    · replace hF := ifP h10 hF
      refine W.seq fun K11 hK11 => ?_
      refine W.region ?_
      refine wl_assign rfl rfl ?_
      refine wl_assign rfl rfl ?_
      refine WL.nil ?_
      refine fun a ha => hK11 _ _ ?_ a ha
      refine W.ret ?_
      have hS12 := hS6.push0 (r := R.own ty_3 [] (.slice none 0 0) []) rfl fun _ => .inl ⟨rfl, rfl, rfl⟩
      have hr := Option.some.inj hF
      subst hr
      exact rets (vs := [(.slice none 0 0), (.bool false)]) hQ rfl ⟨rv_tmp rfl, rv_tmp rfl, trivial⟩ ⟨(.slice none 0 0), [], rfl, hB5, hS12.sel [0] rfl⟩
    · replace hF := ifN h10 hF
      refine W.skip ?_
      refine fun a ha => hK2 _ _ ?_ a ha
      refine W.seq fun K13 hK13 => ?_
      refine W.region ?_
      refine wl_lit (vs := []) (l := []) fl_3 Try.underlying29 rfl rfl rfl rfl rfl rfl hB5 hS6 ?_
      intro v14 F15 w16 hb17 hB18 hS19
      refine wl_assign rfl rfl ?_
      refine WL.nil ?_
      refine fun a ha => hK13 _ _ ?_ a ha
      refine W.seq fun K20 hK20 => ?_
      refine W.seq fun K21 hK21 => ?_
      refine W.region ?_
      refine wl_move rfl rfl ?_
      refine wl_move rfl rfl ?_
      obtain ⟨u22, hu22, hF⟩ := bindE hF
      refine wl_call rfl Try.call119 (C_impl_cueTimes w16 x0 v0_0 (h0_0.ro hB18) x1 v1_0 (h1_0.ro hB18) _ hu22) rfl ?_
      rintro _ w25 ⟨v23, F24, rfl, hb26, hM29⟩
      refine ⟨_, rfl, ?_⟩
      have hB27 := hB18.trans (hb26.mono hB18.size)
      have hS28 := hS19.join hb26 hM29 hB18.size
      refine wl_lenr (e := ty_3) (l := u22) Try.underlying29 rfl rfl (hS28.own_ro (i := 0) rfl) ?_
      refine wl_move rfl rfl ?_
      refine WL.nil ?_
      refine fun a ha => hK21 _ _ ?_ a ha
      refine W.block ?_
      refine W.loopk (fun m a w30 => ∃ (l33 : (List Int)) (y36 : Int) (v34 : Value) (F35 : List Nat), St 51 [(2, (.int .i64 x2)), (3, (.int .i64 x3)), (10, v34), (30, v23), (31, (.int .i64 (List.length u22 : Int))), (32, (.int .i64 y36))] a ∧ Below w0.heap.size w0 w30 ∧ Sep w0.heap.size w30 [R.own ty_3 F35 v34 l33, R.own ty_3 F24 v23 u22] ∧ F_impl_CuesBetween_L1 u22 x2 x3 m l33 y36 = some r) FU ?_ ?_
      ·
        exact fun a ha => ⟨[], 0, v14, F15, ha.sub ⟨rfl, rfl, rfl, rfl, rfl, rfl, trivial⟩, hB27, (hS28.sel [1, 0] rfl), hF⟩
      ·
        rintro m39 a w30 ⟨l33, y36, v34, F35, ha, hB31, hS32, hF⟩ KL38 hKL38
        refine W.at ?_ ha
        cases m39 with
        | zero => exact noneE hF
        | succ m39 =>
          obtain ⟨nx37, hnx37⟩ : ∃ k, k = F_impl_CuesBetween_L1 u22 x2 x3 m39 := ⟨_, rfl⟩
          rw [F_impl_CuesBetween_L1, ← hnx37] at hF
          refine W.seq fun K40 hK40 => ?_
          refine W.region ?_
          refine wl_lss rfl rfl rfl ?_
          refine WL.nil ?_
          refine fun a ha => hK40 _ _ ?_ a ha
          refine W.seq fun K41 hK41 => ?_
          refine W.cond rfl (fun h42 => ?_) (fun h42 => ?_)
          · replace hF := ifP h42 hF
            refine W.skip ?_
            refine fun a ha => hK41 _ _ ?_ a ha
            refine W.seq fun K43 hK43 => ?_
            obtain ⟨k50, hk50, hF⟩ := jE1 hF
            have hJ51 : ∀ (l47 : (List Int)) (v48 : Value) (F49 : List Nat) (w44 : World) (_ : k50 l47 = some r) (_ : Below w0.heap.size w0 w44) (_ : Sep w0.heap.size w44 [R.own ty_3 F49 v48 l47, R.own ty_3 F24 v23 u22]), ∀ a, St 51 [(2, (.int .i64 x2)), (3, (.int .i64 x3)), (10, v48), (30, v23), (31, (.int .i64 (List.length u22 : Int))), (32, (.int .i64 y36))] a → K43 a w44 := by
              intro l47 v48 F49 w44 hF hB45 hS46
              subst hk50
              refine fun a ha => hK43 _ _ ?_ a ha
              refine W.region ?_
              refine wl_add rfl rfl rfl ?_
              refine wl_move rfl rfl ?_
              refine WL.nil ?_
              rw [hnx37] at hF
              exact fun a ha => hKL38 a _ m39 (Nat.lt_succ_self m39) ⟨l47, (w64 (y36 + 1)), v48, F49, ha.sub ⟨rfl, rfl, rfl, rfl, rfl, rfl, trivial⟩, hB45, (hS46.sel [0, 1] rfl), hF⟩
            refine W.block ?_
            refine W.seq fun K52 hK52 => ?_
            refine W.region ?_
            refine wl_move rfl rfl ?_
            obtain ⟨u53, hu53, hF⟩ := bindE hF
            refine wl_indexo (e := ty_3) (i := 1) Try.underlying29 rfl rfl rfl hS32 rfl hu53 ?_
            rintro p54 _ rfl hp55 ho56
            refine wl_load_p (vs := [(.int .i64 u53)]) (v := (.int .i64 u53)) tf_3 rfl rfl hp55 rfl rfl ?_
            refine wl_assign rfl rfl ?_
            refine wl_assign rfl rfl ?_
            refine WL.nil ?_
            refine fun a ha => hK52 _ _ ?_ a ha
            refine W.seq fun K57 hK57 => ?_
            obtain ⟨k62, hk62, hF⟩ := jE1 hF
            have hJ63 : ∀ (y61 : Bool) (w58 : World) (_ : k62 y61 = some r) (_ : Below w0.heap.size w0 w58) (_ : Sep w0.heap.size w58 [R.own ty_3 F35 v34 l33, R.own ty_3 F24 v23 u22]), ∀ a, St 51 [(2, (.int .i64 x2)), (3, (.int .i64 x3)), (10, v34), (11, (.int .i64 y36)), (30, v23), (31, (.int .i64 (List.length u22 : Int))), (32, (.int .i64 y36)), (44, (.bool y61))] a → K57 a w58 := by
              intro y61 w58 hF hB59 hS60
              subst hk62
              refine fun a ha => hK57 _ _ ?_ a ha
              refine W.cond rfl (fun h64 => ?_) (fun h64 => ?_)
              · replace hF := ifP h64 hF
                refine W.region ?_
                refine wl_move rfl rfl ?_
                refine wl_move rfl rfl ?_
                refine wl_lit (vs := [(.int .i64 y36)]) (l := [y36]) fl_3 Try.underlying29 rfl rfl rfl rfl rfl rfl hB59 hS60 ?_
                intro v65 F66 w67 hb68 hB69 hS70
                obtain ⟨u71, hu71, hF⟩ := bindE hF
                refine wl_append (i := 1) (S := (· < w67.heap.size)) fl_3 Try.underlying29 rfl rfl rfl hB69 hS70 rfl (hS70.own_ro (i := 0) rfl) hu71 ?_
                intro v72 F73 w74 hk75 hB76 hS77
                refine wl_assign rfl rfl ?_
                refine WL.nil ?_
                exact fun a ha => hJ51 (u71) (v72) (F73) _ hF hB76 (hS77.sel [1, 2] rfl) a (ha.sub ⟨rfl, rfl, rfl, rfl, rfl, rfl, trivial⟩)
              · replace hF := ifN h64 hF
                refine W.skip ?_
                exact fun a ha => hJ51 (l33) (v34) (F35) _ hF hB59 (hS60.sel [0, 1] rfl) a (ha.sub ⟨rfl, rfl, rfl, rfl, rfl, rfl, trivial⟩)
            refine W.region ?_
            refine wl_move rfl rfl ?_
            refine wl_move rfl rfl ?_
            refine wl_leq rfl rfl rfl ?_
            refine wl_move rfl rfl ?_
            rcases bE (decide (x2 ≤ u53)) with h78 | h78
            · replace hF := ifP h78 hF
              refine wl_on rfl rfl h78 ?_
              refine wl_move rfl rfl ?_
              refine wl_on rfl rfl h78 ?_
              refine wl_move rfl rfl ?_
              refine wl_on rfl rfl h78 ?_
              refine wl_lss rfl rfl rfl ?_
              refine wl_pick_t rfl rfl h78 rfl ?_
              refine WL.nil ?_
              exact fun a ha => hJ63 ((decide (u53 < x3))) _ hF hB31 (hS32.sel [0, 1] rfl) a (ha.sub ⟨rfl, rfl, rfl, rfl, rfl, rfl, rfl, rfl, trivial⟩)
            · replace hF := ifN h78 hF
              refine wl_off rfl rfl rfl h78 ?_
              refine wl_off rfl rfl rfl h78 ?_
              refine wl_off rfl rfl rfl h78 ?_
              refine wl_pick_f rfl rfl h78 rfl ?_
              refine WL.nil ?_
              exact fun a ha => hJ63 (false) _ hF hB31 (hS32.sel [0, 1] rfl) a (ha.sub ⟨rfl, rfl, rfl, rfl, rfl, rfl, rfl, rfl, trivial⟩)
          · replace hF := ifN h42 hF
            refine W.exit ?_
            refine fun a ha => hK20 _ _ ?_ a ha
            refine W.seq fun K79 hK79 => ?_
            refine W.region ?_
            refine wl_move rfl rfl ?_
            refine wl_assign rfl rfl ?_
            refine wl_assign rfl rfl ?_
            refine WL.nil ?_
            refine fun a ha => hK79 _ _ ?_ a ha
            refine W.ret ?_
            have hr := Option.some.inj hF
            subst hr
            exact rets (vs := [v34, (.bool true)]) hQ rfl ⟨rv_tmp rfl, rv_tmp rfl, trivial⟩ ⟨v34, F35, rfl, hB31, hS32.sel [0] rfl⟩
  refine W.region ?_
  refine wl_move rfl rfl ?_
  refine wl_move rfl rfl ?_
  obtain ⟨u80, hu80, hF⟩ := bindE hF
  refine wl_call rfl Try.call118 (C_impl_haveCues w0 x0 v0_0 (h0_0.ro hB) x1 v1_0 (h1_0.ro hB) _ hu80) rfl ?_
  rintro _ w81 ⟨rfl, hb82⟩
  refine ⟨_, rfl, ?_⟩
  have hB83 := hB.trans (hb82.mono hB.size)
  have hS84 := hS.below hb82
  refine wl_not rfl rfl ?_
  refine wl_move rfl rfl ?_
  rcases bE (!u80) with h86 | h86
  · replace hF := ifP h86 hF
    refine wl_off rfl rfl rfl h86 ?_
    refine wl_off rfl rfl rfl h86 ?_
    refine wl_off rfl rfl rfl h86 ?_
    refine wl_pick_t rfl rfl h86 rfl ?_
    refine wl_move rfl rfl ?_
    refine wl_off rfl rfl rfl rfl ?_
    refine wl_off rfl rfl rfl rfl ?_
    refine wl_off rfl rfl rfl rfl ?_
    refine wl_pick_t rfl rfl rfl rfl ?_
    refine WL.nil ?_
    exact fun a ha => hJ9 (true) _ hF hB83 (hS84.sel [] rfl) a (ha.sub ⟨rfl, rfl, rfl, rfl, rfl, trivial⟩)
  · replace hF := ifN h86 hF
    refine wl_on rfl rfl h86 ?_
    refine wl_move rfl rfl ?_
    refine wl_on rfl rfl h86 ?_
    obtain ⟨u87, hu87, hF⟩ := bindE hF
    refine wl_call rfl Try.call134 (C_impl_isTime w81 x2 _ hu87) rfl ?_
    rintro _ w88 ⟨rfl, hb89⟩
    refine ⟨_, rfl, ?_⟩
    have hB90 := hB83.trans (hb89.mono hB83.size)
    have hS91 := hS84.below hb89
    refine wl_on rfl rfl h86 ?_
    refine wl_not rfl rfl ?_
    refine wl_pick_f rfl rfl h86 rfl ?_
    refine wl_move rfl rfl ?_
    rcases bE (!u87) with h93 | h93
    · replace hF := ifP h93 hF
      refine wl_off rfl rfl rfl h93 ?_
      refine wl_off rfl rfl rfl h93 ?_
      refine wl_off rfl rfl rfl h93 ?_
      refine wl_pick_t rfl rfl h93 rfl ?_
      refine WL.nil ?_
      exact fun a ha => hJ9 (true) _ hF hB90 (hS91.sel [] rfl) a (ha.sub ⟨rfl, rfl, rfl, rfl, rfl, trivial⟩)
    · replace hF := ifN h93 hF
      refine wl_on rfl rfl h93 ?_
      refine wl_move rfl rfl ?_
      refine wl_on rfl rfl h93 ?_
      obtain ⟨u94, hu94, hF⟩ := bindE hF
      refine wl_call rfl Try.call134 (C_impl_isTime w88 x3 _ hu94) rfl ?_
      rintro _ w95 ⟨rfl, hb96⟩
      refine ⟨_, rfl, ?_⟩
      have hB97 := hB90.trans (hb96.mono hB90.size)
      have hS98 := hS91.below hb96
      refine wl_on rfl rfl h93 ?_
      refine wl_not rfl rfl ?_
      refine wl_pick_f rfl rfl h93 rfl ?_
      refine WL.nil ?_
      exact fun a ha => hJ9 ((!u94)) _ hF hB97 (hS98.sel [] rfl) a (ha.sub ⟨rfl, rfl, rfl, rfl, rfl, trivial⟩)
theorem C_spec_CuesBetween (w0 : World) (x0 : (List (Int × Int))) (v0_0 : Value) (h0_0 : rdS ty_183 (· < w0.heap.size) w0 v0_0 x0) (x1 : (List (Int × (List UInt8)))) (v1_0 : Value) (h1_0 : rdS ty_44 (· < w0.heap.size) w0 v1_0 x1) (x2 : Int) (x3 : Int) (r : ((List Int) × Bool)) (hF : F_spec_CuesBetween x0 x1 x2 x3 = some r) :
    Calls Try.prog 22 [v0_0, v1_0, (.int .i64 x2), (.int .i64 x3)].toArray w0 fun e w' => ∃ (q0 : Value) (G0 : List Nat), e = .returned (.tuple #[q0, (.bool r.2)]) ∧ Below w0.heap.size w0 w' ∧ Sep w0.heap.size w' [R.own ty_3 G0 q0 r.1] := by
  refine calls_mk' Try.func22 rfl Try.ntmps22 rfl rfl fun Q hQ hP => ?_
  have hB : Below w0.heap.size w0 w0 := Below.refl _ _
  have hS : Sep w0.heap.size w0 [] := Sep.nil _ _
  unfold F_spec_CuesBetween at hF
  refine W.seq fun K1 hK1 => ?_
  refine W.region ?_
  refine wl_assign rfl rfl ?_
  refine wl_assign rfl rfl ?_
  refine WL.nil ?_
  refine fun a ha => hK1 _ _ ?_ a ha
  refine W.seq fun K2 hK2 => ?_
  refine W.seq fun K3 hK3 => ?_
  obtain ⟨k8, hk8, hF⟩ := jE1 hF
  have hJ9 : ∀ (y7 : Bool) (w4 : World) (_ : k8 y7 = some r) (_ : Below w0.heap.size w0 w4) (_ : Sep w0.heap.size w4 []), ∀ a, St 50 [(0, v0_0), (1, v1_0), (2, (.int .i64 x2)), (3, (.int .i64 x3)), (26, (.bool y7))] a → K3 a w4 := by
    intro y7 w4 hF hB5 hS6
    subst hk8
    refine fun a ha => hK3 _ _ ?_ a ha
    refine W.cond rfl (fun h10 => ?_) (fun h10 => ?_)
    · replace hF := ifP h10 hF
      refine W.seq fun K11 hK11 => ?_
      refine W.region ?_
      refine wl_assign rfl rfl ?_
      refine wl_assign rfl rfl ?_
      refine WL.nil ?_
      refine fun a ha => hK11 _ _ ?_ a ha
      refine W.ret ?_
      have hS12 := hS6.push0 (r := R.own ty_3 [] (.slice none 0 0) []) rfl fun _ => .inl ⟨rfl, rfl, rfl⟩
      have hr := Option.some.inj hF
      subst hr
      exact rets (vs := [(.slice none 0 0), (.bool false)]) hQ rfl ⟨rv_tmp rfl, rv_tmp rfl, trivial⟩ ⟨(.slice none 0 0), [], rfl, hB5, hS12.sel [0] rfl⟩
    · replace hF := ifN h10 hF
      refine W.skip ?_
      refine fun a ha => hK2 _ _ ?_ a ha
      refine W.seq fun K13 hK13 => ?_
      refine W.region ?_
      refine wl_assign rfl rfl ?_
      refine WL.nil ?_
      refine fun a ha => hK13 _ _ ?_ a ha
      refine W.seq fun K14 hK14 => ?_
      refine W.seq fun K15 hK15 => ?_
      refine W.region ?_
      refine wl_move rfl rfl ?_
      refine wl_move rfl rfl ?_
      obtain ⟨u16, hu16, hF⟩ := bindE hF
      refine wl_call rfl Try.call123 (C_spec_tiTimes w4 x0 v0_0 (h0_0.ro hB5) x1 v1_0 (h1_0.ro hB5) _ hu16) rfl ?_
      rintro _ w19 ⟨v17, F18, rfl, hb20, hM23⟩
      refine ⟨_, rfl, ?_⟩
      have hB21 := hB5.trans (hb20.mono hB5.size)
      have hS22 := hS6.join hb20 hM23 hB5.size
      refine wl_lenr (e := ty_3) (l := u16) Try.underlying29 rfl rfl (hS22.own_ro (i := 0) rfl) ?_
      refine wl_move rfl rfl ?_
      refine WL.nil ?_
      refine fun a ha => hK15 _ _ ?_ a ha
      refine W.block ?_
      refine W.loopk (fun m a w24 => ∃ (l27 : (List Int)) (y30 : Int) (v28 : Value) (F29 : List Nat), St 50 [(2, (.int .i64 x2)), (3, (.int .i64 x3)), (10, v28), (29, v17), (30, (.int .i64 (List.length u16 : Int))), (31, (.int .i64 y30))] a ∧ Below w0.heap.size w0 w24 ∧ Sep w0.heap.size w24 [R.own ty_3 F29 v28 l27, R.own ty_3 F18 v17 u16] ∧ F_spec_CuesBetween_L1 u16 x2 x3 m l27 y30 = some r) FU ?_ ?_
      ·
        have hS32 := hS22.push0 (r := R.own ty_3 [] (.slice none 0 0) []) rfl fun _ => .inl ⟨rfl, rfl, rfl⟩
        exact fun a ha => ⟨[], 0, (.slice none 0 0), [], ha.sub ⟨rfl, rfl, rfl, rfl, rfl, rfl, trivial⟩, hB21, (hS32.sel [0, 1] rfl), hF⟩
      ·
        rintro m34 a w24 ⟨l27, y30, v28, F29, ha, hB25, hS26, hF⟩ KL33 hKL33
        refine W.at ?_ ha
        cases m34 with
        | zero => exact noneE hF
        | succ m34 =>
          obtain ⟨nx31, hnx31⟩ : ∃ k, k = F_spec_CuesBetween_L1 u16 x2 x3 m34 := ⟨_, rfl⟩
          rw [F_spec_CuesBetween_L1, ← hnx31] at hF
          refine W.seq fun K35 hK35 => ?_
          refine W.region ?_
          refine wl_lss rfl rfl rfl ?_
          refine WL.nil ?_
          refine fun a ha => hK35 _ _ ?_ a ha
          refine W.seq fun K36 hK36 => ?_
          refine W.cond rfl (fun h37 => ?_) (fun h37 => ?_)
          · replace hF := ifP h37 hF
            refine W.skip ?_
            refine fun a ha => hK36 _ _ ?_ a ha
            refine W.seq fun K38 hK38 => ?_
            obtain ⟨k45, hk45, hF⟩ := jE1 hF
            have hJ46 : ∀ (l42 : (List Int)) (v43 : Value) (F44 : List Nat) (w39 : World) (_ : k45 l42 = some r) (_ : Below w0.heap.size w0 w39) (_ : Sep w0.heap.size w39 [R.own ty_3 F44 v43 l42, R.own ty_3 F18 v17 u16]), ∀ a, St 50 [(2, (.int .i64 x2)), (3, (.int .i64 x3)), (10, v43), (29, v17), (30, (.int .i64 (List.length u16 : Int))), (31, (.int .i64 y30))] a → K38 a w39 := by
              intro l42 v43 F44 w39 hF hB40 hS41
              subst hk45
              refine fun a ha => hK38 _ _ ?_ a ha
              refine W.region ?_
              refine wl_add rfl rfl rfl ?_
              refine wl_move rfl rfl ?_
              refine WL.nil ?_
              rw [hnx31] at hF
              exact fun a ha => hKL33 a _ m34 (Nat.lt_succ_self m34) ⟨l42, (w64 (y30 + 1)), v43, F44, ha.sub ⟨rfl, rfl, rfl, rfl, rfl, rfl, trivial⟩, hB40, (hS41.sel [0, 1] rfl), hF⟩
            refine W.block ?_
            refine W.seq fun K47 hK47 => ?_
            refine W.region ?_
            refine wl_move rfl rfl ?_
            obtain ⟨u48, hu48, hF⟩ := bindE hF
            refine wl_indexo (e := ty_3) (i := 1) Try.underlying29 rfl rfl rfl hS26 rfl hu48 ?_
            rintro p49 _ rfl hp50 ho51
            refine wl_load_p (vs := [(.int .i64 u48)]) (v := (.int .i64 u48)) tf_3 rfl rfl hp50 rfl rfl ?_
            refine wl_assign rfl rfl ?_
            refine wl_assign rfl rfl ?_
            refine WL.nil ?_
            refine fun a ha => hK47 _ _ ?_ a ha
            refine W.seq fun K52 hK52 => ?_
            obtain ⟨k57, hk57, hF⟩ := jE1 hF
            have hJ58 : ∀ (y56 : Bool) (w53 : World) (_ : k57 y56 = some r) (_ : Below w0.heap.size w0 w53) (_ : Sep w0.heap.size w53 [R.own ty_3 F29 v28 l27, R.own ty_3 F18 v17 u16]), ∀ a, St 50 [(2, (.int .i64 x2)), (3, (.int .i64 x3)), (10, v28), (11, (.int .i64 y30)), (29, v17), (30, (.int .i64 (List.length u16 : Int))), (31, (.int .i64 y30)), (43, (.bool y56))] a → K52 a w53 := by
              intro y56 w53 hF hB54 hS55
              subst hk57
              refine fun a ha => hK52 _ _ ?_ a ha
              refine W.cond rfl (fun h59 => ?_) (fun h59 => ?_)
              · replace hF := ifP h59 hF
                refine W.region ?_
                refine wl_move rfl rfl ?_
                refine wl_move rfl rfl ?_
                refine wl_lit (vs := [(.int .i64 y30)]) (l := [y30]) fl_3 Try.underlying29 rfl rfl rfl rfl rfl rfl hB54 hS55 ?_
                intro v60 F61 w62 hb63 hB64 hS65
                obtain ⟨u66, hu66, hF⟩ := bindE hF
                refine wl_append (i := 1) (S := (· < w62.heap.size)) fl_3 Try.underlying29 rfl rfl rfl hB64 hS65 rfl (hS65.own_ro (i := 0) rfl) hu66 ?_
                intro v67 F68 w69 hk70 hB71 hS72
                refine wl_assign rfl rfl ?_
                refine WL.nil ?_
                exact fun a ha => hJ46 (u66) (v67) (F68) _ hF hB71 (hS72.sel [1, 2] rfl) a (ha.sub ⟨rfl, rfl, rfl, rfl, rfl, rfl, trivial⟩)
              · replace hF := ifN h59 hF
                refine W.skip ?_
                exact fun a ha => hJ46 (l27) (v28) (F29) _ hF hB54 (hS55.sel [0, 1] rfl) a (ha.sub ⟨rfl, rfl, rfl, rfl, rfl, rfl, trivial⟩)
            refine W.region ?_
            refine wl_move rfl rfl ?_
            refine wl_move rfl rfl ?_
            refine wl_leq rfl rfl rfl ?_
            refine wl_move rfl rfl ?_
            rcases bE (decide (x2 ≤ u48)) with h73 | h73
            · replace hF := ifP h73 hF
              refine wl_on rfl rfl h73 ?_
              refine wl_move rfl rfl ?_
              refine wl_on rfl rfl h73 ?_
              refine wl_move rfl rfl ?_
              refine wl_on rfl rfl h73 ?_
              refine wl_lss rfl rfl rfl ?_
              refine wl_pick_t rfl rfl h73 rfl ?_
              refine WL.nil ?_
              exact fun a ha => hJ58 ((decide (u48 < x3))) _ hF hB25 (hS26.sel [0, 1] rfl) a (ha.sub ⟨rfl, rfl, rfl, rfl, rfl, rfl, rfl, rfl, trivial⟩)
            · replace hF := ifN h73 hF
              refine wl_off rfl rfl rfl h73 ?_
              refine wl_off rfl rfl rfl h73 ?_
              refine wl_off rfl rfl rfl h73 ?_
              refine wl_pick_f rfl rfl h73 rfl ?_
              refine WL.nil ?_
              exact fun a ha => hJ58 (false) _ hF hB25 (hS26.sel [0, 1] rfl) a (ha.sub ⟨rfl, rfl, rfl, rfl, rfl, rfl, rfl, rfl, trivial⟩)
          · replace hF := ifN h37 hF
            refine W.exit ?_
            refine fun a ha => hK14 _ _ ?_ a ha
            refine W.seq fun K74 hK74 => ?_
            refine W.region ?_
            refine wl_move rfl rfl ?_
            refine wl_assign rfl rfl ?_
            refine wl_assign rfl rfl ?_
            refine WL.nil ?_
            refine fun a ha => hK74 _ _ ?_ a ha
            refine W.ret ?_
            have hr := Option.some.inj hF
            subst hr
            exact rets (vs := [v28, (.bool true)]) hQ rfl ⟨rv_tmp rfl, rv_tmp rfl, trivial⟩ ⟨v28, F29, rfl, hB25, hS26.sel [0] rfl⟩
  refine W.region ?_
  refine wl_move rfl rfl ?_
  refine wl_move rfl rfl ?_
  obtain ⟨u75, hu75, hF⟩ := bindE hF
  refine wl_call rfl Try.call122 (C_spec_tiGood w0 x0 v0_0 (h0_0.ro hB) x1 v1_0 (h1_0.ro hB) _ hu75) rfl ?_
  rintro _ w76 ⟨rfl, hb77⟩
  refine ⟨_, rfl, ?_⟩
  have hB78 := hB.trans (hb77.mono hB.size)
  have hS79 := hS.below hb77
  refine wl_not rfl rfl ?_
  refine wl_move rfl rfl ?_
  rcases bE (!u75) with h81 | h81
  · replace hF := ifP h81 hF
    refine wl_off rfl rfl rfl h81 ?_
    refine wl_off rfl rfl rfl h81 ?_
    refine wl_off rfl rfl rfl h81 ?_
    refine wl_pick_t rfl rfl h81 rfl ?_
    refine wl_move rfl rfl ?_
    refine wl_off rfl rfl rfl rfl ?_
    refine wl_off rfl rfl rfl rfl ?_
    refine wl_off rfl rfl rfl rfl ?_
    refine wl_pick_t rfl rfl rfl rfl ?_
    refine WL.nil ?_
    exact fun a ha => hJ9 (true) _ hF hB78 (hS79.sel [] rfl) a (ha.sub ⟨rfl, rfl, rfl, rfl, rfl, trivial⟩)
  · replace hF := ifN h81 hF
    refine wl_on rfl rfl h81 ?_
    refine wl_move rfl rfl ?_
    refine wl_on rfl rfl h81 ?_
    obtain ⟨u82, hu82, hF⟩ := bindE hF
    refine wl_call rfl Try.call135 (C_spec_tiTime w76 x2 _ hu82) rfl ?_
    rintro _ w83 ⟨rfl, hb84⟩
    refine ⟨_, rfl, ?_⟩
    have hB85 := hB78.trans (hb84.mono hB78.size)
    have hS86 := hS79.below hb84
    refine wl_on rfl rfl h81 ?_
    refine wl_not rfl rfl ?_
    refine wl_pick_f rfl rfl h81 rfl ?_
    refine wl_move rfl rfl ?_
    rcases bE (!u82) with h88 | h88
    · replace hF := ifP h88 hF
      refine wl_off rfl rfl rfl h88 ?_
      refine wl_off rfl rfl rfl h88 ?_
      refine wl_off rfl rfl rfl h88 ?_
      refine wl_pick_t rfl rfl h88 rfl ?_
      refine WL.nil ?_
      exact fun a ha => hJ9 (true) _ hF hB85 (hS86.sel [] rfl) a (ha.sub ⟨rfl, rfl, rfl, rfl, rfl, trivial⟩)
    · replace hF := ifN h88 hF
      refine wl_on rfl rfl h88 ?_
      refine wl_move rfl rfl ?_
      refine wl_on rfl rfl h88 ?_
      obtain ⟨u89, hu89, hF⟩ := bindE hF
      refine wl_call rfl Try.call135 (C_spec_tiTime w83 x3 _ hu89) rfl ?_
      rintro _ w90 ⟨rfl, hb91⟩
      refine ⟨_, rfl, ?_⟩
      have hB92 := hB85.trans (hb91.mono hB85.size)
      have hS93 := hS86.below hb91
      refine wl_on rfl rfl h88 ?_
      refine wl_not rfl rfl ?_
      refine wl_pick_f rfl rfl h88 rfl ?_
      refine WL.nil ?_
      exact fun a ha => hJ9 ((!u89)) _ hF hB92 (hS93.sel [] rfl) a (ha.sub ⟨rfl, rfl, rfl, rfl, rfl, trivial⟩)
theorem C_spec_DrawShiftCues (w0 : World) (x0 : (List Int)) (v0_0 : Value) (h0_0 : rdS ty_5 (· < w0.heap.size) w0 v0_0 x0) (r : ((List (Int × Int)) × (List (Int × (List UInt8))) × Int)) (hF : F_spec_DrawShiftCues x0 = some r) :
    Calls Try.prog 23 [v0_0].toArray w0 fun e w' => ∃ (q0 : Value) (G0 : List Nat) (q1 : Value) (G1 : List Nat), e = .returned (.tuple #[q0, q1, (.int .i64 r.2.2)]) ∧ Below w0.heap.size w0 w' ∧ Sep w0.heap.size w' [R.own ty_183 G0 q0 r.1, R.own ty_44 G1 q1 r.2.1] := by
  refine calls_mk' Try.func23 rfl Try.ntmps23 rfl rfl fun Q hQ hP => ?_
  have hB : Below w0.heap.size w0 w0 := Below.refl _ _
  have hS : Sep w0.heap.size w0 [] := Sep.nil _ _
  unfold F_spec_DrawShiftCues at hF
  refine W.seq fun K1 hK1 => ?_
  refine W.region ?_
  refine wl_assign rfl rfl ?_
  refine wl_assign rfl rfl ?_
  refine wl_assign rfl rfl ?_
  refine WL.nil ?_
  refine fun a ha => hK1 _ _ ?_ a ha
  refine W.seq fun K2 hK2 => ?_
  refine W.region ?_
  refine wl_move rfl rfl ?_
  refine wl_build (zs := [(.slice none 0 0), (.int .i64 0), (.int .u64 0)]) (out := [v0_0, (.int .i64 0), (.int .u64 0)]) (vs := [v0_0]) (css := [[v0_0]]) tf_131 pl_131 rfl rfl (by simp only [List.map_cons, List.map_nil, cells_one ((h0_0.ro hB).one)] <;> rfl) rfl rfl ?_
  refine wl_box (cs := [v0_0, (.int .i64 0), (.int .u64 0)]) rfl rfl rfl hB hS ?_
  intro b3 w4 hb5 hB6 hS7
  refine wl_assign rfl rfl ?_
  refine WL.nil ?_
  refine fun a ha => hK2 _ _ ?_ a ha
  refine W.seq fun K8 hK8 => ?_
  refine W.region ?_
  refine wl_move rfl rfl ?_
  obtain ⟨u9, hu9, hF⟩ := bindE hF
  refine wl_call rfl Try.call126 (C_spec_l1Cur__cues__mut__box w4 (x0, 0, 0) b3 v0_0 (h0_0.oldo hB6 (hS7.sel [0] rfl)) (hS7.sel [0] rfl).base0 _ hu9) rfl ?_
  rintro _ w10 ⟨v15, F16, v17, F18, rfl, hE11, hM12⟩
  refine ⟨_, rfl, ?_⟩
  have hB13 := hS7.takeB [0] rfl (M := [R.blk b3 131 [v0_0, (.int .i64 0), (.int .u64 0)]]) rfl hB6 hE11 hM12
  have hS14 : Sep w0.heap.size w10 [R.blk b3 131 [v0_0, (.int .i64 u9.2.2.2.1), (.int .u64 u9.2.2.2.2)], R.own ty_183 F16 v15 u9.1, R.own ty_44 F18 v17 u9.2.1] := hS7.take [0] [] rfl (M := [R.blk b3 131 [v0_0, (.int .i64 0), (.int .u64 0)]]) rfl hM12 hB6.size
  refine wl_move rfl rfl ?_
  refine wl_extract rfl rfl rfl ?_
  refine wl_extract rfl rfl rfl ?_
  refine wl_assign rfl rfl ?_
  refine wl_assign rfl rfl ?_
  refine WL.nil ?_
  refine fun a ha => hK8 _ _ ?_ a ha
  refine W.seq fun K19 hK19 => ?_
  refine W.region ?_
  refine wl_move rfl rfl ?_
  refine wl_move rfl rfl ?_
  refine wl_move rfl rfl ?_
  refine wl_move rfl rfl ?_
  refine wl_lit (vs := [(.int .i64 501), (.int .i64 (-501))]) (l := [501, (-501)]) fl_3 Try.underlying29 rfl rfl rfl rfl rfl rfl hB13 hS14 ?_
  intro v20 F21 w22 hb23 hB24 hS25
  obtain ⟨u26, hu26, hF⟩ := bindE hF
  refine wl_call rfl Try.call136 (C_spec_l1Cur__among__mut__box w22 (x0, u9.2.2.2.1, u9.2.2.2.2) b3 v0_0 (h0_0.oldo hB24 (hS25.sel [1] rfl)) [501, (-501)] v20 (own_out (hS25.sel [0, 1] rfl)) (hS25.sel [1] rfl).base0 _ hu26) rfl ?_
  rintro _ w27 ⟨rfl, hE28, hM29⟩
  refine ⟨_, rfl, ?_⟩
  have hB30 := hS25.takeB [1] rfl (M := [R.blk b3 131 [v0_0, (.int .i64 u9.2.2.2.1), (.int .u64 u9.2.2.2.2)]]) rfl hB24 hE28 hM29
  have hS31 : Sep w0.heap.size w27 [R.blk b3 131 [v0_0, (.int .i64 u26.2.2.1), (.int .u64 u26.2.2.2)], R.own ty_3 F21 v20 [501, (-501)], R.own ty_183 F16 v15 u9.1, R.own ty_44 F18 v17 u9.2.1] := hS25.take [1] [0, 2, 3] rfl (M := [R.blk b3 131 [v0_0, (.int .i64 u9.2.2.2.1), (.int .u64 u9.2.2.2.2)]]) rfl hM29 hB24.size
  refine wl_lit (vs := [(.int .i64 0), (.int .i64 1), (.int .i64 (-1)), (.int .i64 3), (.int .i64 (-4)), (.int .i64 500), (.int .i64 (-500)), (.int .i64 u26.1)]) (l := [0, 1, (-1), 3, (-4), 500, (-500), u26.1]) fl_3 Try.underlying29 rfl rfl rfl rfl rfl rfl hB30 hS31 ?_
  intro v32 F33 w34 hb35 hB36 hS37
  obtain ⟨u38, hu38, hF⟩ := bindE hF
  refine wl_call rfl Try.call136 (C_spec_l1Cur__among__mut__box w34 (x0, u26.2.2.1, u26.2.2.2) b3 v0_0 (h0_0.oldo hB36 (hS37.sel [1] rfl)) [0, 1, (-1), 3, (-4), 500, (-500), u26.1] v32 (own_out (hS37.sel [0, 1] rfl)) (hS37.sel [1] rfl).base0 _ hu38) rfl ?_
  rintro _ w39 ⟨rfl, hE40, hM41⟩
  refine ⟨_, rfl, ?_⟩
  have hB42 := hS37.takeB [1] rfl (M := [R.blk b3 131 [v0_0, (.int .i64 u26.2.2.1), (.int .u64 u26.2.2.2)]]) rfl hB36 hE40 hM41
  have hS43 : Sep w0.heap.size w39 [R.blk b3 131 [v0_0, (.int .i64 u38.2.2.1), (.int .u64 u38.2.2.2)], R.own ty_3 F33 v32 [0, 1, (-1), 3, (-4), 500, (-500), u26.1], R.own ty_3 F21 v20 [501, (-501)], R.own ty_183 F16 v15 u9.1, R.own ty_44 F18 v17 u9.2.1] := hS37.take [1] [0, 2, 3, 4] rfl (M := [R.blk b3 131 [v0_0, (.int .i64 u26.2.2.1), (.int .u64 u26.2.2.2)]]) rfl hM41 hB36.size
  refine wl_assign rfl rfl ?_
  refine wl_assign rfl rfl ?_
  refine wl_assign rfl rfl ?_
  refine WL.nil ?_
  refine fun a ha => hK19 _ _ ?_ a ha
  refine W.ret ?_
  have hr := Option.some.inj hF
  subst hr
  exact rets (vs := [v15, v17, (.int .i64 u38.1)]) hQ rfl ⟨rv_tmp rfl, rv_tmp rfl, rv_tmp rfl, trivial⟩ ⟨v15, F16, v17, F18, rfl, hB42, hS43.sel [3, 4] rfl⟩
theorem C_impl_ShiftCues (w0 : World) (x0 : (List (Int × Int))) (v0_0 : Value) (h0_0 : rdS ty_183 (· < w0.heap.size) w0 v0_0 x0) (x1 : (List (Int × (List UInt8)))) (v1_0 : Value) (h1_0 : rdS ty_44 (· < w0.heap.size) w0 v1_0 x1) (x2 : Int) (r : ((List (Int × (List UInt8))) × Bool)) (hF : F_impl_ShiftCues x0 x1 x2 = some r) :
    Calls Try.prog 24 [v0_0, v1_0, (.int .i64 x2)].toArray w0 fun e w' => ∃ (q0 : Value) (G0 : List Nat), e = .returned (.tuple #[q0, (.bool r.2)]) ∧ Below w0.heap.size w0 w' ∧ Sep w0.heap.size w' [R.own ty_44 G0 q0 r.1] := by
  refine calls_mk' Try.func24 rfl Try.ntmps24 rfl rfl fun Q hQ hP => ?_
  have hB : Below w0.heap.size w0 w0 := Below.refl _ _
  have hS : Sep w0.heap.size w0 [] := Sep.nil _ _
  unfold F_impl_ShiftCues at hF
  refine W.seq fun K1 hK1 => ?_
  refine W.region ?_
  refine wl_assign rfl rfl ?_
  refine wl_assign rfl rfl ?_
  refine WL.nil ?_
  refine fun a ha => hK1 _ _ ?_ a ha
  refine W.seq fun K2 hK2 => ?_
  refine W.seq fun K3 hK3 => ?_
  obtain ⟨k8, hk8, hF⟩ := jE1 hF
  have hJ9 : ∀ (y7 : Bool) (w4 : World) (_ : k8 y7 = some r) (_ : Below w0.heap.size w0 w4) (_ : Sep w0.heap.size w4 []), ∀ a, St 43 [(0, v0_0), (1, v1_0), (2, (.int .i64 x2)), (19, (.bool y7))] a → K3 a w4 := by
    intro y7 w4 hF hB5 hS6
    subst hk8
    refine fun a ha => hK3 _ _ ?_ a ha
    refine W.cond rfl (fun h10 => ?_) (fun h10 => ?_)
    · replace hF := ifP h10 hF
      refine W.seq fun K11 hK11 => ?_
      refine W.region ?_
      refine wl_assign rfl rfl ?_
      refine wl_assign rfl rfl ?_
      refine WL.nil ?_
      refine fun a ha => hK11 _ _ ?_ a ha
      refine W.ret ?_
      have hS12 := hS6.push0 (r := R.own ty_44 [] (.slice none 0 0) []) rfl fun _ => .inl ⟨rfl, rfl, rfl⟩
      have hr := Option.some.inj hF
      subst hr
      exact rets (vs := [(.slice none 0 0), (.bool false)]) hQ rfl ⟨rv_tmp rfl, rv_tmp rfl, trivial⟩ ⟨(.slice none 0 0), [], rfl, hB5, hS12.sel [0] rfl⟩
    · replace hF := ifN h10 hF
      refine W.skip ?_
      refine fun a ha => hK2 _ _ ?_ a ha
      refine W.seq fun K13 hK13 => ?_
      refine W.region ?_
      refine wl_lit (vs := []) (l := []) fl_44 Try.underlying24 rfl rfl rfl rfl rfl rfl hB5 hS6 ?_
      intro v14 F15 w16 hb17 hB18 hS19
      refine wl_assign rfl rfl ?_
      refine WL.nil ?_
      refine fun a ha => hK13 _ _ ?_ a ha
      refine W.seq fun K20 hK20 => ?_
      refine W.seq fun K21 hK21 => ?_
      refine W.region ?_
      refine wl_move rfl rfl ?_
      refine wl_lenr (e := ty_44) (l := x1) Try.underlying24 rfl rfl h1_0 ?_
      refine wl_move rfl rfl ?_
      refine WL.nil ?_
      refine fun a ha => hK21 _ _ ?_ a ha
      refine W.block ?_
      refine W.loopk (fun m a w22 => ∃ (l25 : (List (Int × (List UInt8)))) (y28 : Int) (v26 : Value) (F27 : List Nat), St 43 [(0, v0_0), (2, (.int .i64 x2)), (8, v26), (21, v1_0), (22, (.int .i64 (List.length x1 : Int))), (23, (.int .i64 y28))] a ∧ Below w0.heap.size w0 w22 ∧ Sep w0.heap.size w22 [R.own ty_44 F27 v26 l25] ∧ F_impl_ShiftCues_L1 x1 x2 x0 m l25 y28 = some r) FU ?_ ?_
      ·
        exact fun a ha => ⟨[], 0, v14, F15, ha.sub ⟨rfl, rfl, rfl, rfl, rfl, rfl, trivial⟩, hB18, (hS19.sel [0] rfl), hF⟩
      ·
        rintro m31 a w22 ⟨l25, y28, v26, F27, ha, hB23, hS24, hF⟩ KL30 hKL30
        refine W.at ?_ ha
        cases m31 with
        | zero => exact noneE hF
        | succ m31 =>
          obtain ⟨nx29, hnx29⟩ : ∃ k, k = F_impl_ShiftCues_L1 x1 x2 x0 m31 := ⟨_, rfl⟩
          rw [F_impl_ShiftCues_L1, ← hnx29] at hF
          refine W.seq fun K32 hK32 => ?_
          refine W.region ?_
          refine wl_lss rfl rfl rfl ?_
          refine WL.nil ?_
          refine fun a ha => hK32 _ _ ?_ a ha
          refine W.seq fun K33 hK33 => ?_
          refine W.cond rfl (fun h34 => ?_) (fun h34 => ?_)
          · replace hF := ifP h34 hF
            refine W.skip ?_
            refine fun a ha => hK33 _ _ ?_ a ha
            refine W.seq fun K35 hK35 => ?_
            refine W.block ?_
            refine W.seq fun K36 hK36 => ?_
            refine W.region ?_
            obtain ⟨u37, hu37, hF⟩ := bindE hF
            refine wl_index (e := ty_44) Try.underlying24 rfl rfl rfl h1_0 hu37 ?_
            rintro p38 _ rfl hp39
            refine wl_load_p (vs := [(.int .i64 u37.1), (.string (mkS u37.2))]) (v := (.agg #[(.int .i64 u37.1), (.string (mkS u37.2))])) tf_44 rfl rfl (hp39.ro hB23) rfl rfl ?_
            refine wl_alloc (cs := [(.int .i64 0), (.string (mkS []))]) tf_44 rfl rfl hB23 hS24 ?_
            intro b40 w41 hb42 hB43 hS44
            refine wl_store_blk (i := 0) (vs := [(.int .i64 u37.1), (.string (mkS u37.2))]) (cs' := [(.int .i64 u37.1), (.string (mkS u37.2))]) tf_44 rfl rfl rfl rfl hB43 hS44 rfl rfl ⟨rfl, rfl, trivial⟩ rfl ?_
            intro w45 hk48 hB46 hS47
            refine WL.nil ?_
            refine fun a ha => hK36 _ _ ?_ a ha
            refine W.region ?_
            refine wl_move rfl rfl ?_
            refine wl_field (o := 0) (off' := 0) ff_44_0 rfl rfl rfl ?_
            refine wl_load_blk (i := 0) (vs := [(.int .i64 u37.1)]) (v := (.int .i64 u37.1)) tf_3 rfl rfl hS47 rfl rfl rfl ?_
            refine wl_move rfl rfl ?_
            refine wl_add rfl rfl rfl ?_
            refine wl_field (o := 1) (off' := 1) ff_44_1 rfl rfl rfl ?_
            refine wl_load_blk (i := 0) (vs := [(.string (mkS u37.2))]) (v := (.string (mkS u37.2))) tf_9 rfl rfl hS47 rfl rfl rfl ?_
            refine wl_build (zs := [(.int .i64 0), (.string (mkS []))]) (out := [(.int .i64 (w64 (u37.1 + x2))), (.string (mkS u37.2))]) (vs := [(.int .i64 (w64 (u37.1 + x2))), (.string (mkS u37.2))]) (css := [[(.int .i64 (w64 (u37.1 + x2)))], [(.string (mkS u37.2))]]) tf_44 pl_44 rfl rfl rfl rfl rfl ?_
            refine wl_lit (vs := [(.agg #[(.int .i64 (w64 (u37.1 + x2))), (.string (mkS u37.2))])]) (l := [((w64 (u37.1 + x2)), u37.2)]) fl_44 Try.underlying24 rfl rfl rfl rfl rfl rfl hB46 hS47 ?_
            intro v49 F50 w51 hb52 hB53 hS54
            obtain ⟨u55, hu55, hF⟩ := bindE hF
            refine wl_append (i := 2) (S := (· < w51.heap.size)) fl_44 Try.underlying24 rfl rfl rfl hB53 hS54 rfl (hS54.own_ro (i := 0) rfl) hu55 ?_
            intro v56 F57 w58 hk59 hB60 hS61
            refine wl_assign rfl rfl ?_
            refine WL.nil ?_
            refine fun a ha => hK35 _ _ ?_ a ha
            refine W.region ?_
            refine wl_add rfl rfl rfl ?_
            refine wl_move rfl rfl ?_
            refine WL.nil ?_
            rw [hnx29] at hF
            exact fun a ha => hKL30 a _ m31 (Nat.lt_succ_self m31) ⟨u55, (w64 (y28 + 1)), v56, F57, ha.sub ⟨rfl, rfl, rfl, rfl, rfl, rfl, trivial⟩, hB60, (hS61.sel [2] rfl), hF⟩
          · replace hF := ifN h34 hF
            refine W.exit ?_
            refine fun a ha => hK20 _ _ ?_ a ha
            refine W.seq fun K62 hK62 => ?_
            refine W.seq fun K63 hK63 => ?_
            refine W.region ?_
            refine wl_move rfl rfl ?_
            refine wl_move rfl rfl ?_
            obtain ⟨u64, hu64, hF⟩ := bindE hF
            refine wl_call rfl Try.call137 (C_impl_areCues w22 x0 v0_0 (h0_0.ro hB23) l25 v26 (hS24.own_ro (i := 0) rfl) _ hu64) rfl ?_
            rintro _ w65 ⟨rfl, hb66⟩
            refine ⟨_, rfl, ?_⟩
            have hB67 := hB23.trans (hb66.mono hB23.size)
            have hS68 := hS24.below hb66
            refine wl_not rfl rfl ?_
            refine WL.nil ?_
            refine fun a ha => hK63 _ _ ?_ a ha
            refine W.cond rfl (fun h70 => ?_) (fun h70 => ?_)
            · replace hF := ifP h70 hF
              refine W.seq fun K71 hK71 => ?_
              refine W.region ?_
              refine wl_assign rfl rfl ?_
              refine wl_assign rfl rfl ?_
              refine WL.nil ?_
              refine fun a ha => hK71 _ _ ?_ a ha
              refine W.ret ?_
              have hS72 := hS68.push0 (r := R.own ty_44 [] (.slice none 0 0) []) rfl fun _ => .inl ⟨rfl, rfl, rfl⟩
              have hr := Option.some.inj hF
              subst hr
              exact rets (vs := [(.slice none 0 0), (.bool false)]) hQ rfl ⟨rv_tmp rfl, rv_tmp rfl, trivial⟩ ⟨(.slice none 0 0), [], rfl, hB67, hS72.sel [0] rfl⟩
            · replace hF := ifN h70 hF
              refine W.skip ?_
              refine fun a ha => hK62 _ _ ?_ a ha
              refine W.seq fun K73 hK73 => ?_
              refine W.region ?_
              refine wl_move rfl rfl ?_
              refine wl_assign rfl rfl ?_
              refine wl_assign rfl rfl ?_
              refine WL.nil ?_
              refine fun a ha => hK73 _ _ ?_ a ha
              refine W.ret ?_
              have hr := Option.some.inj hF
              subst hr
              exact rets (vs := [v26, (.bool true)]) hQ rfl ⟨rv_tmp rfl, rv_tmp rfl, trivial⟩ ⟨v26, F27, rfl, hB67, hS68.sel [0] rfl⟩
  refine W.region ?_
  refine wl_move rfl rfl ?_
  refine wl_move rfl rfl ?_
  obtain ⟨u74, hu74, hF⟩ := bindE hF
  refine wl_call rfl Try.call118 (C_impl_haveCues w0 x0 v0_0 (h0_0.ro hB) x1 v1_0 (h1_0.ro hB) _ hu74) rfl ?_
  rintro _ w75 ⟨rfl, hb76⟩
  refine ⟨_, rfl, ?_⟩
  have hB77 := hB.trans (hb76.mono hB.size)
  have hS78 := hS.below hb76
  refine wl_not rfl rfl ?_
  refine wl_move rfl rfl ?_
  rcases bE (!u74) with h80 | h80
  · replace hF := ifP h80 hF
    refine wl_off rfl rfl rfl h80 ?_
    refine wl_off rfl rfl rfl h80 ?_
    refine wl_off rfl rfl rfl h80 ?_
    refine wl_pick_t rfl rfl h80 rfl ?_
    refine WL.nil ?_
    exact fun a ha => hJ9 (true) _ hF hB77 (hS78.sel [] rfl) a (ha.sub ⟨rfl, rfl, rfl, rfl, trivial⟩)
  · replace hF := ifN h80 hF
    refine wl_on rfl rfl h80 ?_
    refine wl_move rfl rfl ?_
    refine wl_on rfl rfl h80 ?_
    obtain ⟨u81, hu81, hF⟩ := bindE hF
    refine wl_call rfl Try.call128 (C_impl_within w75 x2 (-500) 500 _ hu81) rfl ?_
    rintro _ w82 ⟨rfl, hb83⟩
    refine ⟨_, rfl, ?_⟩
    have hB84 := hB77.trans (hb83.mono hB77.size)
    have hS85 := hS78.below hb83
    refine wl_on rfl rfl h80 ?_
    refine wl_not rfl rfl ?_
    refine wl_pick_f rfl rfl h80 rfl ?_
    refine WL.nil ?_
    exact fun a ha => hJ9 ((!u81)) _ hF hB84 (hS85.sel [] rfl) a (ha.sub ⟨rfl, rfl, rfl, rfl, trivial⟩)
theorem C_spec_tiIf (w0 : World) (x0 : (List (Int × Int))) (v0_0 : Value) (h0_0 : rdS ty_183 (· < w0.heap.size) w0 v0_0 x0) (x1 : (List (Int × (List UInt8)))) (v1_0 : Value) (h1_0 : rdS ty_44 (· < w0.heap.size) w0 v1_0 x1) (r : ((List (Int × (List UInt8))) × Bool)) (hF : F_spec_tiIf x0 x1 = some r) :
    Calls Try.prog 139 [v0_0, v1_0].toArray w0 fun e w' => ∃ (q0 : Value) (G0 : List Nat), e = .returned (.tuple #[q0, (.bool r.2)]) ∧ Below w0.heap.size w0 w' ∧ Sep w0.heap.size w' [R.own ty_44 G0 q0 r.1] := by
  refine calls_mk' Try.func139 rfl Try.ntmps139 rfl rfl fun Q hQ hP => ?_
  have hB : Below w0.heap.size w0 w0 := Below.refl _ _
  have hS : Sep w0.heap.size w0 [] := Sep.nil _ _
  unfold F_spec_tiIf at hF
  refine W.seq fun K1 hK1 => ?_
  refine W.region ?_
  refine wl_assign rfl rfl ?_
  refine wl_assign rfl rfl ?_
  refine WL.nil ?_
  refine fun a ha => hK1 _ _ ?_ a ha
  refine W.seq fun K2 hK2 => ?_
  refine W.seq fun K3 hK3 => ?_
  refine W.region ?_
  refine wl_move rfl rfl ?_
  refine wl_move rfl rfl ?_
  obtain ⟨u4, hu4, hF⟩ := bindE hF
  refine wl_call rfl Try.call217 (C_spec_tiCues w0 x0 v0_0 (h0_0.ro hB) x1 v1_0 (h1_0.ro hB) _ hu4) rfl ?_
  rintro _ w5 ⟨rfl, hb6⟩
  refine ⟨_, rfl, ?_⟩
  have hB7 := hB.trans (hb6.mono hB.size)
  have hS8 := hS.below hb6
  refine wl_not rfl rfl ?_
  refine WL.nil ?_
  refine fun a ha => hK3 _ _ ?_ a ha
  refine W.cond rfl (fun h10 => ?_) (fun h10 => ?_)
  · replace hF := ifP h10 hF
    refine W.seq fun K11 hK11 => ?_
    refine W.region ?_
    refine wl_assign rfl rfl ?_
    refine wl_assign rfl rfl ?_
    refine WL.nil ?_
    refine fun a ha => hK11 _ _ ?_ a ha
    refine W.ret ?_
    have hS12 := hS8.push0 (r := R.own ty_44 [] (.slice none 0 0) []) rfl fun _ => .inl ⟨rfl, rfl, rfl⟩
    have hr := Option.some.inj hF
    subst hr
    exact rets (vs := [(.slice none 0 0), (.bool false)]) hQ rfl ⟨rv_tmp rfl, rv_tmp rfl, trivial⟩ ⟨(.slice none 0 0), [], rfl, hB7, hS12.sel [0] rfl⟩
  · replace hF := ifN h10 hF
    refine W.skip ?_
    refine fun a ha => hK2 _ _ ?_ a ha
    refine W.seq fun K13 hK13 => ?_
    refine W.region ?_
    refine wl_lit (vs := []) (l := []) fl_44 Try.underlying24 rfl rfl rfl rfl rfl rfl hB7 hS8 ?_
    intro v14 F15 w16 hb17 hB18 hS19
    refine wl_move rfl rfl ?_
    obtain ⟨u20, hu20, hF⟩ := bindE hF
    refine wl_append (i := 0) (S := (· < w16.heap.size)) fl_44 Try.underlying24 rfl rfl rfl hB18 hS19 rfl (h1_0.ro hB18) hu20 ?_
    intro v21 F22 w23 hk24 hB25 hS26
    refine wl_assign rfl rfl ?_
    refine wl_assign rfl rfl ?_
    refine WL.nil ?_
    refine fun a ha => hK13 _ _ ?_ a ha
    refine W.ret ?_
    have hr := Option.some.inj hF
    subst hr
    exact rets (vs := [v21, (.bool true)]) hQ rfl ⟨rv_tmp rfl, rv_tmp rfl, trivial⟩ ⟨v21, F22, rfl, hB25, hS26.sel [0] rfl⟩
theorem C_spec_ShiftCues (w0 : World) (x0 : (List (Int × Int))) (v0_0 : Value) (h0_0 : rdS ty_183 (· < w0.heap.size) w0 v0_0 x0) (x1 : (List (Int × (List UInt8)))) (v1_0 : Value) (h1_0 : rdS ty_44 (· < w0.heap.size) w0 v1_0 x1) (x2 : Int) (r : ((List (Int × (List UInt8))) × Bool)) (hF : F_spec_ShiftCues x0 x1 x2 = some r) :
    Calls Try.prog 25 [v0_0, v1_0, (.int .i64 x2)].toArray w0 fun e w' => ∃ (q0 : Value) (G0 : List Nat), e = .returned (.tuple #[q0, (.bool r.2)]) ∧ Below w0.heap.size w0 w' ∧ Sep w0.heap.size w' [R.own ty_44 G0 q0 r.1] := by
  refine calls_mk' Try.func25 rfl Try.ntmps25 rfl rfl fun Q hQ hP => ?_
  have hB : Below w0.heap.size w0 w0 := Below.refl _ _
  have hS : Sep w0.heap.size w0 [] := Sep.nil _ _
  unfold F_spec_ShiftCues at hF
  refine W.seq fun K1 hK1 => ?_
  refine W.region ?_
  refine wl_assign rfl rfl ?_
  refine wl_assign rfl rfl ?_
  refine WL.nil ?_
  refine fun a ha => hK1 _ _ ?_ a ha
  refine W.seq fun K2 hK2 => ?_
  refine W.seq fun K3 hK3 => ?_
  obtain ⟨k8, hk8, hF⟩ := jE1 hF
  have hJ9 : ∀ (y7 : Bool) (w4 : World) (_ : k8 y7 = some r) (_ : Below w0.heap.size w0 w4) (_ : Sep w0.heap.size w4 []), ∀ a, St 42 [(0, v0_0), (1, v1_0), (2, (.int .i64 x2)), (18, (.bool y7))] a → K3 a w4 := by
    intro y7 w4 hF hB5 hS6
    subst hk8
    refine fun a ha => hK3 _ _ ?_ a ha
    refine W.cond rfl (fun h10 => ?_) (fun h10 => ?_)
    · replace hF := ifP h10 hF
      refine W.seq fun K11 hK11 => ?_
      refine W.region ?_
      refine wl_assign rfl rfl ?_
      refine wl_assign rfl rfl ?_
      refine WL.nil ?_
      refine fun a ha => hK11 _ _ ?_ a ha
      refine W.ret ?_
      have hS12 := hS6.push0 (r := R.own ty_44 [] (.slice none 0 0) []) rfl fun _ => .inl ⟨rfl, rfl, rfl⟩
      have hr := Option.some.inj hF
      subst hr
      exact rets (vs := [(.slice none 0 0), (.bool false)]) hQ rfl ⟨rv_tmp rfl, rv_tmp rfl, trivial⟩ ⟨(.slice none 0 0), [], rfl, hB5, hS12.sel [0] rfl⟩
    · replace hF := ifN h10 hF
      refine W.skip ?_
      refine fun a ha => hK2 _ _ ?_ a ha
      refine W.seq fun K13 hK13 => ?_
      refine W.region ?_
      refine wl_lit (vs := []) (l := []) fl_44 Try.underlying24 rfl rfl rfl rfl rfl rfl hB5 hS6 ?_
      intro v14 F15 w16 hb17 hB18 hS19
      refine wl_move rfl rfl ?_
      obtain ⟨u20, hu20, hF⟩ := bindE hF
      refine wl_append (i := 0) (S := (· < w16.heap.size)) fl_44 Try.underlying24 rfl rfl rfl hB18 hS19 rfl (h1_0.ro hB18) hu20 ?_
      intro v21 F22 w23 hk24 hB25 hS26
      refine wl_assign rfl rfl ?_
      refine WL.nil ?_
      refine fun a ha => hK13 _ _ ?_ a ha
      refine W.seq fun K27 hK27 => ?_
      refine W.seq fun K28 hK28 => ?_
      refine W.region ?_
      refine wl_move rfl rfl ?_
      refine wl_lenr (e := ty_44) (l := u20) Try.underlying24 rfl rfl (hS26.own_ro (i := 0) rfl) ?_
      refine wl_move rfl rfl ?_
      refine WL.nil ?_
      refine fun a ha => hK28 _ _ ?_ a ha
      refine W.block ?_
      refine W.loopk (fun m a w29 => ∃ (l32 : (List (Int × (List UInt8)))) (y35 : Int) (v33 : Value) (F34 : List Nat), St 42 [(0, v0_0), (2, (.int .i64 x2)), (8, v33), (23, (.int .i64 (List.length u20 : Int))), (24, (.int .i64 y35))] a ∧ Below w0.heap.size w0 w29 ∧ Sep w0.heap.size w29 [R.own ty_44 F34 v33 l32] ∧ F_spec_ShiftCues_L1 u20 x2 x0 m l32 y35 = some r) FU ?_ ?_
      ·
        exact fun a ha => ⟨u20, 0, v21, F22, ha.sub ⟨rfl, rfl, rfl, rfl, rfl, trivial⟩, hB25, (hS26.sel [0] rfl), hF⟩
      ·
        rintro m38 a w29 ⟨l32, y35, v33, F34, ha, hB30, hS31, hF⟩ KL37 hKL37
        refine W.at ?_ ha
        cases m38 with
        | zero => exact noneE hF
        | succ m38 =>
          obtain ⟨nx36, hnx36⟩ : ∃ k, k = F_spec_ShiftCues_L1 u20 x2 x0 m38 := ⟨_, rfl⟩
          rw [F_spec_ShiftCues_L1, ← hnx36] at hF
          refine W.seq fun K39 hK39 => ?_
          refine W.region ?_
          refine wl_lss rfl rfl rfl ?_
          refine WL.nil ?_
          refine fun a ha => hK39 _ _ ?_ a ha
          refine W.seq fun K40 hK40 => ?_
          refine W.cond rfl (fun h41 => ?_) (fun h41 => ?_)
          · replace hF := ifP h41 hF
            refine W.skip ?_
            refine fun a ha => hK40 _ _ ?_ a ha
            refine W.seq fun K42 hK42 => ?_
            refine W.block ?_
            refine W.seq fun K43 hK43 => ?_
            refine W.region ?_
            refine wl_move rfl rfl ?_
            refine wl_assign rfl rfl ?_
            refine WL.nil ?_
            refine fun a ha => hK43 _ _ ?_ a ha
            refine W.region ?_
            refine wl_move rfl rfl ?_
            refine wl_move rfl rfl ?_
            obtain ⟨u44, hu44, hF⟩ := bindE hF
            refine wl_indexo (e := ty_44) (i := 0) Try.underlying24 rfl rfl rfl hS31 rfl hu44 ?_
            rintro p45 _ rfl hp46 ho47
            refine wl_fieldp (o := 0) ff_44_0 rfl rfl ?_
            refine wl_load_p (vs := [(.int .i64 u44.1)]) (v := (.int .i64 u44.1)) tf_3 rfl rfl (hp46.add 0) rfl rfl ?_
            refine wl_move rfl rfl ?_
            refine wl_add rfl rfl rfl ?_
            obtain ⟨u48, hu48, hF⟩ := bindE hF
            refine wl_indexo (e := ty_44) (i := 0) Try.underlying24 rfl rfl rfl hS31 rfl hu48 ?_
            rintro p49 _ rfl hp50 ho51
            refine wl_fieldp (o := 0) ff_44_0 rfl rfl ?_
            refine wl_storeo (i := 0) (o := 0) (vs := [(.int .i64 (w64 (u44.1 + x2)))]) (u' := ((w64 (u44.1 + x2)), u48.2)) fl_44 tf_3 rfl rfl rfl rfl ho51 hu48 hB30 hS31 rfl rfl ⟨rfl, trivial⟩ rfl ?_
            intro w52 hk55 hB53 hS54
            refine WL.nil ?_
            refine fun a ha => hK42 _ _ ?_ a ha
            refine W.region ?_
            refine wl_add rfl rfl rfl ?_
            refine wl_move rfl rfl ?_
            refine WL.nil ?_
            rw [hnx36] at hF
            exact fun a ha => hKL37 a _ m38 (Nat.lt_succ_self m38) ⟨(seti l32 y35 ((w64 (u44.1 + x2)), u48.2)), (w64 (y35 + 1)), v33, F34, ha.sub ⟨rfl, rfl, rfl, rfl, rfl, trivial⟩, hB53, (hS54.sel [0] rfl), hF⟩
          · replace hF := ifN h41 hF
            refine W.exit ?_
            refine fun a ha => hK27 _ _ ?_ a ha
            refine W.seq fun K56 hK56 => ?_
            refine W.region ?_
            refine wl_move rfl rfl ?_
            refine wl_move rfl rfl ?_
            obtain ⟨u57, hu57, hF⟩ := bindE hF
            refine wl_call rfl Try.call139 (C_spec_tiIf w29 x0 v0_0 (h0_0.ro hB30) l32 v33 (hS31.own_ro (i := 0) rfl) _ hu57) rfl ?_
            rintro _ w60 ⟨v58, F59, rfl, hb61, hM64⟩
            refine ⟨_, rfl, ?_⟩
            have hB62 := hB30.trans (hb61.mono hB30.size)
            have hS63 := hS31.join hb61 hM64 hB30.size
            refine wl_extract rfl rfl rfl ?_
            refine wl_extract rfl rfl rfl ?_
            refine wl_assign rfl rfl ?_
            refine wl_assign rfl rfl ?_
            refine WL.nil ?_
            refine fun a ha => hK56 _ _ ?_ a ha
            refine W.ret ?_
            have hr := Option.some.inj hF
            subst hr
            exact rets (vs := [v58, (.bool u57.2)]) hQ rfl ⟨rv_tmp rfl, rv_tmp rfl, trivial⟩ ⟨v58, F59, rfl, hB62, hS63.sel [0] rfl⟩
  refine W.region ?_
  refine wl_move rfl rfl ?_
  refine wl_move rfl rfl ?_
  obtain ⟨u65, hu65, hF⟩ := bindE hF
  refine wl_call rfl Try.call122 (C_spec_tiGood w0 x0 v0_0 (h0_0.ro hB) x1 v1_0 (h1_0.ro hB) _ hu65) rfl ?_
  rintro _ w66 ⟨rfl, hb67⟩
  refine ⟨_, rfl, ?_⟩
  have hB68 := hB.trans (hb67.mono hB.size)
  have hS69 := hS.below hb67
  refine wl_not rfl rfl ?_
  refine wl_move rfl rfl ?_
  rcases bE (!u65) with h71 | h71
  · replace hF := ifP h71 hF
    refine wl_off rfl rfl rfl h71 ?_
    refine wl_off rfl rfl rfl h71 ?_
    refine wl_off rfl rfl rfl h71 ?_
    refine wl_pick_t rfl rfl h71 rfl ?_
    refine WL.nil ?_
    exact fun a ha => hJ9 (true) _ hF hB68 (hS69.sel [] rfl) a (ha.sub ⟨rfl, rfl, rfl, rfl, trivial⟩)
  · replace hF := ifN h71 hF
    refine wl_on rfl rfl h71 ?_
    refine wl_move rfl rfl ?_
    refine wl_on rfl rfl h71 ?_
    obtain ⟨u72, hu72, hF⟩ := bindE hF
    refine wl_call rfl Try.call138 (C_spec_l1In w66 x2 (-500) 500 _ hu72) rfl ?_
    rintro _ w73 ⟨rfl, hb74⟩
    refine ⟨_, rfl, ?_⟩
    have hB75 := hB68.trans (hb74.mono hB68.size)
    have hS76 := hS69.below hb74
    refine wl_on rfl rfl h71 ?_
    refine wl_not rfl rfl ?_
    refine wl_pick_f rfl rfl h71 rfl ?_
    refine WL.nil ?_
    exact fun a ha => hJ9 ((!u72)) _ hF hB75 (hS76.sel [] rfl) a (ha.sub ⟨rfl, rfl, rfl, rfl, trivial⟩)
theorem C_laws_qInts (w0 : World) (x0 : (List Int)) (v0_0 : Value) (h0_0 : rdS ty_3 (· < w0.heap.size) w0 v0_0 x0) (x1 : (List Int)) (v1_0 : Value) (h1_0 : rdS ty_3 (· < w0.heap.size) w0 v1_0 x1) (r : Bool) (hF : F_laws_qInts x0 x1 = some r) :
    Calls Try.prog 26 [v0_0, v1_0].toArray w0 fun e w' => e = .returned (.bool r) ∧ Below w0.heap.size w0 w' := by
  refine calls_mk' Try.func26 rfl Try.ntmps26 rfl rfl fun Q hQ hP => ?_
  have hB : Below w0.heap.size w0 w0 := Below.refl _ _
  have hS : Sep w0.heap.size w0 [] := Sep.nil _ _
  unfold F_laws_qInts at hF
  refine W.seq fun K1 hK1 => ?_
  refine W.region ?_
  refine wl_assign rfl rfl ?_
  refine WL.nil ?_
  refine fun a ha => hK1 _ _ ?_ a ha
  refine W.seq fun K2 hK2 => ?_
  refine W.seq fun K3 hK3 => ?_
  refine W.region ?_
  refine wl_move rfl rfl ?_
  refine wl_lenr (e := ty_3) (l := x0) Try.underlying29 rfl rfl h0_0 ?_
  refine wl_move rfl rfl ?_
  refine wl_lenr (e := ty_3) (l := x1) Try.underlying29 rfl rfl h1_0 ?_
  refine wl_neq rfl rfl rfl ?_
  refine WL.nil ?_
  refine fun a ha => hK3 _ _ ?_ a ha
  refine W.cond rfl (fun h4 => ?_) (fun h4 => ?_)
  · replace hF := ifP h4 hF
    refine W.seq fun K5 hK5 => ?_
    refine W.region ?_
    refine wl_assign rfl rfl ?_
    refine WL.nil ?_
    refine fun a ha => hK5 _ _ ?_ a ha
    refine W.ret ?_
    have hr := Option.some.inj hF
    subst hr
    exact rets (vs := [(.bool false)]) hQ rfl ⟨rv_tmp rfl, trivial⟩ ⟨rfl, hB⟩
  · replace hF := ifN h4 hF
    refine W.skip ?_
    refine fun a ha => hK2 _ _ ?_ a ha
    refine W.seq fun K6 hK6 => ?_
    refine W.seq fun K7 hK7 => ?_
    refine W.region ?_
    refine wl_move rfl rfl ?_
    refine wl_lenr (e := ty_3) (l := x0) Try.underlying29 rfl rfl h0_0 ?_
    refine wl_move rfl rfl ?_
    refine WL.nil ?_
    refine fun a ha => hK7 _ _ ?_ a ha
    refine W.block ?_
    refine W.loopk (fun m a w8 => ∃ (y11 : Int), St 26 [(0, v0_0), (1, v1_0), (12, (.int .i64 (List.length x0 : Int))), (13, (.int .i64 y11))] a ∧ Below w0.heap.size w0 w8 ∧ Sep w0.heap.size w8 [] ∧ F_laws_qInts_L1 x0 x1 m y11 = some r) FU ?_ ?_
    ·
      exact fun a ha => ⟨0, ha.sub ⟨rfl, rfl, rfl, rfl, trivial⟩, hB, (hS.sel [] rfl), hF⟩
    ·
      rintro m14 a w8 ⟨y11, ha, hB9, hS10, hF⟩ KL13 hKL13
      refine W.at ?_ ha
      cases m14 with
      | zero => exact noneE hF
      | succ m14 =>
        obtain ⟨nx12, hnx12⟩ : ∃ k, k = F_laws_qInts_L1 x0 x1 m14 := ⟨_, rfl⟩
        rw [F_laws_qInts_L1, ← hnx12] at hF
        refine W.seq fun K15 hK15 => ?_
        refine W.region ?_
        refine wl_lss rfl rfl rfl ?_
        refine WL.nil ?_
        refine fun a ha => hK15 _ _ ?_ a ha
        refine W.seq fun K16 hK16 => ?_
        refine W.cond rfl (fun h17 => ?_) (fun h17 => ?_)
        · replace hF := ifP h17 hF
          refine W.skip ?_
          refine fun a ha => hK16 _ _ ?_ a ha
          refine W.seq fun K18 hK18 => ?_
          refine W.block ?_
          refine W.seq fun K19 hK19 => ?_
          refine W.region ?_
          refine wl_move rfl rfl ?_
          refine wl_assign rfl rfl ?_
          refine WL.nil ?_
          refine fun a ha => hK19 _ _ ?_ a ha
          refine W.seq fun K20 hK20 => ?_
          refine W.regionH mixed_ [] hB9 hS10 ?_
          intro w21 hb22 hB23 hS24
          have hSW25 := KeepX.refl w21 []
          refine WH.takex (i := 0) rfl (by kernel_rfl) (by kernel_rfl) (by kernel_rfl) hP hSW25 ?_
          refine pr_move rfl rfl ?_
          refine WH.takex (i := 1) rfl (by kernel_rfl) (by kernel_rfl) (by kernel_rfl) hP hSW25 ?_
          refine pr_move rfl rfl ?_
          obtain ⟨u26, hu26, hF⟩ := bindE hF
          refine WH.takex (i := 2) rfl (by kernel_rfl) (by kernel_rfl) (by kernel_rfl) hP hSW25 ?_
          refine pr_index (e := ty_3) Try.underlying29 rfl rfl rfl h0_0 hu26 ?_
          rintro p27 _ rfl hp28
          refine WH.takex (i := 3) rfl (by kernel_rfl) (by kernel_rfl) (by kernel_rfl) hP hSW25 ?_
          refine pr_load_p (vs := [(.int .i64 u26)]) (v := (.int .i64 u26)) tf_3 rfl rfl (hp28.kx hB23 (by simp)) rfl rfl ?_
          refine WH.takex (i := 4) rfl (by kernel_rfl) (by kernel_rfl) (by kernel_rfl) hP hSW25 ?_
          refine pr_move rfl rfl ?_
          refine WH.takex (i := 5) rfl (by kernel_rfl) (by kernel_rfl) (by kernel_rfl) hP hSW25 ?_
          refine pr_move rfl rfl ?_
          obtain ⟨u29, hu29, hF⟩ := bindE hF
          refine WH.takex (i := 6) rfl (by kernel_rfl) (by kernel_rfl) (by kernel_rfl) hP hSW25 ?_
          refine pr_index (e := ty_3) Try.underlying29 rfl rfl rfl h1_0 hu29 ?_
          rintro p30 _ rfl hp31
          refine WH.takex (i := 7) rfl (by kernel_rfl) (by kernel_rfl) (by kernel_rfl) hP hSW25 ?_
          refine pr_load_p (vs := [(.int .i64 u29)]) (v := (.int .i64 u29)) tf_3 rfl rfl (hp31.kx hB23 (by simp)) rfl rfl ?_
          refine WH.takex (i := 8) rfl (by kernel_rfl) (by kernel_rfl) (by kernel_rfl) hP hSW25 ?_
          refine pr_neq rfl rfl rfl ?_
          refine WH.done (by kernel_rfl) ?_
          refine fun a ha => hK20 _ _ ?_ a ha
          refine W.cond rfl (fun h32 => ?_) (fun h32 => ?_)
          · replace hF := ifP h32 hF
            refine W.seq fun K33 hK33 => ?_
            refine W.region ?_
            refine wl_assign rfl rfl ?_
            refine WL.nil ?_
            refine fun a ha => hK33 _ _ ?_ a ha
            refine W.ret ?_
            have hr := Option.some.inj hF
            subst hr
            exact rets (vs := [(.bool false)]) hQ rfl ⟨rv_tmp rfl, trivial⟩ ⟨rfl, hB23⟩
          · replace hF := ifN h32 hF
            refine W.skip ?_
            refine fun a ha => hK18 _ _ ?_ a ha
            refine W.region ?_
            refine wl_add rfl rfl rfl ?_
            refine wl_move rfl rfl ?_
            refine WL.nil ?_
            rw [hnx12] at hF
            exact fun a ha => hKL13 a _ m14 (Nat.lt_succ_self m14) ⟨(w64 (y11 + 1)), ha.sub ⟨rfl, rfl, rfl, rfl, trivial⟩, hB23, (hS24.sel [] rfl), hF⟩
        · replace hF := ifN h17 hF
          refine W.exit ?_
          refine fun a ha => hK6 _ _ ?_ a ha
          refine W.seq fun K34 hK34 => ?_
          refine W.region ?_
          refine wl_assign rfl rfl ?_
          refine WL.nil ?_
          refine fun a ha => hK34 _ _ ?_ a ha
          refine W.ret ?_
          have hr := Option.some.inj hF
          subst hr
          exact rets (vs := [(.bool true)]) hQ rfl ⟨rv_tmp rfl, trivial⟩ ⟨rfl, hB9⟩
end Go.Proofs.Ytmkignciedkidaa
