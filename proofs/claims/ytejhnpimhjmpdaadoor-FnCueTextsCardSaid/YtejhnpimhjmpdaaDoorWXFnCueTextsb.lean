/-
  THE WALKS of functions of this seat, by program (gen.py, prune.py).
-/
import Derived.Test.YtejhnpimhjmpdaaDoorWXFnCueTextsa
set_option linter.unusedSimpArgs false
set_option linter.unusedVariables false
set_option maxRecDepth 100000
set_option maxHeartbeats 1600000
namespace Go.Proofs.YtejhnpimhjmpdaaDoor
open Go Go.RowKit
theorem C_spec_l1Cur__cues__mut__box (w0 : World) (x0 : ((List Int) × Int × Int)) (b0 : Nat) (v0_0 : Value) (h0_0 : rdS ty_5 (Out (fps [R.blk b0 81 [v0_0, (.int .i64 x0.2.1), (.int .u64 x0.2.2)]]) w0) w0 v0_0 x0.1) (hS0 : Sep 0 w0 [R.blk b0 81 [v0_0, (.int .i64 x0.2.1), (.int .u64 x0.2.2)]]) (r : ((List (Int × Int)) × (List (Int × (List UInt8))) × ((List Int) × Int × Int))) (hF : F_spec_l1Cur__cues__mut__box x0 = some r) :
  Calls Tryd.prog 47 [(.pointer (some ⟨b0, 0, none⟩))].toArray w0 fun e w' => ∃ (q0 : Value) (G0 : List Nat) (q1 : Value) (G1 : List Nat), e = .returned (.tuple #[q0, q1]) ∧ Below 0 (wE w0) w' ∧ Sep 0 w' [R.rest w0 (fps [R.blk b0 81 [v0_0, (.int .i64 x0.2.1), (.int .u64 x0.2.2)]]), R.blk b0 81 [v0_0, (.int .i64 r.2.2.2.1), (.int .u64 r.2.2.2.2)], R.own ty_63 G0 q0 r.1, R.own ty_39 G1 q1 r.2.1] := by
 refine calls_mk' Tryd.func47 rfl Tryd.ntmps47 rfl rfl fun Q hQ hP => ?_
 have hB : Below (wE w0).heap.size (wE w0) w0 := wE_below w0
 have hS : Sep (wE w0).heap.size w0 [R.rest w0 (fps [R.blk b0 81 [v0_0, (.int .i64 x0.2.1), (.int .u64 x0.2.2)]]), R.blk b0 81 [v0_0, (.int .i64 x0.2.1), (.int .u64 x0.2.2)]] := hS0.rest
 unfold F_spec_l1Cur__cues__mut__box at hF
 refine W.seq fun K1 hK1 => W.region (wl_assign rfl rfl (wl_assign rfl rfl (WL.nil (fun a ha => hK1 _ _ (W.seq fun K2 hK2 => (W.region (wl_move rfl rfl ?_))) a ha))))
 obtain ⟨u3, hu3, hF⟩ := bindE hF
 refine wl_call rfl Tryd.call74 (C_spec_l1Cur__anyMusic__mut__box w0 x0 b0 v0_0 (h0_0.rsto (hS.sel [0, 1] rfl)) (hS.sel [1] rfl).base0 _ hu3) rfl ?_
 rintro _ w4 ⟨v9, F10, rfl, hE5, hM6⟩
 refine ⟨_, rfl, ?_⟩
 have hB7 := hS.takeB [1] rfl (M := [R.blk b0 81 [v0_0, (.int .i64 x0.2.1), (.int .u64 x0.2.2)]]) rfl hB hE5 hM6
 have hS8 : Sep (wE w0).heap.size w4 [R.blk b0 81 [v0_0, (.int .i64 u3.2.2.1), (.int .u64 u3.2.2.2)], R.own ty_63 F10 v9 u3.1, R.rest w0 (fps [R.blk b0 81 [v0_0, (.int .i64 x0.2.1), (.int .u64 x0.2.2)]])] := hS.take [1] [0] rfl (M := [R.blk b0 81 [v0_0, (.int .i64 x0.2.1), (.int .u64 x0.2.2)]]) rfl hM6 hB.size
 refine wl_assign rfl rfl (WL.nil (fun a ha => hK2 _ _ (W.seq fun K11 hK11 => (W.seq fun K12 hK12 => (W.region (wl_move rfl rfl ?_)))) a ha))
 obtain ⟨u13, hu13, hF⟩ := bindE hF
 refine wl_call rfl Tryd.call63 (C_spec_muGood w4 u3.1 v9 (hS8.own_ro (i := 1) rfl) _ hu13) rfl ?_
 rintro _ w14 ⟨rfl, hb15⟩
 refine ⟨_, rfl, ?_⟩
 have hB16 := hB7.trans (hb15.mono hB7.size)
 have hS17 := hS8.below hb15
 refine wl_not rfl rfl (WL.nil (fun a ha => hK12 _ _ (W.cond rfl (fun h19 => ?_) (fun h19 => ?_)) a ha))
 ·replace hF := ifP h19 hF
  refine W.seq fun K20 hK20 => W.region (wl_move rfl rfl (wl_build (zs := [(.int .i64 0), (.string (mkS []))]) (out := [(.int .i64 0), (.string (mkS [115, 116, 97, 114, 116]))]) (vs := [(.int .i64 0), (.string (mkS [115, 116, 97, 114, 116]))]) (css := [[(.int .i64 0)], [(.string (mkS [115, 116, 97, 114, 116]))]]) tf_39 pl_39 rfl rfl rfl rfl rfl (wl_lit (vs := [(.agg #[(.int .i64 0), (.string (mkS [115, 116, 97, 114, 116]))])]) (l := [(0, [115, 116, 97, 114, 116])]) fl_39 Tryd.underlying30 rfl rfl rfl rfl rfl rfl hB16 hS17 ?_)))
  intro v21 F22 w23 hb24 hB25 hS26
  refine wl_assign rfl rfl (wl_assign rfl rfl (WL.nil (fun a ha => hK20 _ _ (W.ret ?_) a ha)))
  have hr := Option.some.inj hF
  subst hr
  exact rets (vs := [v9, v21]) hQ rfl ⟨rv_tmp rfl, rv_tmp rfl, trivial⟩ ⟨v9, F10, v21, F22, rfl, hB25, hS26.sel [3, 1, 2, 0] rfl⟩
 ·replace hF := ifN h19 hF
  refine W.skip fun a ha => hK11 _ _ (W.seq fun K27 hK27 => (W.region (wl_lit (vs := [(.string (mkS [115, 116, 97, 114, 116])), (.string (mkS [116, 117, 114, 110])), (.string (mkS [104, 97, 108, 116])), (.string (mkS [100, 114, 117, 109, 115])), (.string (mkS [98, 114, 97, 115, 115])), (.string (mkS [102, 108, 97, 103, 115])), (.string (mkS [101, 110, 100])), (.string (mkS [97])), (.string (mkS [97, 98, 99, 100, 101, 102, 103, 104]))]) (l := [[115, 116, 97, 114, 116], [116, 117, 114, 110], [104, 97, 108, 116], [100, 114, 117, 109, 115], [98, 114, 97, 115, 115], [102, 108, 97, 103, 115], [101, 110, 100], [97], [97, 98, 99, 100, 101, 102, 103, 104]]) fl_9 Tryd.underlying85 rfl rfl rfl rfl rfl rfl hB16 hS17 ?_))) a ha
  intro v28 F29 w30 hb31 hB32 hS33
  refine wl_assign rfl rfl (WL.nil (fun a ha => hK27 _ _ (W.seq fun K34 hK34 => (W.region (wl_assign rfl rfl (WL.nil (fun a ha => hK34 _ _ (W.seq fun K35 hK35 => (W.region (wl_move rfl rfl ?_))) a ha))))) a ha))
  obtain ⟨u36, hu36, hF⟩ := bindE hF
  refine wl_call rfl Tryd.call58 (C_spec_muCounts w30 u3.1 v9 (hS33.own_ro (i := 2) rfl) _ hu36) rfl ?_
  rintro _ w37 ⟨rfl, hb38⟩
  refine ⟨_, rfl, ?_⟩
  have hB39 := hB32.trans (hb38.mono hB32.size)
  have hS40 := hS33.below hb38
  refine wl_quo rfl rfl rfl (by decide) (wl_add rfl rfl rfl (wl_assign rfl rfl (WL.nil (fun a ha => hK35 _ _ (W.seq fun K42 hK42 => (W.seq fun K43 hK43 => (W.region (wl_move rfl rfl (wl_move rfl rfl ?_))))) a ha))))
  obtain ⟨u44, hu44, hF⟩ := bindE hF
  refine wl_call rfl Tryd.call75 (C_spec_l1Cur__pick__mut__box w37 (x0.1, u3.2.2.1, u3.2.2.2) b0 v0_0 (h0_0.rsto (hS40.sel [3, 1] rfl)) (w64 (1 + (w64 (Int.tdiv u36 6)))) (hS40.sel [1] rfl).base0 _ hu44) rfl ?_
  rintro _ w45 ⟨rfl, hE46, hM47⟩
  refine ⟨_, rfl, ?_⟩
  have hB48 := hS40.takeB [1] rfl (M := [R.blk b0 81 [v0_0, (.int .i64 u3.2.2.1), (.int .u64 u3.2.2.2)]]) rfl hB39 hE46 hM47
  have hS49 : Sep (wE w0).heap.size w45 [R.blk b0 81 [v0_0, (.int .i64 u44.2.2.1), (.int .u64 u44.2.2.2)], R.own ty_9 F29 v28 [[115, 116, 97, 114, 116], [116, 117, 114, 110], [104, 97, 108, 116], [100, 114, 117, 109, 115], [98, 114, 97, 115, 115], [102, 108, 97, 103, 115], [101, 110, 100], [97], [97, 98, 99, 100, 101, 102, 103, 104]], R.own ty_63 F10 v9 u3.1, R.rest w0 (fps [R.blk b0 81 [v0_0, (.int .i64 x0.2.1), (.int .u64 x0.2.2)]])] := hS40.take [1] [0, 2, 3] rfl (M := [R.blk b0 81 [v0_0, (.int .i64 u3.2.2.1), (.int .u64 u3.2.2.2)]]) rfl hM47 hB39.size
  refine wl_assign rfl rfl (WL.nil (fun a ha => hK43 _ _ (W.block ?_) a ha))
  refine W.loopk (fun m a w50 => ∃ (y53 : Int) (y54 : Int) (l55 : (List (Int × (List UInt8)))) (y58 : Int) (v56 : Value) (F57 : List Nat), St 122 [(0, (.pointer (some ⟨b0, 0, none⟩))), (4, v9), (5, v28), (6, v56), (7, (.int .i64 (w64 (1 + (w64 (Int.tdiv u36 6)))))), (8, (.int .i64 y58))] a ∧ Below (wE w0).heap.size (wE w0) w50 ∧ Sep (wE w0).heap.size w50 [R.rest w0 (fps [R.blk b0 81 [v0_0, (.int .i64 x0.2.1), (.int .u64 x0.2.2)]]), R.blk b0 81 [v0_0, (.int .i64 y53), (.int .u64 y54)], R.own ty_63 F10 v9 u3.1, R.own ty_9 F29 v28 [[115, 116, 97, 114, 116], [116, 117, 114, 110], [104, 97, 108, 116], [100, 114, 117, 109, 115], [98, 114, 97, 115, 115], [102, 108, 97, 103, 115], [101, 110, 100], [97], [97, 98, 99, 100, 101, 102, 103, 104]], R.own ty_39 F57 v56 l55] ∧ F_spec_l1Cur__cues__mut__box_L1 x0 u36 u3 m y53 y54 l55 y58 = some r) FU ?_ ?_
  ·
   have hS60 := hS49.push0 (r := R.own ty_39 [] (.slice none 0 0) []) rfl fun _ => .inl ⟨rfl, rfl, rfl⟩
   exact fun a ha => ⟨u44.2.2.1, u44.2.2.2, [], u44.1, (.slice none 0 0), [], ha.sub ⟨rfl, rfl, rfl, rfl, rfl, rfl, trivial⟩, hB48, (hS60.sel [4, 1, 3, 2, 0] rfl), hF⟩
  ·
   rintro m62 a w50 ⟨y53, y54, l55, y58, v56, F57, ha, hB51, hS52, hF⟩ KL61 hKL61
   refine W.at ?_ ha
   cases m62 with
   | zero => exact noneE hF
   | succ m62 =>
    obtain ⟨nx59, hnx59⟩ : ∃ k, k = F_spec_l1Cur__cues__mut__box_L1 x0 u36 u3 m62 := ⟨_, rfl⟩
    rw [F_spec_l1Cur__cues__mut__box_L1, ← hnx59] at hF
    refine W.seq fun K63 hK63 => W.seq fun K64 hK64 => ?_
    obtain ⟨k69, hk69, hF⟩ := jE1 hF
    have hJ70 : ∀ (y68 : Bool) (w65 : World) (_ : k69 y68 = some r) (_ : Below (wE w0).heap.size (wE w0) w65) (_ : Sep (wE w0).heap.size w65 [R.rest w0 (fps [R.blk b0 81 [v0_0, (.int .i64 x0.2.1), (.int .u64 x0.2.2)]]), R.blk b0 81 [v0_0, (.int .i64 y53), (.int .u64 y54)], R.own ty_63 F10 v9 u3.1, R.own ty_9 F29 v28 [[115, 116, 97, 114, 116], [116, 117, 114, 110], [104, 97, 108, 116], [100, 114, 117, 109, 115], [98, 114, 97, 115, 115], [102, 108, 97, 103, 115], [101, 110, 100], [97], [97, 98, 99, 100, 101, 102, 103, 104]], R.own ty_39 F57 v56 l55]), ∀ a, St 122 [(0, (.pointer (some ⟨b0, 0, none⟩))), (4, v9), (5, v28), (6, v56), (7, (.int .i64 (w64 (1 + (w64 (Int.tdiv u36 6)))))), (8, (.int .i64 y58)), (37, (.bool y68))] a → K64 a w65 := by
     intro y68 w65 hF hB66 hS67
     subst hk69
     refine fun a ha => hK64 _ _ (W.cond rfl (fun h71 => ?_) (fun h71 => ?_)) a ha
     ·replace hF := ifP h71 hF
      refine W.skip fun a ha => hK63 _ _ (W.seq fun K72 hK72 => (W.block (W.region (wl_move rfl rfl (wl_move rfl rfl (wl_move rfl rfl (wl_move rfl rfl (wl_lenr (e := ty_39) (l := l55) Tryd.underlying30 rfl rfl (hS67.own_ro (i := 4) rfl) ?_)))))))) a ha
      obtain ⟨u73, hu73, hF⟩ := bindE hF
      refine wl_indexoF (e := ty_9) (i := 3) Tryd.underlying85 rfl rfl rfl hS67 rfl hu73 ?_
      rintro p74 _ rfl hp75 ho76
      refine wl_load_p (vs := [(.string (mkS u73))]) (v := (.string (mkS u73))) tf_9 rfl rfl hp75 rfl rfl (wl_build (zs := [(.int .i64 0), (.string (mkS []))]) (out := [(.int .i64 y58), (.string (mkS u73))]) (vs := [(.int .i64 y58), (.string (mkS u73))]) (css := [[(.int .i64 y58)], [(.string (mkS u73))]]) tf_39 pl_39 rfl rfl rfl rfl rfl (wl_lit (vs := [(.agg #[(.int .i64 y58), (.string (mkS u73))])]) (l := [(y58, u73)]) fl_39 Tryd.underlying30 rfl rfl rfl rfl rfl rfl hB66 hS67 ?_))
      intro v77 F78 w79 hb80 hB81 hS82
      have hp75 := hp75.keepS (fun b hb => hb80.block b (((hS67.get (i := 3) rfl).2.1 b hb).2)) (fun _ h => h)
      obtain ⟨u83, hu83, hF⟩ := bindE hF
      refine wl_append (i := 5) (S := (· < w79.heap.size)) fl_39 Tryd.underlying30 rfl rfl rfl hB81 hS82 rfl (hS82.own_ro (i := 0) rfl) hu83 ?_
      intro v84 F85 w86 hk87 hB88 hS89
      have hp75 := hp75.keepS (fun b hb => hk87.2.1 b (((hS82.get (i := 4) rfl).2.1 b hb).2) (hS82.disj (i := 4) (j := 5) rfl rfl rfl b hb)) (fun _ h => h)
      refine wl_assign rfl rfl (WL.nil (fun a ha => hK72 _ _ (W.region (wl_move rfl rfl (wl_move rfl rfl (wl_move rfl rfl ?_)))) a ha))
      obtain ⟨u90, hu90, hF⟩ := bindE hF
      refine wl_call rfl Tryd.call75 (C_spec_l1Cur__pick__mut__box w86 (x0.1, y53, y54) b0 v0_0 (h0_0.rsto (hS89.sel [1, 2] rfl)) (w64 (1 + (w64 (Int.tdiv u36 6)))) (hS89.sel [2] rfl).base0 _ hu90) rfl ?_
      rintro _ w91 ⟨rfl, hE92, hM93⟩
      refine ⟨_, rfl, ?_⟩
      have hB94 := hS89.takeB [2] rfl (M := [R.blk b0 81 [v0_0, (.int .i64 y53), (.int .u64 y54)]]) rfl hB88 hE92 hM93
      have hS95 : Sep (wE w0).heap.size w91 [R.blk b0 81 [v0_0, (.int .i64 u90.2.2.1), (.int .u64 u90.2.2.2)], R.own ty_39 F78 v77 [(y58, u73)], R.rest w0 (fps [R.blk b0 81 [v0_0, (.int .i64 x0.2.1), (.int .u64 x0.2.2)]]), R.own ty_63 F10 v9 u3.1, R.own ty_9 F29 v28 [[115, 116, 97, 114, 116], [116, 117, 114, 110], [104, 97, 108, 116], [100, 114, 117, 109, 115], [98, 114, 97, 115, 115], [102, 108, 97, 103, 115], [101, 110, 100], [97], [97, 98, 99, 100, 101, 102, 103, 104]], R.own ty_39 F85 v84 u83] := hS89.take [2] [0, 1, 3, 4, 5] rfl (M := [R.blk b0 81 [v0_0, (.int .i64 y53), (.int .u64 y54)]]) rfl hM93 hB88.size
      have hp75 := hp75.keepS (fun b hb => mut_kept hM93 b (((hS89.get (i := 4) rfl).2.1 b hb).2) (nf_cons (hS89.disj (i := 4) (j := 2) rfl rfl rfl b hb) nf_nil)) (fun _ h => h)
      refine wl_add rfl rfl rfl (wl_add rfl rfl rfl (wl_assign rfl rfl (WL.nil ?_)))
      rw [hnx59] at hF
      exact fun a ha => hKL61 a _ m62 (Nat.lt_succ_self m62) ⟨u90.2.2.1, u90.2.2.2, u83, (w64 (y58 + (w64 (1 + u90.1)))), v84, F85, ha.sub ⟨rfl, rfl, rfl, rfl, rfl, rfl, trivial⟩, hB94, (hS95.sel [2, 0, 3, 4, 5] rfl), hF⟩
     ·replace hF := ifN h71 hF
      refine W.exit fun a ha => hK42 _ _ (W.seq fun K96 hK96 => ?_) a ha
      obtain ⟨k108, hk108, hF⟩ := jE4 hF
      have hJ109 : ∀ (y100 : Int) (y101 : Int) (l102 : (List (Int × Int))) (l105 : (List (Int × (List UInt8)))) (v103 : Value) (F104 : List Nat) (v106 : Value) (F107 : List Nat) (w97 : World) (_ : k108 y100 y101 l102 l105 = some r) (_ : Below (wE w0).heap.size (wE w0) w97) (_ : Sep (wE w0).heap.size w97 [R.rest w0 (fps [R.blk b0 81 [v0_0, (.int .i64 x0.2.1), (.int .u64 x0.2.2)]]), R.blk b0 81 [v0_0, (.int .i64 y100), (.int .u64 y101)], R.own ty_63 F104 v103 l102, R.own ty_39 F107 v106 l105]), ∀ a, St 122 [(0, (.pointer (some ⟨b0, 0, none⟩))), (4, v103), (6, v106)] a → K96 a w97 := by
       intro y100 y101 l102 l105 v103 F104 v106 F107 w97 hF hB98 hS99
       subst hk108
       refine fun a ha => hK96 _ _ (W.seq fun K110 hK110 => ?_) a ha
       obtain ⟨k119, hk119, hF⟩ := jE3 hF
       have hJ120 : ∀ (y114 : Int) (y115 : Int) (l116 : (List (Int × (List UInt8)))) (v117 : Value) (F118 : List Nat) (w111 : World) (_ : k119 y114 y115 l116 = some r) (_ : Below (wE w0).heap.size (wE w0) w111) (_ : Sep (wE w0).heap.size w111 [R.rest w0 (fps [R.blk b0 81 [v0_0, (.int .i64 x0.2.1), (.int .u64 x0.2.2)]]), R.blk b0 81 [v0_0, (.int .i64 y114), (.int .u64 y115)], R.own ty_63 F104 v103 l102, R.own ty_39 F118 v117 l116]), ∀ a, St 122 [(4, v103), (6, v117)] a → K110 a w111 := by
        intro y114 y115 l116 v117 F118 w111 hF hB112 hS113
        subst hk119
        refine fun a ha => hK110 _ _ (W.seq fun K121 hK121 => (W.region (wl_move rfl rfl (wl_move rfl rfl (wl_assign rfl rfl (wl_assign rfl rfl (WL.nil (fun a ha => hK121 _ _ (W.ret ?_) a ha)))))))) a ha
        have hr := Option.some.inj hF
        subst hr
        exact rets (vs := [v103, v117]) hQ rfl ⟨rv_tmp rfl, rv_tmp rfl, trivial⟩ ⟨v103, F104, v117, F118, rfl, hB112, hS113.sel [0, 1, 2, 3] rfl⟩
       refine W.seq fun K122 hK122 => W.region (wl_move rfl rfl (wl_lenr (e := ty_39) (l := l105) Tryd.underlying30 rfl rfl (hS99.own_ro (i := 3) rfl) (wl_gtr rfl rfl rfl (WL.nil (fun a ha => hK122 _ _ (W.cond rfl (fun h123 => ?_) (fun h123 => ?_)) a ha)))))
       ·replace hF := ifP h123 hF
        refine W.seq fun K124 hK124 => W.region (wl_move rfl rfl (wl_move rfl rfl (wl_move rfl rfl (wl_lenr (e := ty_39) (l := l105) Tryd.underlying30 rfl rfl (hS99.own_ro (i := 3) rfl) ?_))))
        obtain ⟨u125, hu125, hF⟩ := bindE hF
        refine wl_call rfl Tryd.call75 (C_spec_l1Cur__pick__mut__box w97 (x0.1, y100, y101) b0 v0_0 (h0_0.rsto (hS99.sel [0, 1] rfl)) (List.length l105 : Int) (hS99.sel [1] rfl).base0 _ hu125) rfl ?_
        rintro _ w126 ⟨rfl, hE127, hM128⟩
        refine ⟨_, rfl, ?_⟩
        have hB129 := hS99.takeB [1] rfl (M := [R.blk b0 81 [v0_0, (.int .i64 y100), (.int .u64 y101)]]) rfl hB98 hE127 hM128
        have hS130 : Sep (wE w0).heap.size w126 [R.blk b0 81 [v0_0, (.int .i64 u125.2.2.1), (.int .u64 u125.2.2.2)], R.rest w0 (fps [R.blk b0 81 [v0_0, (.int .i64 x0.2.1), (.int .u64 x0.2.2)]]), R.own ty_63 F104 v103 l102, R.own ty_39 F107 v106 l105] := hS99.take [1] [0, 2, 3] rfl (M := [R.blk b0 81 [v0_0, (.int .i64 y100), (.int .u64 y101)]]) rfl hM128 hB98.size
        obtain ⟨u131, hu131, hF⟩ := bindE hF
        refine wl_indexoF (e := ty_39) (i := 3) Tryd.underlying30 rfl rfl rfl hS130 rfl hu131 ?_
        rintro p132 _ rfl hp133 ho134
        refine wl_assign rfl rfl (WL.nil (fun a ha => hK124 _ _ (W.seq fun K135 hK135 => (W.region (wl_move rfl rfl ?_))) a ha))
        obtain ⟨u136, hu136, hF⟩ := bindE hF
        refine wl_call rfl Tryd.call75 (C_spec_l1Cur__pick__mut__box w126 (x0.1, u125.2.2.1, u125.2.2.2) b0 v0_0 (h0_0.rsto (hS130.sel [1, 0] rfl)) 24 (hS130.sel [0] rfl).base0 _ hu136) rfl ?_
        rintro _ w137 ⟨rfl, hE138, hM139⟩
        refine ⟨_, rfl, ?_⟩
        have hB140 := hS130.takeB [0] rfl (M := [R.blk b0 81 [v0_0, (.int .i64 u125.2.2.1), (.int .u64 u125.2.2.2)]]) rfl hB129 hE138 hM139
        have hS141 : Sep (wE w0).heap.size w137 [R.blk b0 81 [v0_0, (.int .i64 u136.2.2.1), (.int .u64 u136.2.2.2)], R.rest w0 (fps [R.blk b0 81 [v0_0, (.int .i64 x0.2.1), (.int .u64 x0.2.2)]]), R.own ty_63 F104 v103 l102, R.own ty_39 F107 v106 l105] := hS130.take [0] [1, 2, 3] rfl (M := [R.blk b0 81 [v0_0, (.int .i64 u125.2.2.1), (.int .u64 u125.2.2.2)]]) rfl hM139 hB129.size
        have hp133 := hp133.keepS (fun b hb => mut_kept hM139 b (((hS130.get (i := 3) rfl).2.1 b hb).2) (nf_cons (hS130.disj (i := 3) (j := 0) rfl rfl rfl b hb) nf_nil)) (fun _ h => h)
        refine WL.nil fun a ha => hK135 _ _ (W.block (W.seq fun K142 hK142 => (W.region (wl_eql rfl rfl rfl (wl_assign rfl rfl (WL.nil (fun a ha => hK142 _ _ (W.cond rfl (fun h143 => ?_) (fun h143 => ?_)) a ha))))))) a ha
        ·replace hF := ifP h143 hF
         refine W.region (wl_move rfl rfl (wl_move rfl rfl (wl_move rfl rfl ?_)))
         obtain ⟨u144, hu144, hF⟩ := bindE hF
         refine wl_call rfl Tryd.call58 (C_spec_muCounts w137 l102 v103 (hS141.own_ro (i := 2) rfl) _ hu144) rfl ?_
         rintro _ w145 ⟨rfl, hb146⟩
         refine ⟨_, rfl, ?_⟩
         have hB147 := hB140.trans (hb146.mono hB140.size)
         have hS148 := hS141.below hb146
         have hp133 := hp133.keepS (fun b hb => hb146.block b (((hS141.get (i := 3) rfl).2.1 b hb).2)) (fun _ h => h)
         refine wl_sub rfl rfl rfl (wl_move rfl rfl ?_)
         obtain ⟨u150, hu150, hF⟩ := bindE hF
         refine wl_call rfl Tryd.call58 (C_spec_muCounts w145 l102 v103 (hS148.own_ro (i := 2) rfl) _ hu150) rfl ?_
         rintro _ w151 ⟨rfl, hb152⟩
         refine ⟨_, rfl, ?_⟩
         have hB153 := hB147.trans (hb152.mono hB147.size)
         have hS154 := hS148.below hb152
         have hp133 := hp133.keepS (fun b hb => hb152.block b (((hS148.get (i := 3) rfl).2.1 b hb).2)) (fun _ h => h)
         refine wl_lit (vs := [(.int .i64 (-1)), (.int .i64 (w64 (u144 - 1))), (.int .i64 u150)]) (l := [(-1), (w64 (u144 - 1)), u150]) fl_3 Tryd.underlying59 rfl rfl rfl rfl rfl rfl hB153 hS154 ?_
         intro v156 F157 w158 hb159 hB160 hS161
         have hp133 := hp133.keepS (fun b hb => hb159.block b (((hS154.get (i := 3) rfl).2.1 b hb).2)) (fun _ h => h)
         obtain ⟨u162, hu162, hF⟩ := bindE hF
         refine wl_call rfl Tryd.call53 (C_spec_l1Cur__among__mut__box w158 (x0.1, u136.2.2.1, u136.2.2.2) b0 v0_0 (h0_0.rsto (hS161.sel [2, 1] rfl)) [(-1), (w64 (u144 - 1)), u150] v156 (own_out (hS161.sel [0, 1] rfl)) (hS161.sel [1] rfl).base0 _ hu162) rfl ?_
         rintro _ w163 ⟨rfl, hE164, hM165⟩
         refine ⟨_, rfl, ?_⟩
         have hB166 := hS161.takeB [1] rfl (M := [R.blk b0 81 [v0_0, (.int .i64 u136.2.2.1), (.int .u64 u136.2.2.2)]]) rfl hB160 hE164 hM165
         have hS167 : Sep (wE w0).heap.size w163 [R.blk b0 81 [v0_0, (.int .i64 u162.2.2.1), (.int .u64 u162.2.2.2)], R.own ty_3 F157 v156 [(-1), (w64 (u144 - 1)), u150], R.rest w0 (fps [R.blk b0 81 [v0_0, (.int .i64 x0.2.1), (.int .u64 x0.2.2)]]), R.own ty_63 F104 v103 l102, R.own ty_39 F107 v106 l105] := hS161.take [1] [0, 2, 3, 4] rfl (M := [R.blk b0 81 [v0_0, (.int .i64 u136.2.2.1), (.int .u64 u136.2.2.2)]]) rfl hM165 hB160.size
         have hp133 := hp133.keepS (fun b hb => mut_kept hM165 b (((hS161.get (i := 4) rfl).2.1 b hb).2) (nf_cons (hS161.disj (i := 4) (j := 1) rfl rfl rfl b hb) nf_nil)) (fun _ h => h)
         refine wl_nilCheck rfl rfl (wl_fieldp (o := 0) ff_39_0 rfl rfl (wl_storeo (i := 4) (o := 0) (vs := [(.int .i64 u162.1)]) (u' := (u162.1, u131.2)) fl_39 tf_3 rfl rfl rfl rfl ho134 hu131 hB166 hS167 rfl rfl ⟨rfl, trivial⟩ rfl ?_))
         intro w168 hk171 hB169 hS170
         refine WL.nil ?_
         exact fun a ha => hJ120 (u162.2.2.1) (u162.2.2.2) ((seti l105 u125.1 (u162.1, u131.2))) (v106) (F107) _ hF hB169 (hS170.sel [2, 0, 3, 4] rfl) a (ha.sub ⟨rfl, rfl, trivial⟩)
        ·replace hF := ifN h143 hF
         refine W.seq fun K172 hK172 => W.region (wl_eql rfl rfl rfl (wl_assign rfl rfl (WL.nil (fun a ha => hK172 _ _ (W.cond rfl (fun h173 => ?_) (fun h173 => ?_)) a ha))))
         ·replace hF := ifP h173 hF
          refine W.region (wl_move rfl rfl (wl_move rfl rfl (wl_lit (vs := [(.string (mkS [])), (.string (mkS [65])), (.string (mkS [97, 98, 99, 100, 101, 102, 103, 104, 105])), (.string (mkS [97, 32, 98])), (.string (mkS [115, 116, 97, 114, 116]))]) (l := [[], [65], [97, 98, 99, 100, 101, 102, 103, 104, 105], [97, 32, 98], [115, 116, 97, 114, 116]]) fl_9 Tryd.underlying85 rfl rfl rfl rfl rfl rfl hB140 hS141 ?_)))
          intro v174 F175 w176 hb177 hB178 hS179
          have hp133 := hp133.keepS (fun b hb => hb177.block b (((hS141.get (i := 3) rfl).2.1 b hb).2)) (fun _ h => h)
          obtain ⟨u180, hu180, hF⟩ := bindE hF
          refine wl_call rfl Tryd.call49 (C_spec_l1Cur__of__mut__box w176 (x0.1, u136.2.2.1, u136.2.2.2) b0 v0_0 (h0_0.rsto (hS179.sel [2, 1] rfl)) [[], [65], [97, 98, 99, 100, 101, 102, 103, 104, 105], [97, 32, 98], [115, 116, 97, 114, 116]] v174 (own_out (hS179.sel [0, 1] rfl)) (hS179.sel [1] rfl).base0 _ hu180) rfl ?_
          rintro _ w181 ⟨rfl, hE182, hM183⟩
          refine ⟨_, rfl, ?_⟩
          have hB184 := hS179.takeB [1] rfl (M := [R.blk b0 81 [v0_0, (.int .i64 u136.2.2.1), (.int .u64 u136.2.2.2)]]) rfl hB178 hE182 hM183
          have hS185 : Sep (wE w0).heap.size w181 [R.blk b0 81 [v0_0, (.int .i64 u180.2.2.1), (.int .u64 u180.2.2.2)], R.own ty_9 F175 v174 [[], [65], [97, 98, 99, 100, 101, 102, 103, 104, 105], [97, 32, 98], [115, 116, 97, 114, 116]], R.rest w0 (fps [R.blk b0 81 [v0_0, (.int .i64 x0.2.1), (.int .u64 x0.2.2)]]), R.own ty_63 F104 v103 l102, R.own ty_39 F107 v106 l105] := hS179.take [1] [0, 2, 3, 4] rfl (M := [R.blk b0 81 [v0_0, (.int .i64 u136.2.2.1), (.int .u64 u136.2.2.2)]]) rfl hM183 hB178.size
          have hp133 := hp133.keepS (fun b hb => mut_kept hM183 b (((hS179.get (i := 4) rfl).2.1 b hb).2) (nf_cons (hS179.disj (i := 4) (j := 1) rfl rfl rfl b hb) nf_nil)) (fun _ h => h)
          refine wl_nilCheck rfl rfl (wl_fieldp (o := 1) ff_39_1 rfl rfl (wl_storeo (i := 4) (o := 1) (vs := [(.string (mkS u180.1))]) (u' := (u131.1, u180.1)) fl_39 tf_9 rfl rfl rfl rfl (ho134.add 1) hu131 hB184 hS185 rfl rfl ⟨rfl, trivial⟩ rfl ?_))
          intro w186 hk189 hB187 hS188
          refine WL.nil ?_
          exact fun a ha => hJ120 (u180.2.2.1) (u180.2.2.2) ((seti l105 u125.1 (u131.1, u180.1))) (v106) (F107) _ hF hB187 (hS188.sel [2, 0, 3, 4] rfl) a (ha.sub ⟨rfl, rfl, trivial⟩)
         ·replace hF := ifN h173 hF
          refine W.skip ?_
          exact fun a ha => hJ120 (u136.2.2.1) (u136.2.2.2) (l105) (v106) (F107) _ hF hB140 (hS141.sel [1, 0, 2, 3] rfl) a (ha.sub ⟨rfl, rfl, trivial⟩)
       ·replace hF := ifN h123 hF
        refine W.skip ?_
        exact fun a ha => hJ120 (y100) (y101) (l105) (v106) (F107) _ hF hB98 (hS99.sel [0, 1, 2, 3] rfl) a (ha.sub ⟨rfl, rfl, trivial⟩)
      refine W.seq fun K190 hK190 => W.region (wl_move rfl rfl ?_)
      obtain ⟨u191, hu191, hF⟩ := bindE hF
      refine wl_call rfl Tryd.call54 (C_spec_l1Cur__one__mut__box w65 (x0.1, y53, y54) b0 v0_0 (h0_0.rsto (hS67.sel [0, 1] rfl)) 24 (hS67.sel [1] rfl).base0 _ hu191) rfl ?_
      rintro _ w192 ⟨rfl, hE193, hM194⟩
      refine ⟨_, rfl, ?_⟩
      have hB195 := hS67.takeB [1] rfl (M := [R.blk b0 81 [v0_0, (.int .i64 y53), (.int .u64 y54)]]) rfl hB66 hE193 hM194
      have hS196 : Sep (wE w0).heap.size w192 [R.blk b0 81 [v0_0, (.int .i64 u191.2.2.1), (.int .u64 u191.2.2.2)], R.rest w0 (fps [R.blk b0 81 [v0_0, (.int .i64 x0.2.1), (.int .u64 x0.2.2)]]), R.own ty_63 F10 v9 u3.1, R.own ty_9 F29 v28 [[115, 116, 97, 114, 116], [116, 117, 114, 110], [104, 97, 108, 116], [100, 114, 117, 109, 115], [98, 114, 97, 115, 115], [102, 108, 97, 103, 115], [101, 110, 100], [97], [97, 98, 99, 100, 101, 102, 103, 104]], R.own ty_39 F57 v56 l55] := hS67.take [1] [0, 2, 3, 4] rfl (M := [R.blk b0 81 [v0_0, (.int .i64 y53), (.int .u64 y54)]]) rfl hM194 hB66.size
      refine WL.nil fun a ha => hK190 _ _ (W.cond rfl (fun h197 => ?_) (fun h197 => ?_)) a ha
      ·replace hF := ifP h197 hF
       refine W.seq fun K198 hK198 => W.region (wl_assign rfl rfl (WL.nil (fun a ha => hK198 _ _ (W.seq fun K199 hK199 => (W.block (W.loopk (fun m a w200 => ∃ (l203 : (List (Int × Int))) (v204 : Value) (F205 : List Nat), St 122 [(0, (.pointer (some ⟨b0, 0, none⟩))), (4, v204)] a ∧ Below (wE w0).heap.size (wE w0) w200 ∧ Sep (wE w0).heap.size w200 [R.rest w0 (fps [R.blk b0 81 [v0_0, (.int .i64 x0.2.1), (.int .u64 x0.2.2)]]), R.blk b0 81 [v0_0, (.int .i64 u191.2.2.1), (.int .u64 u191.2.2.2)], R.own ty_63 F205 v204 l203] ∧ F_spec_l1Cur__cues__mut__box_L2 x0 u191 k108 m l203 = some r) FU ?_ ?_))) a ha)))
       ·
        have hS207 := hS196.push0 (r := R.own ty_63 [] (.slice none 0 0) []) rfl fun _ => .inl ⟨rfl, rfl, rfl⟩
        exact fun a ha => ⟨[], (.slice none 0 0), [], ha.sub ⟨rfl, rfl, trivial⟩, hB195, (hS207.sel [2, 1, 0] rfl), hF⟩
       ·
        rintro m209 a w200 ⟨l203, v204, F205, ha, hB201, hS202, hF⟩ KL208 hKL208
        refine W.at ?_ ha
        cases m209 with
        | zero => exact noneE hF
        | succ m209 =>
         obtain ⟨nx206, hnx206⟩ : ∃ k, k = F_spec_l1Cur__cues__mut__box_L2 x0 u191 k108 m209 := ⟨_, rfl⟩
         rw [F_spec_l1Cur__cues__mut__box_L2, ← hnx206] at hF
         refine W.seq fun K210 hK210 => W.seq fun K211 hK211 => W.region (wl_move rfl rfl (wl_lenr (e := ty_63) (l := l203) Tryd.underlying28 rfl rfl (hS202.own_ro (i := 2) rfl) (wl_lss rfl rfl rfl (WL.nil (fun a ha => hK211 _ _ (W.cond rfl (fun h212 => ?_) (fun h212 => ?_)) a ha)))))
         ·replace hF := ifP h212 hF
          refine W.skip fun a ha => hK210 _ _ (W.block (W.region (wl_move rfl rfl (wl_build (zs := [(.int .i64 0), (.int .i64 0)]) (out := [(.int .i64 4), (.int .i64 120)]) (vs := [(.int .i64 4), (.int .i64 120)]) (css := [[(.int .i64 4)], [(.int .i64 120)]]) tf_63 pl_63 rfl rfl rfl rfl rfl (wl_lit (vs := [(.agg #[(.int .i64 4), (.int .i64 120)])]) (l := [(4, 120)]) fl_63 Tryd.underlying28 rfl rfl rfl rfl rfl rfl hB201 hS202 ?_))))) a ha
          intro v213 F214 w215 hb216 hB217 hS218
          obtain ⟨u219, hu219, hF⟩ := bindE hF
          refine wl_append (i := 3) (S := (· < w215.heap.size)) fl_63 Tryd.underlying28 rfl rfl rfl hB217 hS218 rfl (hS218.own_ro (i := 0) rfl) hu219 ?_
          intro v220 F221 w222 hk223 hB224 hS225
          refine wl_assign rfl rfl (WL.nil ?_)
          rw [hnx206] at hF
          exact fun a ha => hKL208 a _ m209 (Nat.lt_succ_self m209) ⟨u219, v220, F221, ha.sub ⟨rfl, rfl, trivial⟩, hB224, (hS225.sel [1, 2, 3] rfl), hF⟩
         ·replace hF := ifN h212 hF
          refine W.exit fun a ha => hK199 _ _ (W.seq fun K226 hK226 => (W.region (wl_assign rfl rfl (WL.nil (fun a ha => hK226 _ _ (W.seq fun K227 hK227 => (W.region (wl_move rfl rfl ?_))) a ha))))) a ha
          obtain ⟨u228, hu228, hF⟩ := bindE hF
          refine wl_call rfl Tryd.call75 (C_spec_l1Cur__pick__mut__box w200 (x0.1, u191.2.2.1, u191.2.2.2) b0 v0_0 (h0_0.rsto (hS202.sel [0, 1] rfl)) 2 (hS202.sel [1] rfl).base0 _ hu228) rfl ?_
          rintro _ w229 ⟨rfl, hE230, hM231⟩
          refine ⟨_, rfl, ?_⟩
          have hB232 := hS202.takeB [1] rfl (M := [R.blk b0 81 [v0_0, (.int .i64 u191.2.2.1), (.int .u64 u191.2.2.2)]]) rfl hB201 hE230 hM231
          have hS233 : Sep (wE w0).heap.size w229 [R.blk b0 81 [v0_0, (.int .i64 u228.2.2.1), (.int .u64 u228.2.2.2)], R.rest w0 (fps [R.blk b0 81 [v0_0, (.int .i64 x0.2.1), (.int .u64 x0.2.2)]]), R.own ty_63 F205 v204 l203] := hS202.take [1] [0, 2] rfl (M := [R.blk b0 81 [v0_0, (.int .i64 u191.2.2.1), (.int .u64 u191.2.2.2)]]) rfl hM231 hB201.size
          refine wl_add rfl rfl rfl (wl_assign rfl rfl (WL.nil (fun a ha => hK227 _ _ (W.block (W.loopk (fun m a w234 => ∃ (l237 : (List (Int × (List UInt8)))) (v238 : Value) (F239 : List Nat), St 122 [(0, (.pointer (some ⟨b0, 0, none⟩))), (4, v204), (6, v238), (9, (.int .i64 (w64 (30 + u228.1))))] a ∧ Below (wE w0).heap.size (wE w0) w234 ∧ Sep (wE w0).heap.size w234 [R.rest w0 (fps [R.blk b0 81 [v0_0, (.int .i64 x0.2.1), (.int .u64 x0.2.2)]]), R.blk b0 81 [v0_0, (.int .i64 u228.2.2.1), (.int .u64 u228.2.2.2)], R.own ty_63 F205 v204 l203, R.own ty_39 F239 v238 l237] ∧ F_spec_l1Cur__cues__mut__box_L3 u228 k108 l203 m l237 = some r) FU ?_ ?_)) a ha)))
          ·
           have hS241 := hS233.push0 (r := R.own ty_39 [] (.slice none 0 0) []) rfl fun _ => .inl ⟨rfl, rfl, rfl⟩
           exact fun a ha => ⟨[], (.slice none 0 0), [], ha.sub ⟨rfl, rfl, rfl, rfl, trivial⟩, hB232, (hS241.sel [2, 1, 3, 0] rfl), hF⟩
          ·
           rintro m243 a w234 ⟨l237, v238, F239, ha, hB235, hS236, hF⟩ KL242 hKL242
           refine W.at ?_ ha
           cases m243 with
           | zero => exact noneE hF
           | succ m243 =>
            obtain ⟨nx240, hnx240⟩ : ∃ k, k = F_spec_l1Cur__cues__mut__box_L3 u228 k108 l203 m243 := ⟨_, rfl⟩
            rw [F_spec_l1Cur__cues__mut__box_L3, ← hnx240] at hF
            refine W.seq fun K244 hK244 => W.seq fun K245 hK245 => W.region (wl_move rfl rfl (wl_lenr (e := ty_39) (l := l237) Tryd.underlying30 rfl rfl (hS236.own_ro (i := 3) rfl) (wl_move rfl rfl (wl_lss rfl rfl rfl (WL.nil (fun a ha => hK245 _ _ (W.cond rfl (fun h246 => ?_) (fun h246 => ?_)) a ha))))))
            ·replace hF := ifP h246 hF
             refine W.skip fun a ha => hK244 _ _ (W.block (W.region (wl_move rfl rfl (wl_move rfl rfl (wl_lenr (e := ty_39) (l := l237) Tryd.underlying30 rfl rfl (hS236.own_ro (i := 3) rfl) (wl_move rfl rfl (wl_lenr (e := ty_39) (l := l237) Tryd.underlying30 rfl rfl (hS236.own_ro (i := 3) rfl) (wl_quo rfl rfl rfl (by decide) (wl_add rfl rfl rfl (wl_convi Tryd.underlying3 Tryd.underlying5 rfl rfl (wl_move rfl rfl (wl_lenr (e := ty_39) (l := l237) Tryd.underlying30 rfl rfl (hS236.own_ro (i := 3) rfl) ?_)))))))))))) a ha
             refine wl_rem rfl rfl rfl (by decide) (wl_add rfl rfl rfl (wl_convi Tryd.underlying3 Tryd.underlying5 rfl rfl (wl_lit (vs := [(.int .u8 (wu8 (w64 (97 + (w64 (Int.tdiv (List.length l237 : Int) 26)))))), (.int .u8 (wu8 (w64 (97 + (Int.tmod (List.length l237 : Int) 26)))))]) (l := [(wu8 (w64 (97 + (w64 (Int.tdiv (List.length l237 : Int) 26))))), (wu8 (w64 (97 + (Int.tmod (List.length l237 : Int) 26))))]) fl_5 Tryd.underlying35 rfl rfl rfl rfl rfl rfl hB235 hS236 ?_)))
             intro v247 F248 w249 hb250 hB251 hS252
             refine wl_convb fl_5 Tryd.underlying35 Tryd.underlying5 Tryd.underlying9 rfl rfl rfl (hS252.own_ro (i := 0) rfl) (wl_build (zs := [(.int .i64 0), (.string (mkS []))]) (out := [(.int .i64 (List.length l237 : Int)), (.string (mkS (bytesOf [(wu8 (w64 (97 + (w64 (Int.tdiv (List.length l237 : Int) 26))))), (wu8 (w64 (97 + (Int.tmod (List.length l237 : Int) 26))))])))]) (vs := [(.int .i64 (List.length l237 : Int)), (.string (mkS (bytesOf [(wu8 (w64 (97 + (w64 (Int.tdiv (List.length l237 : Int) 26))))), (wu8 (w64 (97 + (Int.tmod (List.length l237 : Int) 26))))])))]) (css := [[(.int .i64 (List.length l237 : Int))], [(.string (mkS (bytesOf [(wu8 (w64 (97 + (w64 (Int.tdiv (List.length l237 : Int) 26))))), (wu8 (w64 (97 + (Int.tmod (List.length l237 : Int) 26))))])))]]) tf_39 pl_39 rfl rfl rfl rfl rfl ?_)
             refine wl_lit (vs := [(.agg #[(.int .i64 (List.length l237 : Int)), (.string (mkS (bytesOf [(wu8 (w64 (97 + (w64 (Int.tdiv (List.length l237 : Int) 26))))), (wu8 (w64 (97 + (Int.tmod (List.length l237 : Int) 26))))])))])]) (l := [((List.length l237 : Int), (bytesOf [(wu8 (w64 (97 + (w64 (Int.tdiv (List.length l237 : Int) 26))))), (wu8 (w64 (97 + (Int.tmod (List.length l237 : Int) 26))))]))]) fl_39 Tryd.underlying30 rfl rfl rfl rfl rfl rfl hB251 hS252 ?_
             intro v253 F254 w255 hb256 hB257 hS258
             obtain ⟨u259, hu259, hF⟩ := bindE hF
             refine wl_append (i := 5) (S := (· < w255.heap.size)) fl_39 Tryd.underlying30 rfl rfl rfl hB257 hS258 rfl (hS258.own_ro (i := 0) rfl) hu259 ?_
             intro v260 F261 w262 hk263 hB264 hS265
             refine wl_assign rfl rfl (WL.nil ?_)
             rw [hnx240] at hF
             exact fun a ha => hKL242 a _ m243 (Nat.lt_succ_self m243) ⟨u259, v260, F261, ha.sub ⟨rfl, rfl, rfl, rfl, trivial⟩, hB264, (hS265.sel [2, 3, 4, 5] rfl), hF⟩
            ·replace hF := ifN h246 hF
             refine W.exit ?_
             exact fun a ha => hJ109 (u228.2.2.1) (u228.2.2.2) (l203) (l237) (v204) (F205) (v238) (F239) _ hF hB235 (hS236.sel [0, 1, 2, 3] rfl) a (ha.sub ⟨rfl, rfl, rfl, trivial⟩)
      ·replace hF := ifN h197 hF
       refine W.skip ?_
       exact fun a ha => hJ109 (u191.2.2.1) (u191.2.2.2) (u3.1) (l55) (v9) (F10) (v56) (F57) _ hF hB195 (hS196.sel [1, 0, 2, 4] rfl) a (ha.sub ⟨rfl, rfl, rfl, trivial⟩)
    refine W.region (wl_move rfl rfl (wl_move rfl rfl ?_))
    obtain ⟨u266, hu266, hF⟩ := bindE hF
    refine wl_call rfl Tryd.call58 (C_spec_muCounts w50 u3.1 v9 (hS52.own_ro (i := 2) rfl) _ hu266) rfl ?_
    rintro _ w267 ⟨rfl, hb268⟩
    refine ⟨_, rfl, ?_⟩
    have hB269 := hB51.trans (hb268.mono hB51.size)
    have hS270 := hS52.below hb268
    refine wl_lss rfl rfl rfl (wl_move rfl rfl ?_)
    rcases bE (decide (y58 < u266)) with h272 | h272
    ·replace hF := ifP h272 hF
     refine wl_on rfl rfl h272 (wl_move rfl rfl (wl_on rfl rfl h272 (wl_lenr (e := ty_39) (l := l55) Tryd.underlying30 rfl rfl (hS270.own_ro (i := 4) rfl) (wl_on rfl rfl h272 (wl_move rfl rfl (wl_on rfl rfl h272 (wl_lenr (e := ty_9) (l := [[115, 116, 97, 114, 116], [116, 117, 114, 110], [104, 97, 108, 116], [100, 114, 117, 109, 115], [98, 114, 97, 115, 115], [102, 108, 97, 103, 115], [101, 110, 100], [97], [97, 98, 99, 100, 101, 102, 103, 104]]) Tryd.underlying85 rfl rfl (hS270.own_ro (i := 3) rfl) (wl_on rfl rfl h272 (wl_lss rfl rfl rfl (wl_pick_t rfl rfl h272 rfl (WL.nil ?_)))))))))))
     exact fun a ha => hJ70 ((decide ((List.length l55 : Int) < (List.length [[115, 116, 97, 114, 116], [116, 117, 114, 110], [104, 97, 108, 116], [100, 114, 117, 109, 115], [98, 114, 97, 115, 115], [102, 108, 97, 103, 115], [101, 110, 100], [97], [97, 98, 99, 100, 101, 102, 103, 104]] : Int)))) _ hF hB269 (hS270.sel [0, 1, 2, 3, 4] rfl) a (ha.sub ⟨rfl, rfl, rfl, rfl, rfl, rfl, rfl, trivial⟩)
    ·replace hF := ifN h272 hF
     refine wl_off rfl rfl rfl h272 (wl_off rfl rfl rfl h272 (wl_off rfl rfl rfl h272 (wl_off rfl rfl rfl h272 (wl_off rfl rfl rfl h272 (wl_pick_f rfl rfl h272 rfl (WL.nil ?_))))))
     exact fun a ha => hJ70 (false) _ hF hB269 (hS270.sel [0, 1, 2, 3, 4] rfl) a (ha.sub ⟨rfl, rfl, rfl, rfl, rfl, rfl, rfl, trivial⟩)
theorem C_spec_DrawAreCues (w0 : World) (x0 : (List Int)) (v0_0 : Value) (h0_0 : rdS ty_5 (· < w0.heap.size) w0 v0_0 x0) (r : ((List (Int × Int)) × (List (Int × (List UInt8))))) (hF : F_spec_DrawAreCues x0 = some r) :
  Calls Tryd.prog 23 [v0_0].toArray w0 fun e w' => ∃ (q0 : Value) (G0 : List Nat) (q1 : Value) (G1 : List Nat), e = .returned (.tuple #[q0, q1]) ∧ Below w0.heap.size w0 w' ∧ Sep w0.heap.size w' [R.own ty_63 G0 q0 r.1, R.own ty_39 G1 q1 r.2] := by
 refine calls_mk' Tryd.func23 rfl Tryd.ntmps23 rfl rfl fun Q hQ hP => ?_
 have hB : Below w0.heap.size w0 w0 := Below.refl _ _
 have hS : Sep w0.heap.size w0 [] := Sep.nil _ _
 unfold F_spec_DrawAreCues at hF
 refine W.seq fun K1 hK1 => W.region (wl_assign rfl rfl (wl_assign rfl rfl (WL.nil (fun a ha => hK1 _ _ (W.seq fun K2 hK2 => (W.region (wl_move rfl rfl (wl_build (zs := [(.slice none 0 0), (.int .i64 0), (.int .u64 0)]) (out := [v0_0, (.int .i64 0), (.int .u64 0)]) (vs := [v0_0]) (css := [[v0_0]]) tf_81 pl_81 rfl rfl (by simp only [List.map_cons, List.map_nil, cells_one ((h0_0.ro hB).one)] <;> rfl) rfl rfl (wl_box (cs := [v0_0, (.int .i64 0), (.int .u64 0)]) rfl rfl rfl hB hS ?_))))) a ha))))
 intro b3 w4 hb5 hB6 hS7
 refine wl_assign rfl rfl (WL.nil (fun a ha => hK2 _ _ (W.seq fun K8 hK8 => (W.region (wl_move rfl rfl ?_))) a ha))
 obtain ⟨u9, hu9, hF⟩ := bindE hF
 refine wl_call rfl Tryd.call47 (C_spec_l1Cur__cues__mut__box w4 (x0, 0, 0) b3 v0_0 (h0_0.oldo hB6 (hS7.sel [0] rfl)) (hS7.sel [0] rfl).base0 _ hu9) rfl ?_
 rintro _ w10 ⟨v15, F16, v17, F18, rfl, hE11, hM12⟩
 refine ⟨_, rfl, ?_⟩
 have hB13 := hS7.takeB [0] rfl (M := [R.blk b3 81 [v0_0, (.int .i64 0), (.int .u64 0)]]) rfl hB6 hE11 hM12
 have hS14 : Sep w0.heap.size w10 [R.blk b3 81 [v0_0, (.int .i64 u9.2.2.2.1), (.int .u64 u9.2.2.2.2)], R.own ty_63 F16 v15 u9.1, R.own ty_39 F18 v17 u9.2.1] := hS7.take [0] [] rfl (M := [R.blk b3 81 [v0_0, (.int .i64 0), (.int .u64 0)]]) rfl hM12 hB6.size
 refine wl_extract rfl rfl rfl (wl_extract rfl rfl rfl (wl_assign rfl rfl (wl_assign rfl rfl (WL.nil (fun a ha => hK8 _ _ (W.ret ?_) a ha)))))
 have hr := Option.some.inj hF
 subst hr
 exact rets (vs := [v15, v17]) hQ rfl ⟨rv_tmp rfl, rv_tmp rfl, trivial⟩ ⟨v15, F16, v17, F18, rfl, hB13, hS14.sel [1, 2] rfl⟩
theorem C_spec_DrawTimetableText (w0 : World) (x0 : (List Int)) (v0_0 : Value) (h0_0 : rdS ty_5 (· < w0.heap.size) w0 v0_0 x0) (r : ((List (Int × Int)) × (List (Int × (List UInt8))))) (hF : F_spec_DrawTimetableText x0 = some r) :
  Calls Tryd.prog 13 [v0_0].toArray w0 fun e w' => ∃ (q0 : Value) (G0 : List Nat) (q1 : Value) (G1 : List Nat), e = .returned (.tuple #[q0, q1]) ∧ Below w0.heap.size w0 w' ∧ Sep w0.heap.size w' [R.own ty_63 G0 q0 r.1, R.own ty_39 G1 q1 r.2] := by
 refine calls_mk' Tryd.func13 rfl Tryd.ntmps13 rfl rfl fun Q hQ hP => ?_
 have hB : Below w0.heap.size w0 w0 := Below.refl _ _
 have hS : Sep w0.heap.size w0 [] := Sep.nil _ _
 unfold F_spec_DrawTimetableText at hF
 refine W.seq fun K1 hK1 => W.region (wl_assign rfl rfl (wl_assign rfl rfl (WL.nil (fun a ha => hK1 _ _ (W.seq fun K2 hK2 => (W.region (wl_move rfl rfl ?_))) a ha))))
 obtain ⟨u3, hu3, hF⟩ := bindE hF
 refine wl_call rfl Tryd.call23 (C_spec_DrawAreCues w0 x0 v0_0 (h0_0.ro hB) _ hu3) rfl ?_
 rintro _ w8 ⟨v4, F5, v6, F7, rfl, hb9, hM12⟩
 refine ⟨_, rfl, ?_⟩
 have hB10 := hB.trans (hb9.mono hB.size)
 have hS11 := hS.join hb9 hM12 hB.size
 refine wl_extract rfl rfl rfl (wl_extract rfl rfl rfl (wl_assign rfl rfl (wl_assign rfl rfl (WL.nil (fun a ha => hK2 _ _ (W.ret ?_) a ha)))))
 have hr := Option.some.inj hF
 subst hr
 exact rets (vs := [v4, v6]) hQ rfl ⟨rv_tmp rfl, rv_tmp rfl, trivial⟩ ⟨v4, F5, v6, F7, rfl, hB10, hS11.sel [0, 1] rfl⟩
theorem C_spec_l1Cur__countOf__mut__box (w0 : World) (x0 : ((List Int) × Int × Int)) (b0 : Nat) (v0_0 : Value) (h0_0 : rdS ty_5 (Out (fps [R.blk b0 81 [v0_0, (.int .i64 x0.2.1), (.int .u64 x0.2.2)]]) w0) w0 v0_0 x0.1) (x1 : (List (Int × Int))) (v1_0 : Value) (h1_0 : rdS ty_63 (Out (fps [R.blk b0 81 [v0_0, (.int .i64 x0.2.1), (.int .u64 x0.2.2)]]) w0) w0 v1_0 x1) (hS0 : Sep 0 w0 [R.blk b0 81 [v0_0, (.int .i64 x0.2.1), (.int .u64 x0.2.2)]]) (r : (Int × ((List Int) × Int × Int))) (hF : F_spec_l1Cur__countOf__mut__box x0 x1 = some r) :
  Calls Tryd.prog 48 [(.pointer (some ⟨b0, 0, none⟩)), v1_0].toArray w0 fun e w' => e = .returned (.int .i64 r.1) ∧ Below 0 (wE w0) w' ∧ Sep 0 w' [R.rest w0 (fps [R.blk b0 81 [v0_0, (.int .i64 x0.2.1), (.int .u64 x0.2.2)]]), R.blk b0 81 [v0_0, (.int .i64 r.2.2.1), (.int .u64 r.2.2.2)]] := by
 refine calls_mk' Tryd.func48 rfl Tryd.ntmps48 rfl rfl fun Q hQ hP => ?_
 have hB : Below (wE w0).heap.size (wE w0) w0 := wE_below w0
 have hS : Sep (wE w0).heap.size w0 [R.rest w0 (fps [R.blk b0 81 [v0_0, (.int .i64 x0.2.1), (.int .u64 x0.2.2)]]), R.blk b0 81 [v0_0, (.int .i64 x0.2.1), (.int .u64 x0.2.2)]] := hS0.rest
 unfold F_spec_l1Cur__countOf__mut__box at hF
 refine W.seq fun K1 hK1 => W.region (wl_assign rfl rfl (WL.nil (fun a ha => hK1 _ _ (W.seq fun K2 hK2 => (W.region (wl_assign rfl rfl (WL.nil (fun a ha => hK2 _ _ (W.seq fun K3 hK3 => ?_) a ha))))) a ha)))
 obtain ⟨k8, hk8, hF⟩ := jE1 hF
 have hJ9 : ∀ (y7 : Int) (w4 : World) (_ : k8 y7 = some r) (_ : Below (wE w0).heap.size (wE w0) w4) (_ : Sep (wE w0).heap.size w4 [R.rest w0 (fps [R.blk b0 81 [v0_0, (.int .i64 x0.2.1), (.int .u64 x0.2.2)]]), R.blk b0 81 [v0_0, (.int .i64 x0.2.1), (.int .u64 x0.2.2)]]), ∀ a, St 27 [(0, (.pointer (some ⟨b0, 0, none⟩))), (5, (.int .i64 y7))] a → K3 a w4 := by
  intro y7 w4 hF hB5 hS6
  subst hk8
  refine fun a ha => hK3 _ _ (W.seq fun K10 hK10 => (W.region (wl_move rfl rfl (wl_move rfl rfl (wl_move rfl rfl ?_))))) a ha
  obtain ⟨u11, hu11, hF⟩ := bindE hF
  refine wl_call rfl Tryd.call75 (C_spec_l1Cur__pick__mut__box w4 x0 b0 v0_0 (h0_0.rsto (hS6.sel [0, 1] rfl)) y7 (hS6.sel [1] rfl).base0 _ hu11) rfl ?_
  rintro _ w12 ⟨rfl, hE13, hM14⟩
  refine ⟨_, rfl, ?_⟩
  have hB15 := hS6.takeB [1] rfl (M := [R.blk b0 81 [v0_0, (.int .i64 x0.2.1), (.int .u64 x0.2.2)]]) rfl hB5 hE13 hM14
  have hS16 : Sep (wE w0).heap.size w12 [R.blk b0 81 [v0_0, (.int .i64 u11.2.2.1), (.int .u64 u11.2.2.2)], R.rest w0 (fps [R.blk b0 81 [v0_0, (.int .i64 x0.2.1), (.int .u64 x0.2.2)]])] := hS6.take [1] [0] rfl (M := [R.blk b0 81 [v0_0, (.int .i64 x0.2.1), (.int .u64 x0.2.2)]]) rfl hM14 hB5.size
  refine wl_move rfl rfl (wl_move rfl rfl ?_)
  obtain ⟨u17, hu17, hF⟩ := bindE hF
  refine wl_call rfl Tryd.call75 (C_spec_l1Cur__pick__mut__box w12 (x0.1, u11.2.2.1, u11.2.2.2) b0 v0_0 (h0_0.rsto (hS16.sel [1, 0] rfl)) y7 (hS16.sel [0] rfl).base0 _ hu17) rfl ?_
  rintro _ w18 ⟨rfl, hE19, hM20⟩
  refine ⟨_, rfl, ?_⟩
  have hB21 := hS16.takeB [0] rfl (M := [R.blk b0 81 [v0_0, (.int .i64 u11.2.2.1), (.int .u64 u11.2.2.2)]]) rfl hB15 hE19 hM20
  have hS22 : Sep (wE w0).heap.size w18 [R.blk b0 81 [v0_0, (.int .i64 u17.2.2.1), (.int .u64 u17.2.2.2)], R.rest w0 (fps [R.blk b0 81 [v0_0, (.int .i64 x0.2.1), (.int .u64 x0.2.2)]])] := hS16.take [0] [1] rfl (M := [R.blk b0 81 [v0_0, (.int .i64 u11.2.2.1), (.int .u64 u11.2.2.2)]]) rfl hM20 hB15.size
  refine wl_move rfl rfl (wl_sub rfl rfl rfl (wl_move rfl rfl (wl_move rfl rfl (wl_move rfl rfl (wl_add rfl rfl rfl (wl_lit (vs := [(.int .i64 (-1)), (.int .i64 (w64 (y7 + 1)))]) (l := [(-1), (w64 (y7 + 1))]) fl_3 Tryd.underlying59 rfl rfl rfl rfl rfl rfl hB21 hS22 ?_))))))
  intro v23 F24 w25 hb26 hB27 hS28
  obtain ⟨u29, hu29, hF⟩ := bindE hF
  refine wl_call rfl Tryd.call53 (C_spec_l1Cur__among__mut__box w25 (x0.1, u17.2.2.1, u17.2.2.2) b0 v0_0 (h0_0.rsto (hS28.sel [2, 1] rfl)) [(-1), (w64 (y7 + 1))] v23 (own_out (hS28.sel [0, 1] rfl)) (hS28.sel [1] rfl).base0 _ hu29) rfl ?_
  rintro _ w30 ⟨rfl, hE31, hM32⟩
  refine ⟨_, rfl, ?_⟩
  have hB33 := hS28.takeB [1] rfl (M := [R.blk b0 81 [v0_0, (.int .i64 u17.2.2.1), (.int .u64 u17.2.2.2)]]) rfl hB27 hE31 hM32
  have hS34 : Sep (wE w0).heap.size w30 [R.blk b0 81 [v0_0, (.int .i64 u29.2.2.1), (.int .u64 u29.2.2.2)], R.own ty_3 F24 v23 [(-1), (w64 (y7 + 1))], R.rest w0 (fps [R.blk b0 81 [v0_0, (.int .i64 x0.2.1), (.int .u64 x0.2.2)]])] := hS28.take [1] [0, 2] rfl (M := [R.blk b0 81 [v0_0, (.int .i64 u17.2.2.1), (.int .u64 u17.2.2.2)]]) rfl hM32 hB27.size
  refine wl_lit (vs := [(.int .i64 0), (.int .i64 u11.1), (.int .i64 u17.1), (.int .i64 (w64 (y7 - 1))), (.int .i64 y7), (.int .i64 u29.1)]) (l := [0, u11.1, u17.1, (w64 (y7 - 1)), y7, u29.1]) fl_3 Tryd.underlying59 rfl rfl rfl rfl rfl rfl hB33 hS34 ?_
  intro v35 F36 w37 hb38 hB39 hS40
  obtain ⟨u41, hu41, hF⟩ := bindE hF
  refine wl_call rfl Tryd.call53 (C_spec_l1Cur__among__mut__box w37 (x0.1, u29.2.2.1, u29.2.2.2) b0 v0_0 (h0_0.rsto (hS40.sel [3, 1] rfl)) [0, u11.1, u17.1, (w64 (y7 - 1)), y7, u29.1] v35 (own_out (hS40.sel [0, 1] rfl)) (hS40.sel [1] rfl).base0 _ hu41) rfl ?_
  rintro _ w42 ⟨rfl, hE43, hM44⟩
  refine ⟨_, rfl, ?_⟩
  have hB45 := hS40.takeB [1] rfl (M := [R.blk b0 81 [v0_0, (.int .i64 u29.2.2.1), (.int .u64 u29.2.2.2)]]) rfl hB39 hE43 hM44
  have hS46 : Sep (wE w0).heap.size w42 [R.blk b0 81 [v0_0, (.int .i64 u41.2.2.1), (.int .u64 u41.2.2.2)], R.own ty_3 F36 v35 [0, u11.1, u17.1, (w64 (y7 - 1)), y7, u29.1], R.own ty_3 F24 v23 [(-1), (w64 (y7 + 1))], R.rest w0 (fps [R.blk b0 81 [v0_0, (.int .i64 x0.2.1), (.int .u64 x0.2.2)]])] := hS40.take [1] [0, 2, 3] rfl (M := [R.blk b0 81 [v0_0, (.int .i64 u29.2.2.1), (.int .u64 u29.2.2.2)]]) rfl hM44 hB39.size
  refine wl_assign rfl rfl (WL.nil (fun a ha => hK10 _ _ (W.ret ?_) a ha))
  have hr := Option.some.inj hF
  subst hr
  exact rets (vs := [(.int .i64 u41.1)]) hQ rfl ⟨rv_tmp rfl, trivial⟩ ⟨rfl, hB45, hS46.sel [3, 0] rfl⟩
 refine W.seq fun K47 hK47 => W.region (wl_move rfl rfl ?_)
 obtain ⟨u48, hu48, hF⟩ := bindE hF
 refine wl_call rfl Tryd.call63 (C_spec_muGood w0 x1 v1_0 (h1_0.rst (i := 0) hS rfl) _ hu48) rfl ?_
 rintro _ w49 ⟨rfl, hb50⟩
 refine ⟨_, rfl, ?_⟩
 have hB51 := hB.trans (hb50.mono hB.size)
 have hS52 := hS.below hb50
 refine WL.nil fun a ha => hK47 _ _ (W.cond rfl (fun h54 => ?_) (fun h54 => ?_)) a ha
 ·replace hF := ifP h54 hF
  refine W.region (wl_move rfl rfl ?_)
  obtain ⟨u55, hu55, hF⟩ := bindE hF
  refine wl_call rfl Tryd.call58 (C_spec_muCounts w49 x1 v1_0 (h1_0.rst (i := 0) hS52 rfl) _ hu55) rfl ?_
  rintro _ w56 ⟨rfl, hb57⟩
  refine ⟨_, rfl, ?_⟩
  have hB58 := hB51.trans (hb57.mono hB51.size)
  have hS59 := hS52.below hb57
  refine wl_assign rfl rfl (WL.nil ?_)
  exact fun a ha => hJ9 (u55) _ hF hB58 (hS59.sel [0, 1] rfl) a (ha.sub ⟨rfl, rfl, trivial⟩)
 ·replace hF := ifN h54 hF
  refine W.skip ?_
  exact fun a ha => hJ9 (1) _ hF hB51 (hS52.sel [0, 1] rfl) a (ha.sub ⟨rfl, rfl, trivial⟩)
theorem C_spec_DrawAddCue (w0 : World) (x0 : (List Int)) (v0_0 : Value) (h0_0 : rdS ty_5 (· < w0.heap.size) w0 v0_0 x0) (r : ((List (Int × Int)) × (List (Int × (List UInt8))) × (Int × (List UInt8)))) (hF : F_spec_DrawAddCue x0 = some r) :
  Calls Tryd.prog 14 [v0_0].toArray w0 fun e w' => ∃ (q0 : Value) (G0 : List Nat) (q1 : Value) (G1 : List Nat), e = .returned (.tuple #[q0, q1, (.agg #[(.int .i64 r.2.2.1), (.string (mkS r.2.2.2))])]) ∧ Below w0.heap.size w0 w' ∧ Sep w0.heap.size w' [R.own ty_63 G0 q0 r.1, R.own ty_39 G1 q1 r.2.1] := by
 refine calls_mk' Tryd.func14 rfl Tryd.ntmps14 rfl rfl fun Q hQ hP => ?_
 have hB : Below w0.heap.size w0 w0 := Below.refl _ _
 have hS : Sep w0.heap.size w0 [] := Sep.nil _ _
 unfold F_spec_DrawAddCue at hF
 refine W.seq fun K1 hK1 => W.region (wl_assign rfl rfl (wl_assign rfl rfl (wl_alloc (cs := [(.int .i64 0), (.string (mkS []))]) tf_39 rfl rfl hB hS ?_)))
 intro b2 w3 hb4 hB5 hS6
 refine WL.nil fun a ha => hK1 _ _ (W.seq fun K7 hK7 => (W.region (wl_move rfl rfl (wl_build (zs := [(.slice none 0 0), (.int .i64 0), (.int .u64 0)]) (out := [v0_0, (.int .i64 0), (.int .u64 0)]) (vs := [v0_0]) (css := [[v0_0]]) tf_81 pl_81 rfl rfl (by simp only [List.map_cons, List.map_nil, cells_one ((h0_0.ro hB5).one)] <;> rfl) rfl rfl (wl_box (cs := [v0_0, (.int .i64 0), (.int .u64 0)]) rfl rfl rfl hB5 hS6 ?_))))) a ha
 intro b8 w9 hb10 hB11 hS12
 refine wl_assign rfl rfl (WL.nil (fun a ha => hK7 _ _ (W.seq fun K13 hK13 => (W.region (wl_move rfl rfl ?_))) a ha))
 obtain ⟨u14, hu14, hF⟩ := bindE hF
 refine wl_call rfl Tryd.call47 (C_spec_l1Cur__cues__mut__box w9 (x0, 0, 0) b8 v0_0 (h0_0.oldo hB11 (hS12.sel [0] rfl)) (hS12.sel [0] rfl).base0 _ hu14) rfl ?_
 rintro _ w15 ⟨v20, F21, v22, F23, rfl, hE16, hM17⟩
 refine ⟨_, rfl, ?_⟩
 have hB18 := hS12.takeB [0] rfl (M := [R.blk b8 81 [v0_0, (.int .i64 0), (.int .u64 0)]]) rfl hB11 hE16 hM17
 have hS19 : Sep w0.heap.size w15 [R.blk b8 81 [v0_0, (.int .i64 u14.2.2.2.1), (.int .u64 u14.2.2.2.2)], R.own ty_63 F21 v20 u14.1, R.own ty_39 F23 v22 u14.2.1, R.blk b2 39 [(.int .i64 0), (.string (mkS []))]] := hS12.take [0] [1] rfl (M := [R.blk b8 81 [v0_0, (.int .i64 0), (.int .u64 0)]]) rfl hM17 hB11.size
 refine wl_move rfl rfl (wl_extract rfl rfl rfl (wl_extract rfl rfl rfl (wl_assign rfl rfl (wl_assign rfl rfl (WL.nil (fun a ha => hK13 _ _ (W.seq fun K24 hK24 => (W.region (wl_move rfl rfl (wl_move rfl rfl (wl_move rfl rfl (wl_move rfl rfl ?_)))))) a ha))))))
 obtain ⟨u25, hu25, hF⟩ := bindE hF
 refine wl_call rfl Tryd.call48 (C_spec_l1Cur__countOf__mut__box w15 (x0, u14.2.2.2.1, u14.2.2.2.2) b8 v0_0 (h0_0.oldo hB18 (hS19.sel [0] rfl)) u14.1 v20 (own_out (hS19.sel [1, 0] rfl)) (hS19.sel [0] rfl).base0 _ hu25) rfl ?_
 rintro _ w26 ⟨rfl, hE27, hM28⟩
 refine ⟨_, rfl, ?_⟩
 have hB29 := hS19.takeB [0] rfl (M := [R.blk b8 81 [v0_0, (.int .i64 u14.2.2.2.1), (.int .u64 u14.2.2.2.2)]]) rfl hB18 hE27 hM28
 have hS30 : Sep w0.heap.size w26 [R.blk b8 81 [v0_0, (.int .i64 u25.2.2.1), (.int .u64 u25.2.2.2)], R.own ty_63 F21 v20 u14.1, R.own ty_39 F23 v22 u14.2.1, R.blk b2 39 [(.int .i64 0), (.string (mkS []))]] := hS19.take [0] [1, 2, 3] rfl (M := [R.blk b8 81 [v0_0, (.int .i64 u14.2.2.2.1), (.int .u64 u14.2.2.2.2)]]) rfl hM28 hB18.size
 refine wl_move rfl rfl (wl_lit (vs := [(.string (mkS [110, 101, 119])), (.string (mkS [115, 116, 97, 114, 116])), (.string (mkS [122, 122])), (.string (mkS [])), (.string (mkS [97, 98, 99, 100, 101, 102, 103, 104]))]) (l := [[110, 101, 119], [115, 116, 97, 114, 116], [122, 122], [], [97, 98, 99, 100, 101, 102, 103, 104]]) fl_9 Tryd.underlying85 rfl rfl rfl rfl rfl rfl hB29 hS30 ?_)
 intro v31 F32 w33 hb34 hB35 hS36
 obtain ⟨u37, hu37, hF⟩ := bindE hF
 refine wl_call rfl Tryd.call49 (C_spec_l1Cur__of__mut__box w33 (x0, u25.2.2.1, u25.2.2.2) b8 v0_0 (h0_0.oldo hB35 (hS36.sel [1] rfl)) [[110, 101, 119], [115, 116, 97, 114, 116], [122, 122], [], [97, 98, 99, 100, 101, 102, 103, 104]] v31 (own_out (hS36.sel [0, 1] rfl)) (hS36.sel [1] rfl).base0 _ hu37) rfl ?_
 rintro _ w38 ⟨rfl, hE39, hM40⟩
 refine ⟨_, rfl, ?_⟩
 have hB41 := hS36.takeB [1] rfl (M := [R.blk b8 81 [v0_0, (.int .i64 u25.2.2.1), (.int .u64 u25.2.2.2)]]) rfl hB35 hE39 hM40
 have hS42 : Sep w0.heap.size w38 [R.blk b8 81 [v0_0, (.int .i64 u37.2.2.1), (.int .u64 u37.2.2.2)], R.own ty_9 F32 v31 [[110, 101, 119], [115, 116, 97, 114, 116], [122, 122], [], [97, 98, 99, 100, 101, 102, 103, 104]], R.own ty_63 F21 v20 u14.1, R.own ty_39 F23 v22 u14.2.1, R.blk b2 39 [(.int .i64 0), (.string (mkS []))]] := hS36.take [1] [0, 2, 3, 4] rfl (M := [R.blk b8 81 [v0_0, (.int .i64 u25.2.2.1), (.int .u64 u25.2.2.2)]]) rfl hM40 hB35.size
 refine wl_build (zs := [(.int .i64 0), (.string (mkS []))]) (out := [(.int .i64 u25.1), (.string (mkS u37.1))]) (vs := [(.int .i64 u25.1), (.string (mkS u37.1))]) (css := [[(.int .i64 u25.1)], [(.string (mkS u37.1))]]) tf_39 pl_39 rfl rfl rfl rfl rfl (wl_assign rfl rfl (wl_assign rfl rfl (wl_store_blk (i := 4) (vs := [(.int .i64 u25.1), (.string (mkS u37.1))]) (cs' := [(.int .i64 u25.1), (.string (mkS u37.1))]) tf_39 rfl rfl rfl rfl hB41 hS42 rfl rfl ⟨rfl, rfl, trivial⟩ rfl ?_)))
 intro w43 hk46 hB44 hS45
 refine WL.nil fun a ha => hK24 _ _ (W.ret ?_) a ha
 have hr := Option.some.inj hF
 subst hr
 exact rets (vs := [v20, v22, (.agg #[(.int .i64 u25.1), (.string (mkS u37.1))])]) hQ rfl ⟨rv_tmp rfl, rv_tmp rfl, rv_cell (i := 4) tf_39 rfl hS45 rfl rfl rfl, trivial⟩ ⟨v20, F21, v22, F23, rfl, hB44, hS45.sel [2, 3] rfl⟩
theorem C_impl_AddCue (w0 : World) (x0 : (List (Int × Int))) (v0_0 : Value) (h0_0 : rdS ty_63 (· < w0.heap.size) w0 v0_0 x0) (x1 : (List (Int × (List UInt8)))) (v1_0 : Value) (h1_0 : rdS ty_39 (· < w0.heap.size) w0 v1_0 x1) (x2 : (Int × (List UInt8))) (r : ((List (Int × (List UInt8))) × Bool)) (hF : F_impl_AddCue x0 x1 x2 = some r) :
  Calls Tryd.prog 15 [v0_0, v1_0, (.agg #[(.int .i64 x2.1), (.string (mkS x2.2))])].toArray w0 fun e w' => ∃ (q0 : Value) (G0 : List Nat), e = .returned (.tuple #[q0, (.bool r.2)]) ∧ Below w0.heap.size w0 w' ∧ Sep w0.heap.size w' [R.own ty_39 G0 q0 r.1] := by
 refine calls_mk' Tryd.func15 rfl Tryd.ntmps15 rfl rfl fun Q hQ hP => ?_
 have hB : Below w0.heap.size w0 w0 := Below.refl _ _
 have hS : Sep w0.heap.size w0 [] := Sep.nil _ _
 unfold F_impl_AddCue at hF
 refine W.seq fun K1 hK1 => W.region (wl_box (cs := [(.int .i64 x2.1), (.string (mkS x2.2))]) rfl rfl rfl hB hS ?_)
 intro b2 w3 hb4 hB5 hS6
 refine wl_assign rfl rfl (wl_assign rfl rfl (WL.nil (fun a ha => hK1 _ _ (W.seq fun K7 hK7 => (W.seq fun K8 hK8 => (W.region (wl_move rfl rfl (wl_move rfl rfl ?_))))) a ha)))
 obtain ⟨u9, hu9, hF⟩ := bindE hF
 refine wl_call rfl Tryd.call39 (C_impl_haveCues w3 x0 v0_0 (h0_0.ro hB5) x1 v1_0 (h1_0.ro hB5) _ hu9) rfl ?_
 rintro _ w10 ⟨rfl, hb11⟩
 refine ⟨_, rfl, ?_⟩
 have hB12 := hB5.trans (hb11.mono hB5.size)
 have hS13 := hS6.below hb11
 refine wl_not rfl rfl (WL.nil (fun a ha => hK8 _ _ (W.cond rfl (fun h15 => ?_) (fun h15 => ?_)) a ha))
 ·replace hF := ifP h15 hF
  refine W.seq fun K16 hK16 => W.region (wl_assign rfl rfl (wl_assign rfl rfl (WL.nil (fun a ha => hK16 _ _ (W.ret ?_) a ha))))
  have hS17 := hS13.push0 (r := R.own ty_39 [] (.slice none 0 0) []) rfl fun _ => .inl ⟨rfl, rfl, rfl⟩
  have hr := Option.some.inj hF
  subst hr
  exact rets (vs := [(.slice none 0 0), (.bool false)]) hQ rfl ⟨rv_tmp rfl, rv_tmp rfl, trivial⟩ ⟨(.slice none 0 0), [], rfl, hB12, hS17.sel [0] rfl⟩
 ·replace hF := ifN h15 hF
  refine W.skip fun a ha => hK7 _ _ (W.seq fun K18 hK18 => (W.region (wl_assign rfl rfl (WL.nil (fun a ha => hK18 _ _ (W.seq fun K19 hK19 => (W.block (W.loopk (fun m a w20 => ∃ (y23 : Int), St 48 [(0, v0_0), (1, v1_0), (5, (.pointer (some ⟨b2, 0, none⟩))), (8, (.int .i64 y23))] a ∧ Below w0.heap.size w0 w20 ∧ Sep w0.heap.size w20 [R.blk b2 39 [(.int .i64 x2.1), (.string (mkS x2.2))]] ∧ F_impl_AddCue_L1 x1 x2 x0 m y23 = some r) FU ?_ ?_))) a ha))))) a ha
  ·
   exact fun a ha => ⟨0, ha.sub ⟨rfl, rfl, rfl, rfl, trivial⟩, hB12, (hS13.sel [0] rfl), hF⟩
  ·
   rintro m26 a w20 ⟨y23, ha, hB21, hS22, hF⟩ KL25 hKL25
   refine W.at ?_ ha
   cases m26 with
   | zero => exact noneE hF
   | succ m26 =>
    obtain ⟨nx24, hnx24⟩ : ∃ k, k = F_impl_AddCue_L1 x1 x2 x0 m26 := ⟨_, rfl⟩
    rw [F_impl_AddCue_L1, ← hnx24] at hF
    refine W.seq fun K27 hK27 => W.seq fun K28 hK28 => ?_
    obtain ⟨k33, hk33, hF⟩ := jE1 hF
    have hJ34 : ∀ (y32 : Bool) (w29 : World) (_ : k33 y32 = some r) (_ : Below w0.heap.size w0 w29) (_ : Sep w0.heap.size w29 [R.blk b2 39 [(.int .i64 x2.1), (.string (mkS x2.2))]]), ∀ a, St 48 [(0, v0_0), (1, v1_0), (5, (.pointer (some ⟨b2, 0, none⟩))), (8, (.int .i64 y23)), (27, (.bool y32))] a → K28 a w29 := by
     intro y32 w29 hF hB30 hS31
     subst hk33
     refine fun a ha => hK28 _ _ (W.cond rfl (fun h35 => ?_) (fun h35 => ?_)) a ha
     ·replace hF := ifP h35 hF
      refine W.skip fun a ha => hK27 _ _ (W.block (W.region (wl_move rfl rfl (wl_add rfl rfl rfl (wl_assign rfl rfl (WL.nil ?_)))))) a ha
      rw [hnx24] at hF
      exact fun a ha => hKL25 a _ m26 (Nat.lt_succ_self m26) ⟨(w64 (y23 + 1)), ha.sub ⟨rfl, rfl, rfl, rfl, trivial⟩, hB30, (hS31.sel [0] rfl), hF⟩
     ·replace hF := ifN h35 hF
      refine W.exit fun a ha => hK19 _ _ (W.seq fun K36 hK36 => (W.region (wl_lit (vs := []) (l := []) fl_39 Tryd.underlying30 rfl rfl rfl rfl rfl rfl hB30 hS31 ?_))) a ha
      intro v37 F38 w39 hb40 hB41 hS42
      refine wl_move rfl rfl (wl_move rfl rfl ?_)
      obtain ⟨u43, hu43, hF⟩ := bindE hF
      refine wl_slice (e := ty_39) Tryd.underlying30 rfl rfl h1_0 hu43 (.inl ⟨rfl, rfl⟩) (.inr ⟨_, _, rfl, rfl⟩) ?_
      intro v44 hv45
      obtain ⟨u46, hu46, hF⟩ := bindE hF
      refine wl_append (i := 0) (S := (· < w39.heap.size)) fl_39 Tryd.underlying30 rfl rfl rfl hB41 hS42 rfl (hv45.ro hB41) hu46 ?_
      intro v47 F48 w49 hk50 hB51 hS52
      refine wl_assign rfl rfl (WL.nil (fun a ha => hK36 _ _ (W.seq fun K53 hK53 => (W.regionH mixed_ F48 hB51 hS52 ?_)) a ha))
      intro w54 hb55 hB56 hS57
      have hSW58 := KeepX.refl w54 F48
      refine WH.tk 0 rfl hP hSW58 (pr_move rfl rfl (WH.tk 1 rfl hP hSW58 (pr_load_blk (i := 1) (vs := [(.int .i64 x2.1), (.string (mkS x2.2))]) (v := (.agg #[(.int .i64 x2.1), (.string (mkS x2.2))])) tf_39 rfl rfl hS57 rfl rfl rfl (hS57.disj (i := 1) (j := 0) rfl rfl rfl b2 (by simp [R.blk])) (WH.tk 4 rfl hP hSW58 (pr_move rfl rfl (WH.tk 5 rfl hP hSW58 (pr_move rfl rfl ?_)))))))
      obtain ⟨u59, hu59, hF⟩ := bindE hF
      refine WH.tk 6 rfl hP hSW58 (pr_slice (e := ty_39) Tryd.underlying30 rfl rfl h1_0 hu59 (.inr ⟨_, _, rfl, rfl⟩) (.inl ⟨rfl, rfl⟩) ?_)
      intro v60 hv61
      refine WH.on1 2 rfl (wl_lit (vs := [(.agg #[(.int .i64 x2.1), (.string (mkS x2.2))])]) (l := [x2]) fl_39 Tryd.underlying30 rfl rfl rfl rfl rfl rfl (Below.self w54) (Sep.nil _ _) ?_)
      intro v62 F63 w65 hb66 hB69 hM70
      have hB67 := hB56.trans (hb66.mono hB56.size)
      have hS68 := hS57.join hb66 hM70 hB56.size
      have hSW72 := hSW58.ext hb66
      refine WL.nil (WH.ret hSW72 (WH.on1 3 rfl ?_))
      obtain ⟨u74, hu74, hF⟩ := bindE hF
      refine wl_append (i := 1) (S := (· < w65.heap.size)) fl_39 Tryd.underlying30 rfl rfl rfl hB67 hS68 rfl (hS68.own_ro (i := 0) rfl) hu74 ?_
      intro v75 F76 w77 hk78 hB79 hS80
      have hSW81 := hSW72.wr' hk78.1 hk78.2.1 (fun _ _ h => h)
      have hbs82 : ∀ b, b < w54.heap.size → b ∈ F76 → b ∈ F48 := fun b hlt hb => (hk78.2.2 b hb).elim ((fun _ _ h => h) b hlt) (fun h => absurd hlt (Nat.not_lt.2 (Nat.le_trans hSW72.size h)))
      refine WL.nil (WH.ret hSW81 (WH.on1 7 rfl ?_))
      obtain ⟨u83, hu83, hF⟩ := bindE hF
      refine wl_append (i := 1) (S := (· < w77.heap.size)) fl_39 Tryd.underlying30 rfl rfl rfl hB79 hS80 rfl (hv61.ro hB79) hu83 ?_
      intro v84 F85 w86 hk87 hB88 hS89
      have hSW90 := hSW81.wr' hk87.1 hk87.2.1 (hbs82)
      refine WL.nil (WH.ret hSW90 (WH.tk 8 rfl hP hSW90 (pr_assign rfl rfl (WH.done (by kernel_rfl) (fun a ha => hK53 _ _ (W.seq fun K92 hK92 => (W.seq fun K93 hK93 => (W.region (wl_move rfl rfl (wl_move rfl rfl ?_))))) a ha)))))
      obtain ⟨u94, hu94, hF⟩ := bindE hF
      refine wl_call rfl Tryd.call50 (C_impl_areCues w86 x0 v0_0 (h0_0.ro hB88) u83 v84 (hS89.own_ro (i := 1) rfl) _ hu94) rfl ?_
      rintro _ w95 ⟨rfl, hb96⟩
      refine ⟨_, rfl, ?_⟩
      have hB97 := hB88.trans (hb96.mono hB88.size)
      have hS98 := hS89.below hb96
      refine wl_not rfl rfl (WL.nil (fun a ha => hK93 _ _ (W.cond rfl (fun h100 => ?_) (fun h100 => ?_)) a ha))
      ·replace hF := ifP h100 hF
       refine W.seq fun K101 hK101 => W.region (wl_assign rfl rfl (wl_assign rfl rfl (WL.nil (fun a ha => hK101 _ _ (W.ret ?_) a ha))))
       have hS102 := hS98.push0 (r := R.own ty_39 [] (.slice none 0 0) []) rfl fun _ => .inl ⟨rfl, rfl, rfl⟩
       have hr := Option.some.inj hF
       subst hr
       exact rets (vs := [(.slice none 0 0), (.bool false)]) hQ rfl ⟨rv_tmp rfl, rv_tmp rfl, trivial⟩ ⟨(.slice none 0 0), [], rfl, hB97, hS102.sel [0] rfl⟩
      ·replace hF := ifN h100 hF
       refine W.skip fun a ha => hK92 _ _ (W.seq fun K103 hK103 => (W.region (wl_move rfl rfl (wl_assign rfl rfl (wl_assign rfl rfl (WL.nil (fun a ha => hK103 _ _ (W.ret ?_) a ha))))))) a ha
       have hr := Option.some.inj hF
       subst hr
       exact rets (vs := [v84, (.bool true)]) hQ rfl ⟨rv_tmp rfl, rv_tmp rfl, trivial⟩ ⟨v84, F85, rfl, hB97, hS98.sel [1] rfl⟩
    refine W.regionH mixed_ [] hB21 hS22 ?_
    intro w104 hb105 hB106 hS107
    have hSW108 := KeepX.refl w104 []
    refine WH.tk 0 rfl hP hSW108 (pr_move rfl rfl (WH.tk 1 rfl hP hSW108 (pr_move rfl rfl (WH.tk 2 rfl hP hSW108 (pr_lenr (e := ty_39) (l := x1) Tryd.underlying30 rfl rfl h1_0 (WH.tk 3 rfl hP hSW108 (pr_lss rfl rfl rfl (WH.tk 4 rfl hP hSW108 (pr_move rfl rfl ?_)))))))))
    rcases bE (decide (y23 < (List.length x1 : Int))) with h109 | h109
    ·replace hF := ifP h109 hF
     refine WH.takexg (i := 5) rfl (by kernel_rfl) (by kernel_rfl) (by kernel_rfl) hP rfl rfl h109 hSW108 (pr_move rfl rfl (WH.takexg (i := 6) rfl (by kernel_rfl) (by kernel_rfl) (by kernel_rfl) hP rfl rfl h109 hSW108 (pr_move rfl rfl ?_)))
     obtain ⟨u110, hu110, hF⟩ := bindE hF
     refine WH.takexg (i := 7) rfl (by kernel_rfl) (by kernel_rfl) (by kernel_rfl) hP rfl rfl h109 hSW108 (pr_index (e := ty_39) Tryd.underlying30 rfl rfl rfl h1_0 hu110 ?_)
     rintro p111 _ rfl hp112
     refine WH.takexg (i := 8) rfl (by kernel_rfl) (by kernel_rfl) (by kernel_rfl) hP rfl rfl h109 hSW108 (pr_fieldp (o := 0) ff_39_0 rfl rfl (WH.takexg (i := 9) rfl (by kernel_rfl) (by kernel_rfl) (by kernel_rfl) hP rfl rfl h109 hSW108 (pr_load_p (vs := [(.int .i64 u110.1)]) (v := (.int .i64 u110.1)) tf_3 rfl rfl (EAt.addk (hp112.kx hB106 (by simp)) 0) rfl rfl (WH.takexg (i := 10) rfl (by kernel_rfl) (by kernel_rfl) (by kernel_rfl) hP rfl rfl h109 hSW108 (pr_field (o := 0) (off' := 0) ff_39_0 rfl rfl rfl (WH.takexg (i := 11) rfl (by kernel_rfl) (by kernel_rfl) (by kernel_rfl) hP rfl rfl h109 hSW108 (pr_load_blk (i := 0) (vs := [(.int .i64 x2.1)]) (v := (.int .i64 x2.1)) tf_3 rfl rfl hS107 rfl rfl rfl (by simp) (WH.takexg (i := 12) rfl (by kernel_rfl) (by kernel_rfl) (by kernel_rfl) hP rfl rfl h109 hSW108 (pr_lss rfl rfl rfl (WH.tk 13 rfl hP hSW108 (pr_pick_t rfl rfl h109 rfl ?_)))))))))))
     refine WH.done (by kernel_rfl) ?_
     exact fun a ha => hJ34 ((decide (u110.1 < x2.1))) _ hF hB106 (hS107.sel [0] rfl) a (ha.sub ⟨rfl, rfl, rfl, rfl, rfl, trivial⟩)
    ·replace hF := ifN h109 hF
     refine WH.off (i := 5) rfl (by kernel_rfl) (by kernel_rfl) (by kernel_rfl) hP rfl rfl h109 rfl hSW108 (WH.off (i := 6) rfl (by kernel_rfl) (by kernel_rfl) (by kernel_rfl) hP rfl rfl h109 rfl hSW108 (WH.off (i := 7) rfl (by kernel_rfl) (by kernel_rfl) (by kernel_rfl) hP rfl rfl h109 rfl hSW108 (WH.off (i := 8) rfl (by kernel_rfl) (by kernel_rfl) (by kernel_rfl) hP rfl rfl h109 rfl hSW108 (WH.off (i := 9) rfl (by kernel_rfl) (by kernel_rfl) (by kernel_rfl) hP rfl rfl h109 rfl hSW108 (WH.off (i := 10) rfl (by kernel_rfl) (by kernel_rfl) (by kernel_rfl) hP rfl rfl h109 rfl hSW108 (WH.off (i := 11) rfl (by kernel_rfl) (by kernel_rfl) (by kernel_rfl) hP rfl rfl h109 rfl hSW108 (WH.off (i := 12) rfl (by kernel_rfl) (by kernel_rfl) (by kernel_rfl) hP rfl rfl h109 rfl hSW108 (WH.tk 13 rfl hP hSW108 (pr_pick_f rfl rfl h109 rfl (WH.done (by kernel_rfl) ?_))))))))))
     exact fun a ha => hJ34 (false) _ hF hB106 (hS107.sel [0] rfl) a (ha.sub ⟨rfl, rfl, rfl, rfl, rfl, trivial⟩)
theorem C_spec_tiIf (w0 : World) (x0 : (List (Int × Int))) (v0_0 : Value) (h0_0 : rdS ty_63 (· < w0.heap.size) w0 v0_0 x0) (x1 : (List (Int × (List UInt8)))) (v1_0 : Value) (h1_0 : rdS ty_39 (· < w0.heap.size) w0 v1_0 x1) (r : ((List (Int × (List UInt8))) × Bool)) (hF : F_spec_tiIf x0 x1 = some r) :
  Calls Tryd.prog 51 [v0_0, v1_0].toArray w0 fun e w' => ∃ (q0 : Value) (G0 : List Nat), e = .returned (.tuple #[q0, (.bool r.2)]) ∧ Below w0.heap.size w0 w' ∧ Sep w0.heap.size w' [R.own ty_39 G0 q0 r.1] := by
 refine calls_mk' Tryd.func51 rfl Tryd.ntmps51 rfl rfl fun Q hQ hP => ?_
 have hB : Below w0.heap.size w0 w0 := Below.refl _ _
 have hS : Sep w0.heap.size w0 [] := Sep.nil _ _
 unfold F_spec_tiIf at hF
 refine W.seq fun K1 hK1 => W.region (wl_assign rfl rfl (wl_assign rfl rfl (WL.nil (fun a ha => hK1 _ _ (W.seq fun K2 hK2 => (W.seq fun K3 hK3 => (W.region (wl_move rfl rfl (wl_move rfl rfl ?_))))) a ha))))
 obtain ⟨u4, hu4, hF⟩ := bindE hF
 refine wl_call rfl Tryd.call64 (C_spec_tiCues w0 x0 v0_0 (h0_0.ro hB) x1 v1_0 (h1_0.ro hB) _ hu4) rfl ?_
 rintro _ w5 ⟨rfl, hb6⟩
 refine ⟨_, rfl, ?_⟩
 have hB7 := hB.trans (hb6.mono hB.size)
 have hS8 := hS.below hb6
 refine wl_not rfl rfl (WL.nil (fun a ha => hK3 _ _ (W.cond rfl (fun h10 => ?_) (fun h10 => ?_)) a ha))
 ·replace hF := ifP h10 hF
  refine W.seq fun K11 hK11 => W.region (wl_assign rfl rfl (wl_assign rfl rfl (WL.nil (fun a ha => hK11 _ _ (W.ret ?_) a ha))))
  have hS12 := hS8.push0 (r := R.own ty_39 [] (.slice none 0 0) []) rfl fun _ => .inl ⟨rfl, rfl, rfl⟩
  have hr := Option.some.inj hF
  subst hr
  exact rets (vs := [(.slice none 0 0), (.bool false)]) hQ rfl ⟨rv_tmp rfl, rv_tmp rfl, trivial⟩ ⟨(.slice none 0 0), [], rfl, hB7, hS12.sel [0] rfl⟩
 ·replace hF := ifN h10 hF
  refine W.skip fun a ha => hK2 _ _ (W.seq fun K13 hK13 => (W.region (wl_lit (vs := []) (l := []) fl_39 Tryd.underlying30 rfl rfl rfl rfl rfl rfl hB7 hS8 ?_))) a ha
  intro v14 F15 w16 hb17 hB18 hS19
  refine wl_move rfl rfl ?_
  obtain ⟨u20, hu20, hF⟩ := bindE hF
  refine wl_append (i := 0) (S := (· < w16.heap.size)) fl_39 Tryd.underlying30 rfl rfl rfl hB18 hS19 rfl (h1_0.ro hB18) hu20 ?_
  intro v21 F22 w23 hk24 hB25 hS26
  refine wl_assign rfl rfl (wl_assign rfl rfl (WL.nil (fun a ha => hK13 _ _ (W.ret ?_) a ha)))
  have hr := Option.some.inj hF
  subst hr
  exact rets (vs := [v21, (.bool true)]) hQ rfl ⟨rv_tmp rfl, rv_tmp rfl, trivial⟩ ⟨v21, F22, rfl, hB25, hS26.sel [0] rfl⟩
theorem C_spec_AddCue (w0 : World) (x0 : (List (Int × Int))) (v0_0 : Value) (h0_0 : rdS ty_63 (· < w0.heap.size) w0 v0_0 x0) (x1 : (List (Int × (List UInt8)))) (v1_0 : Value) (h1_0 : rdS ty_39 (· < w0.heap.size) w0 v1_0 x1) (x2 : (Int × (List UInt8))) (r : ((List (Int × (List UInt8))) × Bool)) (hF : F_spec_AddCue x0 x1 x2 = some r) :
  Calls Tryd.prog 16 [v0_0, v1_0, (.agg #[(.int .i64 x2.1), (.string (mkS x2.2))])].toArray w0 fun e w' => ∃ (q0 : Value) (G0 : List Nat), e = .returned (.tuple #[q0, (.bool r.2)]) ∧ Below w0.heap.size w0 w' ∧ Sep w0.heap.size w' [R.own ty_39 G0 q0 r.1] := by
 refine calls_mk' Tryd.func16 rfl Tryd.ntmps16 rfl rfl fun Q hQ hP => ?_
 have hB : Below w0.heap.size w0 w0 := Below.refl _ _
 have hS : Sep w0.heap.size w0 [] := Sep.nil _ _
 unfold F_spec_AddCue at hF
 refine W.seq fun K1 hK1 => W.region (wl_box (cs := [(.int .i64 x2.1), (.string (mkS x2.2))]) rfl rfl rfl hB hS ?_)
 intro b2 w3 hb4 hB5 hS6
 refine wl_assign rfl rfl (wl_assign rfl rfl (WL.nil (fun a ha => hK1 _ _ (W.seq fun K7 hK7 => (W.seq fun K8 hK8 => (W.region (wl_move rfl rfl (wl_move rfl rfl ?_))))) a ha)))
 obtain ⟨u9, hu9, hF⟩ := bindE hF
 refine wl_call rfl Tryd.call33 (C_spec_tiGood w3 x0 v0_0 (h0_0.ro hB5) x1 v1_0 (h1_0.ro hB5) _ hu9) rfl ?_
 rintro _ w10 ⟨rfl, hb11⟩
 refine ⟨_, rfl, ?_⟩
 have hB12 := hB5.trans (hb11.mono hB5.size)
 have hS13 := hS6.below hb11
 refine wl_not rfl rfl (WL.nil (fun a ha => hK8 _ _ (W.cond rfl (fun h15 => ?_) (fun h15 => ?_)) a ha))
 ·replace hF := ifP h15 hF
  refine W.seq fun K16 hK16 => W.region (wl_assign rfl rfl (wl_assign rfl rfl (WL.nil (fun a ha => hK16 _ _ (W.ret ?_) a ha))))
  have hS17 := hS13.push0 (r := R.own ty_39 [] (.slice none 0 0) []) rfl fun _ => .inl ⟨rfl, rfl, rfl⟩
  have hr := Option.some.inj hF
  subst hr
  exact rets (vs := [(.slice none 0 0), (.bool false)]) hQ rfl ⟨rv_tmp rfl, rv_tmp rfl, trivial⟩ ⟨(.slice none 0 0), [], rfl, hB12, hS17.sel [0] rfl⟩
 ·replace hF := ifN h15 hF
  refine W.skip fun a ha => hK7 _ _ (W.seq fun K18 hK18 => (W.region (wl_assign rfl rfl (WL.nil (fun a ha => hK18 _ _ (W.seq fun K19 hK19 => (W.block (W.loopk (fun m a w20 => ∃ (y23 : Int), St 45 [(0, v0_0), (1, v1_0), (5, (.pointer (some ⟨b2, 0, none⟩))), (8, (.int .i64 y23))] a ∧ Below w0.heap.size w0 w20 ∧ Sep w0.heap.size w20 [R.blk b2 39 [(.int .i64 x2.1), (.string (mkS x2.2))]] ∧ F_spec_AddCue_L1 x1 x2 x0 m y23 = some r) FU ?_ ?_))) a ha))))) a ha
  ·
   exact fun a ha => ⟨0, ha.sub ⟨rfl, rfl, rfl, rfl, trivial⟩, hB12, (hS13.sel [0] rfl), hF⟩
  ·
   rintro m26 a w20 ⟨y23, ha, hB21, hS22, hF⟩ KL25 hKL25
   refine W.at ?_ ha
   cases m26 with
   | zero => exact noneE hF
   | succ m26 =>
    obtain ⟨nx24, hnx24⟩ : ∃ k, k = F_spec_AddCue_L1 x1 x2 x0 m26 := ⟨_, rfl⟩
    rw [F_spec_AddCue_L1, ← hnx24] at hF
    refine W.seq fun K27 hK27 => W.seq fun K28 hK28 => ?_
    obtain ⟨k33, hk33, hF⟩ := jE1 hF
    have hJ34 : ∀ (y32 : Bool) (w29 : World) (_ : k33 y32 = some r) (_ : Below w0.heap.size w0 w29) (_ : Sep w0.heap.size w29 [R.blk b2 39 [(.int .i64 x2.1), (.string (mkS x2.2))]]), ∀ a, St 45 [(0, v0_0), (1, v1_0), (5, (.pointer (some ⟨b2, 0, none⟩))), (8, (.int .i64 y23)), (26, (.bool y32))] a → K28 a w29 := by
     intro y32 w29 hF hB30 hS31
     subst hk33
     refine fun a ha => hK28 _ _ (W.cond rfl (fun h35 => ?_) (fun h35 => ?_)) a ha
     ·replace hF := ifP h35 hF
      refine W.skip fun a ha => hK27 _ _ (W.block (W.region (wl_move rfl rfl (wl_add rfl rfl rfl (wl_assign rfl rfl (WL.nil ?_)))))) a ha
      rw [hnx24] at hF
      exact fun a ha => hKL25 a _ m26 (Nat.lt_succ_self m26) ⟨(w64 (y23 + 1)), ha.sub ⟨rfl, rfl, rfl, rfl, trivial⟩, hB30, (hS31.sel [0] rfl), hF⟩
     ·replace hF := ifN h35 hF
      refine W.exit fun a ha => hK19 _ _ (W.seq fun K36 hK36 => ?_) a ha
      obtain ⟨k44, hk44, hF⟩ := jE2 hF
      have hJ45 : ∀ (l40 : (List (Int × (List UInt8)))) (y43 : Bool) (v41 : Value) (F42 : List Nat) (w37 : World) (_ : k44 l40 y43 = some r) (_ : Below w0.heap.size w0 w37) (_ : Sep w0.heap.size w37 [R.own ty_39 F42 v41 l40]), ∀ a, St 45 [(6, v41), (7, (.bool y43))] a → K36 a w37 := by
       intro l40 y43 v41 F42 w37 hF hB38 hS39
       subst hk44
       refine fun a ha => hK36 _ _ (W.ret ?_) a ha
       have hr := Option.some.inj hF
       subst hr
       exact rets (vs := [v41, (.bool y43)]) hQ rfl ⟨rv_tmp rfl, rv_tmp rfl, trivial⟩ ⟨v41, F42, rfl, hB38, hS39.sel [0] rfl⟩
      refine W.regionH mixed_ [] hB30 hS31 ?_
      intro w46 hb47 hB48 hS49
      have hSW50 := KeepX.refl w46 []
      refine WH.tk 0 rfl hP hSW50 (pr_move rfl rfl (WH.tk 2 rfl hP hSW50 (pr_move rfl rfl (WH.tk 3 rfl hP hSW50 (pr_move rfl rfl ?_)))))
      obtain ⟨u51, hu51, hF⟩ := bindE hF
      refine WH.tk 4 rfl hP hSW50 (pr_slice (e := ty_39) Tryd.underlying30 rfl rfl h1_0 hu51 (.inl ⟨rfl, rfl⟩) (.inr ⟨_, _, rfl, rfl⟩) ?_)
      intro v52 hv53
      refine WH.tk 6 rfl hP hSW50 (pr_load_blk (i := 0) (vs := [(.int .i64 x2.1), (.string (mkS x2.2))]) (v := (.agg #[(.int .i64 x2.1), (.string (mkS x2.2))])) tf_39 rfl rfl hS49 rfl rfl rfl (by simp) (WH.tk 9 rfl hP hSW50 (pr_move rfl rfl (WH.tk 10 rfl hP hSW50 (pr_move rfl rfl ?_)))))
      obtain ⟨u54, hu54, hF⟩ := bindE hF
      refine WH.tk 11 rfl hP hSW50 (pr_slice (e := ty_39) Tryd.underlying30 rfl rfl h1_0 hu54 (.inr ⟨_, _, rfl, rfl⟩) (.inl ⟨rfl, rfl⟩) ?_)
      intro v55 hv56
      refine WH.many (is := [1, 7]) (by kernel_rfl) rfl (List.forall_mem_cons.2 ⟨⟨_, rfl, ?_⟩, List.forall_mem_cons.2 ⟨⟨_, rfl, ?_⟩, fun _ h => by cases h⟩⟩)
      ·
       refine wl_lit (vs := []) (l := []) fl_39 Tryd.underlying30 rfl rfl rfl rfl rfl rfl (Below.self w46) (Sep.nil _ _) ?_
       intro v57 F58 w59 hb60 hB63 hM64
       have hB61 := hB48.trans (hb60.mono hB48.size)
       have hS62 := hS49.join hb60 hM64 hB48.size
       have hn65 : ∀ b ∈ F58, w46.heap.size ≤ b := fun b hb => Nat.le_trans hSW50.size ((hM64.1 _ (List.mem_cons_self ..)).2.1 b hb).1
       have hSW66 := hSW50.ext hb60
       refine WL.nil (WH.ret hSW66 (WH.many (is := [5, 7]) (by kernel_rfl) rfl (List.forall_mem_cons.2 ⟨⟨_, rfl, ?_⟩, List.forall_mem_cons.2 ⟨⟨_, rfl, ?_⟩, fun _ h => by cases h⟩⟩)))
       ·
        obtain ⟨u67, hu67, hF⟩ := bindE hF
        refine wl_append (i := 0) (S := (· < w59.heap.size)) fl_39 Tryd.underlying30 rfl rfl rfl hB61 hS62 rfl (hv53.ro hB61) hu67 ?_
        intro v68 F69 w70 hk71 hB72 hS73
        have hSW74 := hSW66.wr' hk71.1 hk71.2.1 (fun b hlt hb => absurd hlt (Nat.not_lt.2 (hn65 b hb)))
        have hn75 : ∀ b ∈ F69, w46.heap.size ≤ b := fun b hb => (hk71.2.2 b hb).elim (hn65 b) fun h => Nat.le_trans hSW66.size h
        refine WL.nil (WH.ret hSW74 (WH.on1 7 rfl (wl_lit (vs := [(.agg #[(.int .i64 x2.1), (.string (mkS x2.2))])]) (l := [x2]) fl_39 Tryd.underlying30 rfl rfl rfl rfl rfl rfl (Below.self w70) (Sep.nil _ _) ?_)))
        intro v76 F77 w78 hb79 hB82 hM83
        have hB80 := hB72.trans (hb79.mono hB72.size)
        have hS81 := hS73.join hb79 hM83 hB72.size
        have hSW85 := hSW74.ext hb79
        refine WL.nil (WH.ret hSW85 (WH.on1 8 rfl ?_))
        obtain ⟨u86, hu86, hF⟩ := bindE hF
        refine wl_append (i := 1) (S := (· < w78.heap.size)) fl_39 Tryd.underlying30 rfl rfl rfl hB80 hS81 rfl (hS81.own_ro (i := 0) rfl) hu86 ?_
        intro v87 F88 w89 hk90 hB91 hS92
        have hSW93 := hSW85.wr' hk90.1 hk90.2.1 (fun b hlt hb => absurd hlt (Nat.not_lt.2 (hn75 b hb)))
        have hn94 : ∀ b ∈ F88, w46.heap.size ≤ b := fun b hb => (hk90.2.2 b hb).elim (hn75 b) fun h => Nat.le_trans hSW85.size h
        refine WL.nil (WH.ret hSW93 (WH.on1 12 rfl ?_))
        obtain ⟨u95, hu95, hF⟩ := bindE hF
        refine wl_append (i := 1) (S := (· < w89.heap.size)) fl_39 Tryd.underlying30 rfl rfl rfl hB91 hS92 rfl (hv56.ro hB91) hu95 ?_
        intro v96 F97 w98 hk99 hB100 hS101
        have hSW102 := hSW93.wr' hk99.1 hk99.2.1 (fun b hlt hb => absurd hlt (Nat.not_lt.2 (hn94 b hb)))
        refine WL.nil (WH.ret hSW102 (WH.on1 13 rfl ?_))
        obtain ⟨u104, hu104, hF⟩ := bindE hF
        refine wl_call rfl Tryd.call51 (C_spec_tiIf w98 x0 v0_0 (h0_0.ro hB100) u95 v96 (hS101.own_ro (i := 1) rfl) _ hu104) rfl ?_
        rintro _ w107 ⟨v105, F106, rfl, hb108, hM111⟩
        refine ⟨_, rfl, ?_⟩
        have hB109 := hB100.trans (hb108.mono hB100.size)
        have hS110 := hS101.join hb108 hM111 hB100.size
        have hSW113 := hSW102.ext hb108
        refine WL.nil (WH.ret hSW113 (WH.tk 14 rfl hP hSW113 (pr_extract rfl rfl rfl (WH.tk 15 rfl hP hSW113 (pr_extract rfl rfl rfl (WH.tk 16 rfl hP hSW113 (pr_assign rfl rfl (WH.tk 17 rfl hP hSW113 (pr_assign rfl rfl (WH.done (by kernel_rfl) ?_))))))))))
        exact fun a ha => hJ45 (u104.1) (u104.2) (v105) (F106) _ hF hB109 (hS110.sel [0] rfl) a (ha.sub ⟨rfl, rfl, trivial⟩)
       ·
        refine wl_lit (vs := [(.agg #[(.int .i64 x2.1), (.string (mkS x2.2))])]) (l := [x2]) fl_39 Tryd.underlying30 rfl rfl rfl rfl rfl rfl (Below.self w59) (Sep.nil _ _) ?_
        intro v114 F115 w116 hb117 hB120 hM121
        have hB118 := hB61.trans (hb117.mono hB61.size)
        have hS119 := hS62.join hb117 hM121 hB61.size
        have hSW123 := hSW66.ext hb117
        refine WL.nil (WH.ret hSW123 (WH.on1 5 rfl ?_))
        obtain ⟨u124, hu124, hF⟩ := bindE hF
        refine wl_append (i := 1) (S := (· < w116.heap.size)) fl_39 Tryd.underlying30 rfl rfl rfl hB118 hS119 rfl (hv53.ro hB118) hu124 ?_
        intro v125 F126 w127 hk128 hB129 hS130
        have hSW131 := hSW123.wr' hk128.1 hk128.2.1 (fun b hlt hb => absurd hlt (Nat.not_lt.2 (hn65 b hb)))
        have hn132 : ∀ b ∈ F126, w46.heap.size ≤ b := fun b hb => (hk128.2.2 b hb).elim (hn65 b) fun h => Nat.le_trans hSW123.size h
        refine WL.nil (WH.ret hSW131 (WH.on1 8 rfl ?_))
        obtain ⟨u133, hu133, hF⟩ := bindE hF
        refine wl_append (i := 1) (S := (· < w127.heap.size)) fl_39 Tryd.underlying30 rfl rfl rfl hB129 hS130 rfl (hS130.own_ro (i := 0) rfl) hu133 ?_
        intro v134 F135 w136 hk137 hB138 hS139
        have hSW140 := hSW131.wr' hk137.1 hk137.2.1 (fun b hlt hb => absurd hlt (Nat.not_lt.2 (hn132 b hb)))
        have hn141 : ∀ b ∈ F135, w46.heap.size ≤ b := fun b hb => (hk137.2.2 b hb).elim (hn132 b) fun h => Nat.le_trans hSW131.size h
        refine WL.nil (WH.ret hSW140 (WH.on1 12 rfl ?_))
        obtain ⟨u142, hu142, hF⟩ := bindE hF
        refine wl_append (i := 1) (S := (· < w136.heap.size)) fl_39 Tryd.underlying30 rfl rfl rfl hB138 hS139 rfl (hv56.ro hB138) hu142 ?_
        intro v143 F144 w145 hk146 hB147 hS148
        have hSW149 := hSW140.wr' hk146.1 hk146.2.1 (fun b hlt hb => absurd hlt (Nat.not_lt.2 (hn141 b hb)))
        refine WL.nil (WH.ret hSW149 (WH.on1 13 rfl ?_))
        obtain ⟨u151, hu151, hF⟩ := bindE hF
        refine wl_call rfl Tryd.call51 (C_spec_tiIf w145 x0 v0_0 (h0_0.ro hB147) u142 v143 (hS148.own_ro (i := 1) rfl) _ hu151) rfl ?_
        rintro _ w154 ⟨v152, F153, rfl, hb155, hM158⟩
        refine ⟨_, rfl, ?_⟩
        have hB156 := hB147.trans (hb155.mono hB147.size)
        have hS157 := hS148.join hb155 hM158 hB147.size
        have hSW160 := hSW149.ext hb155
        refine WL.nil (WH.ret hSW160 (WH.tk 14 rfl hP hSW160 (pr_extract rfl rfl rfl (WH.tk 15 rfl hP hSW160 (pr_extract rfl rfl rfl (WH.tk 16 rfl hP hSW160 (pr_assign rfl rfl (WH.tk 17 rfl hP hSW160 (pr_assign rfl rfl (WH.done (by kernel_rfl) ?_))))))))))
        exact fun a ha => hJ45 (u151.1) (u151.2) (v152) (F153) _ hF hB156 (hS157.sel [0] rfl) a (ha.sub ⟨rfl, rfl, trivial⟩)
      ·
       refine wl_lit (vs := [(.agg #[(.int .i64 x2.1), (.string (mkS x2.2))])]) (l := [x2]) fl_39 Tryd.underlying30 rfl rfl rfl rfl rfl rfl (Below.self w46) (Sep.nil _ _) ?_
       intro v161 F162 w163 hb164 hB167 hM168
       have hB165 := hB48.trans (hb164.mono hB48.size)
       have hS166 := hS49.join hb164 hM168 hB48.size
       have hSW170 := hSW50.ext hb164
       refine WL.nil (WH.ret hSW170 (WH.on1 1 rfl (wl_lit (vs := []) (l := []) fl_39 Tryd.underlying30 rfl rfl rfl rfl rfl rfl (Below.self w163) (Sep.nil _ _) ?_)))
       intro v171 F172 w173 hb174 hB177 hM178
       have hB175 := hB165.trans (hb174.mono hB165.size)
       have hS176 := hS166.join hb174 hM178 hB165.size
       have hn179 : ∀ b ∈ F172, w46.heap.size ≤ b := fun b hb => Nat.le_trans hSW170.size ((hM178.1 _ (List.mem_cons_self ..)).2.1 b hb).1
       have hSW180 := hSW170.ext hb174
       refine WL.nil (WH.ret hSW180 (WH.on1 5 rfl ?_))
       obtain ⟨u181, hu181, hF⟩ := bindE hF
       refine wl_append (i := 0) (S := (· < w173.heap.size)) fl_39 Tryd.underlying30 rfl rfl rfl hB175 hS176 rfl (hv53.ro hB175) hu181 ?_
       intro v182 F183 w184 hk185 hB186 hS187
       have hSW188 := hSW180.wr' hk185.1 hk185.2.1 (fun b hlt hb => absurd hlt (Nat.not_lt.2 (hn179 b hb)))
       have hn189 : ∀ b ∈ F183, w46.heap.size ≤ b := fun b hb => (hk185.2.2 b hb).elim (hn179 b) fun h => Nat.le_trans hSW180.size h
       refine WL.nil (WH.ret hSW188 (WH.on1 8 rfl ?_))
       obtain ⟨u190, hu190, hF⟩ := bindE hF
       refine wl_append (i := 0) (S := (· < w184.heap.size)) fl_39 Tryd.underlying30 rfl rfl rfl hB186 hS187 rfl (hS187.own_ro (i := 1) rfl) hu190 ?_
       intro v191 F192 w193 hk194 hB195 hS196
       have hSW197 := hSW188.wr' hk194.1 hk194.2.1 (fun b hlt hb => absurd hlt (Nat.not_lt.2 (hn189 b hb)))
       have hn198 : ∀ b ∈ F192, w46.heap.size ≤ b := fun b hb => (hk194.2.2 b hb).elim (hn189 b) fun h => Nat.le_trans hSW188.size h
       refine WL.nil (WH.ret hSW197 (WH.on1 12 rfl ?_))
       obtain ⟨u199, hu199, hF⟩ := bindE hF
       refine wl_append (i := 0) (S := (· < w193.heap.size)) fl_39 Tryd.underlying30 rfl rfl rfl hB195 hS196 rfl (hv56.ro hB195) hu199 ?_
       intro v200 F201 w202 hk203 hB204 hS205
       have hSW206 := hSW197.wr' hk203.1 hk203.2.1 (fun b hlt hb => absurd hlt (Nat.not_lt.2 (hn198 b hb)))
       refine WL.nil (WH.ret hSW206 (WH.on1 13 rfl ?_))
       obtain ⟨u208, hu208, hF⟩ := bindE hF
       refine wl_call rfl Tryd.call51 (C_spec_tiIf w202 x0 v0_0 (h0_0.ro hB204) u199 v200 (hS205.own_ro (i := 0) rfl) _ hu208) rfl ?_
       rintro _ w211 ⟨v209, F210, rfl, hb212, hM215⟩
       refine ⟨_, rfl, ?_⟩
       have hB213 := hB204.trans (hb212.mono hB204.size)
       have hS214 := hS205.join hb212 hM215 hB204.size
       have hSW217 := hSW206.ext hb212
       refine WL.nil (WH.ret hSW217 (WH.tk 14 rfl hP hSW217 (pr_extract rfl rfl rfl (WH.tk 15 rfl hP hSW217 (pr_extract rfl rfl rfl (WH.tk 16 rfl hP hSW217 (pr_assign rfl rfl (WH.tk 17 rfl hP hSW217 (pr_assign rfl rfl (WH.done (by kernel_rfl) ?_))))))))))
       exact fun a ha => hJ45 (u208.1) (u208.2) (v209) (F210) _ hF hB213 (hS214.sel [0] rfl) a (ha.sub ⟨rfl, rfl, trivial⟩)
    refine W.regionH mixed_ [] hB21 hS22 ?_
    intro w218 hb219 hB220 hS221
    have hSW222 := KeepX.refl w218 []
    refine WH.tk 0 rfl hP hSW222 (pr_move rfl rfl (WH.tk 1 rfl hP hSW222 (pr_move rfl rfl (WH.tk 2 rfl hP hSW222 (pr_lenr (e := ty_39) (l := x1) Tryd.underlying30 rfl rfl h1_0 (WH.tk 3 rfl hP hSW222 (pr_lss rfl rfl rfl (WH.tk 4 rfl hP hSW222 (pr_move rfl rfl ?_)))))))))
    rcases bE (decide (y23 < (List.length x1 : Int))) with h223 | h223
    ·replace hF := ifP h223 hF
     refine WH.takexg (i := 5) rfl (by kernel_rfl) (by kernel_rfl) (by kernel_rfl) hP rfl rfl h223 hSW222 (pr_move rfl rfl (WH.takexg (i := 6) rfl (by kernel_rfl) (by kernel_rfl) (by kernel_rfl) hP rfl rfl h223 hSW222 (pr_move rfl rfl ?_)))
     obtain ⟨u224, hu224, hF⟩ := bindE hF
     refine WH.takexg (i := 7) rfl (by kernel_rfl) (by kernel_rfl) (by kernel_rfl) hP rfl rfl h223 hSW222 (pr_index (e := ty_39) Tryd.underlying30 rfl rfl rfl h1_0 hu224 ?_)
     rintro p225 _ rfl hp226
     refine WH.takexg (i := 8) rfl (by kernel_rfl) (by kernel_rfl) (by kernel_rfl) hP rfl rfl h223 hSW222 (pr_fieldp (o := 0) ff_39_0 rfl rfl (WH.takexg (i := 9) rfl (by kernel_rfl) (by kernel_rfl) (by kernel_rfl) hP rfl rfl h223 hSW222 (pr_load_p (vs := [(.int .i64 u224.1)]) (v := (.int .i64 u224.1)) tf_3 rfl rfl (EAt.addk (hp226.kx hB220 (by simp)) 0) rfl rfl (WH.takexg (i := 10) rfl (by kernel_rfl) (by kernel_rfl) (by kernel_rfl) hP rfl rfl h223 hSW222 (pr_field (o := 0) (off' := 0) ff_39_0 rfl rfl rfl (WH.takexg (i := 11) rfl (by kernel_rfl) (by kernel_rfl) (by kernel_rfl) hP rfl rfl h223 hSW222 (pr_load_blk (i := 0) (vs := [(.int .i64 x2.1)]) (v := (.int .i64 x2.1)) tf_3 rfl rfl hS221 rfl rfl rfl (by simp) (WH.takexg (i := 12) rfl (by kernel_rfl) (by kernel_rfl) (by kernel_rfl) hP rfl rfl h223 hSW222 (pr_lss rfl rfl rfl (WH.tk 13 rfl hP hSW222 (pr_pick_t rfl rfl h223 rfl ?_)))))))))))
     refine WH.done (by kernel_rfl) ?_
     exact fun a ha => hJ34 ((decide (u224.1 < x2.1))) _ hF hB220 (hS221.sel [0] rfl) a (ha.sub ⟨rfl, rfl, rfl, rfl, rfl, trivial⟩)
    ·replace hF := ifN h223 hF
     refine WH.off (i := 5) rfl (by kernel_rfl) (by kernel_rfl) (by kernel_rfl) hP rfl rfl h223 rfl hSW222 (WH.off (i := 6) rfl (by kernel_rfl) (by kernel_rfl) (by kernel_rfl) hP rfl rfl h223 rfl hSW222 (WH.off (i := 7) rfl (by kernel_rfl) (by kernel_rfl) (by kernel_rfl) hP rfl rfl h223 rfl hSW222 (WH.off (i := 8) rfl (by kernel_rfl) (by kernel_rfl) (by kernel_rfl) hP rfl rfl h223 rfl hSW222 (WH.off (i := 9) rfl (by kernel_rfl) (by kernel_rfl) (by kernel_rfl) hP rfl rfl h223 rfl hSW222 (WH.off (i := 10) rfl (by kernel_rfl) (by kernel_rfl) (by kernel_rfl) hP rfl rfl h223 rfl hSW222 (WH.off (i := 11) rfl (by kernel_rfl) (by kernel_rfl) (by kernel_rfl) hP rfl rfl h223 rfl hSW222 (WH.off (i := 12) rfl (by kernel_rfl) (by kernel_rfl) (by kernel_rfl) hP rfl rfl h223 rfl hSW222 (WH.tk 13 rfl hP hSW222 (pr_pick_f rfl rfl h223 rfl (WH.done (by kernel_rfl) ?_))))))))))
     exact fun a ha => hJ34 (false) _ hF hB220 (hS221.sel [0] rfl) a (ha.sub ⟨rfl, rfl, rfl, rfl, rfl, trivial⟩)
theorem C_spec_l1Least (w0 : World) (x0 : Int) (x1 : Int) (r : Int) (hF : F_spec_l1Least x0 x1 = some r) :
  Calls Tryd.prog 55 [(.int .i64 x0), (.int .i64 x1)].toArray w0 fun e w' => e = .returned (.int .i64 r) ∧ Below w0.heap.size w0 w' := by
 refine calls_mk' Tryd.func55 rfl Tryd.ntmps55 rfl rfl fun Q hQ hP => ?_
 have hB : Below w0.heap.size w0 w0 := Below.refl _ _
 unfold F_spec_l1Least at hF
 refine W.seq fun K1 hK1 => W.region (wl_assign rfl rfl (WL.nil (fun a ha => hK1 _ _ (W.seq fun K2 hK2 => (W.seq fun K3 hK3 => (W.region (wl_move rfl rfl (wl_move rfl rfl (wl_lss rfl rfl rfl (WL.nil (fun a ha => hK3 _ _ (W.cond rfl (fun h4 => ?_) (fun h4 => ?_)) a ha)))))))) a ha)))
 ·replace hF := ifP h4 hF
  refine W.seq fun K5 hK5 => W.region (wl_move rfl rfl (wl_assign rfl rfl (WL.nil (fun a ha => hK5 _ _ (W.ret ?_) a ha))))
  have hr := Option.some.inj hF
  subst hr
  exact rets (vs := [(.int .i64 x0)]) hQ rfl ⟨rv_tmp rfl, trivial⟩ ⟨rfl, hB⟩
 ·replace hF := ifN h4 hF
  refine W.skip fun a ha => hK2 _ _ (W.seq fun K6 hK6 => (W.region (wl_move rfl rfl (wl_assign rfl rfl (WL.nil (fun a ha => hK6 _ _ (W.ret ?_) a ha)))))) a ha
  have hr := Option.some.inj hF
  subst hr
  exact rets (vs := [(.int .i64 x1)]) hQ rfl ⟨rv_tmp rfl, trivial⟩ ⟨rfl, hB⟩
theorem C_spec_l1Most (w0 : World) (x0 : Int) (x1 : Int) (r : Int) (hF : F_spec_l1Most x0 x1 = some r) :
  Calls Tryd.prog 56 [(.int .i64 x0), (.int .i64 x1)].toArray w0 fun e w' => e = .returned (.int .i64 r) ∧ Below w0.heap.size w0 w' := by
 refine calls_mk' Tryd.func56 rfl Tryd.ntmps56 rfl rfl fun Q hQ hP => ?_
 have hB : Below w0.heap.size w0 w0 := Below.refl _ _
 unfold F_spec_l1Most at hF
 refine W.seq fun K1 hK1 => W.region (wl_assign rfl rfl (WL.nil (fun a ha => hK1 _ _ (W.seq fun K2 hK2 => (W.seq fun K3 hK3 => (W.region (wl_move rfl rfl (wl_move rfl rfl (wl_gtr rfl rfl rfl (WL.nil (fun a ha => hK3 _ _ (W.cond rfl (fun h4 => ?_) (fun h4 => ?_)) a ha)))))))) a ha)))
 ·replace hF := ifP h4 hF
  refine W.seq fun K5 hK5 => W.region (wl_move rfl rfl (wl_assign rfl rfl (WL.nil (fun a ha => hK5 _ _ (W.ret ?_) a ha))))
  have hr := Option.some.inj hF
  subst hr
  exact rets (vs := [(.int .i64 x0)]) hQ rfl ⟨rv_tmp rfl, trivial⟩ ⟨rfl, hB⟩
 ·replace hF := ifN h4 hF
  refine W.skip fun a ha => hK2 _ _ (W.seq fun K6 hK6 => (W.region (wl_move rfl rfl (wl_assign rfl rfl (WL.nil (fun a ha => hK6 _ _ (W.ret ?_) a ha)))))) a ha
  have hr := Option.some.inj hF
  subst hr
  exact rets (vs := [(.int .i64 x1)]) hQ rfl ⟨rv_tmp rfl, trivial⟩ ⟨rfl, hB⟩
theorem C_spec_l1Cur__measureOf__mut__box (w0 : World) (x0 : ((List Int) × Int × Int)) (b0 : Nat) (v0_0 : Value) (h0_0 : rdS ty_5 (Out (fps [R.blk b0 81 [v0_0, (.int .i64 x0.2.1), (.int .u64 x0.2.2)]]) w0) w0 v0_0 x0.1) (x1 : (List (Int × Int))) (v1_0 : Value) (h1_0 : rdS ty_63 (Out (fps [R.blk b0 81 [v0_0, (.int .i64 x0.2.1), (.int .u64 x0.2.2)]]) w0) w0 v1_0 x1) (hS0 : Sep 0 w0 [R.blk b0 81 [v0_0, (.int .i64 x0.2.1), (.int .u64 x0.2.2)]]) (r : (Int × ((List Int) × Int × Int))) (hF : F_spec_l1Cur__measureOf__mut__box x0 x1 = some r) :
  Calls Tryd.prog 52 [(.pointer (some ⟨b0, 0, none⟩)), v1_0].toArray w0 fun e w' => e = .returned (.int .i64 r.1) ∧ Below 0 (wE w0) w' ∧ Sep 0 w' [R.rest w0 (fps [R.blk b0 81 [v0_0, (.int .i64 x0.2.1), (.int .u64 x0.2.2)]]), R.blk b0 81 [v0_0, (.int .i64 r.2.2.1), (.int .u64 r.2.2.2)]] := by
 refine calls_mk' Tryd.func52 rfl Tryd.ntmps52 rfl rfl fun Q hQ hP => ?_
 have hB : Below (wE w0).heap.size (wE w0) w0 := wE_below w0
 have hS : Sep (wE w0).heap.size w0 [R.rest w0 (fps [R.blk b0 81 [v0_0, (.int .i64 x0.2.1), (.int .u64 x0.2.2)]]), R.blk b0 81 [v0_0, (.int .i64 x0.2.1), (.int .u64 x0.2.2)]] := hS0.rest
 unfold F_spec_l1Cur__measureOf__mut__box at hF
 refine W.seq fun K1 hK1 => W.region (wl_assign rfl rfl (WL.nil (fun a ha => hK1 _ _ (W.seq fun K2 hK2 => (W.region (wl_move rfl rfl (wl_move rfl rfl (wl_lenr (e := ty_63) (l := x1) Tryd.underlying28 rfl rfl h1_0 (wl_move rfl rfl ?_)))))) a ha)))
 obtain ⟨u3, hu3, hF⟩ := bindE hF
 refine wl_call rfl Tryd.call75 (C_spec_l1Cur__pick__mut__box w0 x0 b0 v0_0 (h0_0.rsto (hS.sel [0, 1] rfl)) 16 (hS.sel [1] rfl).base0 _ hu3) rfl ?_
 rintro _ w4 ⟨rfl, hE5, hM6⟩
 refine ⟨_, rfl, ?_⟩
 have hB7 := hS.takeB [1] rfl (M := [R.blk b0 81 [v0_0, (.int .i64 x0.2.1), (.int .u64 x0.2.2)]]) rfl hB hE5 hM6
 have hS8 : Sep (wE w0).heap.size w4 [R.blk b0 81 [v0_0, (.int .i64 u3.2.2.1), (.int .u64 u3.2.2.2)], R.rest w0 (fps [R.blk b0 81 [v0_0, (.int .i64 x0.2.1), (.int .u64 x0.2.2)]])] := hS.take [1] [0] rfl (M := [R.blk b0 81 [v0_0, (.int .i64 x0.2.1), (.int .u64 x0.2.2)]]) rfl hM6 hB.size
 refine wl_quo rfl rfl rfl (by decide) (wl_add rfl rfl rfl ?_)
 obtain ⟨u9, hu9, hF⟩ := bindE hF
 refine wl_call rfl Tryd.call75 (C_spec_l1Cur__pick__mut__box w4 (x0.1, u3.2.2.1, u3.2.2.2) b0 v0_0 (h0_0.rsto (hS8.sel [1, 0] rfl)) (w64 ((List.length x1 : Int) + (w64 (Int.tdiv u3.1 15)))) (hS8.sel [0] rfl).base0 _ hu9) rfl ?_
 rintro _ w10 ⟨rfl, hE11, hM12⟩
 refine ⟨_, rfl, ?_⟩
 have hB13 := hS8.takeB [0] rfl (M := [R.blk b0 81 [v0_0, (.int .i64 u3.2.2.1), (.int .u64 u3.2.2.2)]]) rfl hB7 hE11 hM12
 have hS14 : Sep (wE w0).heap.size w10 [R.blk b0 81 [v0_0, (.int .i64 u9.2.2.1), (.int .u64 u9.2.2.2)], R.rest w0 (fps [R.blk b0 81 [v0_0, (.int .i64 x0.2.1), (.int .u64 x0.2.2)]])] := hS8.take [0] [1] rfl (M := [R.blk b0 81 [v0_0, (.int .i64 u3.2.2.1), (.int .u64 u3.2.2.2)]]) rfl hM12 hB7.size
 refine wl_move rfl rfl ?_
 obtain ⟨u15, hu15, hF⟩ := bindE hF
 refine wl_call rfl Tryd.call75 (C_spec_l1Cur__pick__mut__box w10 (x0.1, u9.2.2.1, u9.2.2.2) b0 v0_0 (h0_0.rsto (hS14.sel [1, 0] rfl)) 24 (hS14.sel [0] rfl).base0 _ hu15) rfl ?_
 rintro _ w16 ⟨rfl, hE17, hM18⟩
 refine ⟨_, rfl, ?_⟩
 have hB19 := hS14.takeB [0] rfl (M := [R.blk b0 81 [v0_0, (.int .i64 u9.2.2.1), (.int .u64 u9.2.2.2)]]) rfl hB13 hE17 hM18
 have hS20 : Sep (wE w0).heap.size w16 [R.blk b0 81 [v0_0, (.int .i64 u15.2.2.1), (.int .u64 u15.2.2.2)], R.rest w0 (fps [R.blk b0 81 [v0_0, (.int .i64 x0.2.1), (.int .u64 x0.2.2)]])] := hS14.take [0] [1] rfl (M := [R.blk b0 81 [v0_0, (.int .i64 u9.2.2.1), (.int .u64 u9.2.2.2)]]) rfl hM18 hB13.size
 refine wl_quo rfl rfl rfl (by decide) (wl_sub rfl rfl rfl (wl_assign rfl rfl (WL.nil (fun a ha => hK2 _ _ (W.ret ?_) a ha))))
 have hr := Option.some.inj hF
 subst hr
 exact rets (vs := [(.int .i64 (w64 (u9.1 - (w64 (Int.tdiv u15.1 23)))))]) hQ rfl ⟨rv_tmp rfl, trivial⟩ ⟨rfl, hB19, hS20.sel [1, 0] rfl⟩
theorem C_spec_DrawCuesAfterRepeat (w0 : World) (x0 : (List Int)) (v0_0 : Value) (h0_0 : rdS ty_5 (· < w0.heap.size) w0 v0_0 x0) (r : ((List (Int × Int)) × (List (Int × (List UInt8))) × Int × Int × Int)) (hF : F_spec_DrawCuesAfterRepeat x0 = some r) :
  Calls Tryd.prog 17 [v0_0].toArray w0 fun e w' => ∃ (q0 : Value) (G0 : List Nat) (q1 : Value) (G1 : List Nat), e = .returned (.tuple #[q0, q1, (.int .i64 r.2.2.1), (.int .i64 r.2.2.2.1), (.int .i64 r.2.2.2.2)]) ∧ Below w0.heap.size w0 w' ∧ Sep w0.heap.size w' [R.own ty_63 G0 q0 r.1, R.own ty_39 G1 q1 r.2.1] := by
 refine calls_mk' Tryd.func17 rfl Tryd.ntmps17 rfl rfl fun Q hQ hP => ?_
 have hB : Below w0.heap.size w0 w0 := Below.refl _ _
 have hS : Sep w0.heap.size w0 [] := Sep.nil _ _
 unfold F_spec_DrawCuesAfterRepeat at hF
 refine W.seq fun K1 hK1 => W.region (wl_assign rfl rfl (wl_assign rfl rfl (wl_assign rfl rfl (wl_assign rfl rfl (wl_assign rfl rfl (WL.nil (fun a ha => hK1 _ _ (W.seq fun K2 hK2 => (W.region (wl_move rfl rfl (wl_build (zs := [(.slice none 0 0), (.int .i64 0), (.int .u64 0)]) (out := [v0_0, (.int .i64 0), (.int .u64 0)]) (vs := [v0_0]) (css := [[v0_0]]) tf_81 pl_81 rfl rfl (by simp only [List.map_cons, List.map_nil, cells_one ((h0_0.ro hB).one)] <;> rfl) rfl rfl (wl_box (cs := [v0_0, (.int .i64 0), (.int .u64 0)]) rfl rfl rfl hB hS ?_))))) a ha)))))))
 intro b3 w4 hb5 hB6 hS7
 refine wl_assign rfl rfl (WL.nil (fun a ha => hK2 _ _ (W.seq fun K8 hK8 => (W.region (wl_move rfl rfl ?_))) a ha))
 obtain ⟨u9, hu9, hF⟩ := bindE hF
 refine wl_call rfl Tryd.call47 (C_spec_l1Cur__cues__mut__box w4 (x0, 0, 0) b3 v0_0 (h0_0.oldo hB6 (hS7.sel [0] rfl)) (hS7.sel [0] rfl).base0 _ hu9) rfl ?_
 rintro _ w10 ⟨v15, F16, v17, F18, rfl, hE11, hM12⟩
 refine ⟨_, rfl, ?_⟩
 have hB13 := hS7.takeB [0] rfl (M := [R.blk b3 81 [v0_0, (.int .i64 0), (.int .u64 0)]]) rfl hB6 hE11 hM12
 have hS14 : Sep w0.heap.size w10 [R.blk b3 81 [v0_0, (.int .i64 u9.2.2.2.1), (.int .u64 u9.2.2.2.2)], R.own ty_63 F16 v15 u9.1, R.own ty_39 F18 v17 u9.2.1] := hS7.take [0] [] rfl (M := [R.blk b3 81 [v0_0, (.int .i64 0), (.int .u64 0)]]) rfl hM12 hB6.size
 refine wl_move rfl rfl (wl_extract rfl rfl rfl (wl_extract rfl rfl rfl (wl_assign rfl rfl (wl_assign rfl rfl (WL.nil (fun a ha => hK8 _ _ (W.seq fun K19 hK19 => (W.region (wl_move rfl rfl (wl_move rfl rfl ?_)))) a ha))))))
 obtain ⟨u20, hu20, hF⟩ := bindE hF
 refine wl_call rfl Tryd.call52 (C_spec_l1Cur__measureOf__mut__box w10 (x0, u9.2.2.2.1, u9.2.2.2.2) b3 v0_0 (h0_0.oldo hB13 (hS14.sel [0] rfl)) u9.1 v15 (own_out (hS14.sel [1, 0] rfl)) (hS14.sel [0] rfl).base0 _ hu20) rfl ?_
 rintro _ w21 ⟨rfl, hE22, hM23⟩
 refine ⟨_, rfl, ?_⟩
 have hB24 := hS14.takeB [0] rfl (M := [R.blk b3 81 [v0_0, (.int .i64 u9.2.2.2.1), (.int .u64 u9.2.2.2.2)]]) rfl hB13 hE22 hM23
 have hS25 : Sep w0.heap.size w21 [R.blk b3 81 [v0_0, (.int .i64 u20.2.2.1), (.int .u64 u20.2.2.2)], R.own ty_63 F16 v15 u9.1, R.own ty_39 F18 v17 u9.2.1] := hS14.take [0] [1, 2] rfl (M := [R.blk b3 81 [v0_0, (.int .i64 u9.2.2.2.1), (.int .u64 u9.2.2.2.2)]]) rfl hM23 hB13.size
 refine wl_move rfl rfl (wl_move rfl rfl ?_)
 obtain ⟨u26, hu26, hF⟩ := bindE hF
 refine wl_call rfl Tryd.call52 (C_spec_l1Cur__measureOf__mut__box w21 (x0, u20.2.2.1, u20.2.2.2) b3 v0_0 (h0_0.oldo hB24 (hS25.sel [0] rfl)) u9.1 v15 (own_out (hS25.sel [1, 0] rfl)) (hS25.sel [0] rfl).base0 _ hu26) rfl ?_
 rintro _ w27 ⟨rfl, hE28, hM29⟩
 refine ⟨_, rfl, ?_⟩
 have hB30 := hS25.takeB [0] rfl (M := [R.blk b3 81 [v0_0, (.int .i64 u20.2.2.1), (.int .u64 u20.2.2.2)]]) rfl hB24 hE28 hM29
 have hS31 : Sep w0.heap.size w27 [R.blk b3 81 [v0_0, (.int .i64 u26.2.2.1), (.int .u64 u26.2.2.2)], R.own ty_63 F16 v15 u9.1, R.own ty_39 F18 v17 u9.2.1] := hS25.take [0] [1, 2] rfl (M := [R.blk b3 81 [v0_0, (.int .i64 u20.2.2.1), (.int .u64 u20.2.2.2)]]) rfl hM29 hB24.size
 refine wl_assign rfl rfl (wl_assign rfl rfl (WL.nil (fun a ha => hK19 _ _ (W.seq fun K32 hK32 => (W.region (wl_move rfl rfl (wl_move rfl rfl (wl_lit (vs := [(.int .i64 0), (.int .i64 11)]) (l := [0, 11]) fl_3 Tryd.underlying59 rfl rfl rfl rfl rfl rfl hB30 hS31 ?_))))) a ha)))
 intro v33 F34 w35 hb36 hB37 hS38
 obtain ⟨u39, hu39, hF⟩ := bindE hF
 refine wl_call rfl Tryd.call53 (C_spec_l1Cur__among__mut__box w35 (x0, u26.2.2.1, u26.2.2.2) b3 v0_0 (h0_0.oldo hB37 (hS38.sel [1] rfl)) [0, 11] v33 (own_out (hS38.sel [0, 1] rfl)) (hS38.sel [1] rfl).base0 _ hu39) rfl ?_
 rintro _ w40 ⟨rfl, hE41, hM42⟩
 refine ⟨_, rfl, ?_⟩
 have hB43 := hS38.takeB [1] rfl (M := [R.blk b3 81 [v0_0, (.int .i64 u26.2.2.1), (.int .u64 u26.2.2.2)]]) rfl hB37 hE41 hM42
 have hS44 : Sep w0.heap.size w40 [R.blk b3 81 [v0_0, (.int .i64 u39.2.2.1), (.int .u64 u39.2.2.2)], R.own ty_3 F34 v33 [0, 11], R.own ty_63 F16 v15 u9.1, R.own ty_39 F18 v17 u9.2.1] := hS38.take [1] [0, 2, 3] rfl (M := [R.blk b3 81 [v0_0, (.int .i64 u26.2.2.1), (.int .u64 u26.2.2.2)]]) rfl hM42 hB37.size
 refine wl_lit (vs := [(.int .i64 1), (.int .i64 2), (.int .i64 3), (.int .i64 10), (.int .i64 u39.1)]) (l := [1, 2, 3, 10, u39.1]) fl_3 Tryd.underlying59 rfl rfl rfl rfl rfl rfl hB43 hS44 ?_
 intro v45 F46 w47 hb48 hB49 hS50
 obtain ⟨u51, hu51, hF⟩ := bindE hF
 refine wl_call rfl Tryd.call53 (C_spec_l1Cur__among__mut__box w47 (x0, u39.2.2.1, u39.2.2.2) b3 v0_0 (h0_0.oldo hB49 (hS50.sel [1] rfl)) [1, 2, 3, 10, u39.1] v45 (own_out (hS50.sel [0, 1] rfl)) (hS50.sel [1] rfl).base0 _ hu51) rfl ?_
 rintro _ w52 ⟨rfl, hE53, hM54⟩
 refine ⟨_, rfl, ?_⟩
 have hB55 := hS50.takeB [1] rfl (M := [R.blk b3 81 [v0_0, (.int .i64 u39.2.2.1), (.int .u64 u39.2.2.2)]]) rfl hB49 hE53 hM54
 have hS56 : Sep w0.heap.size w52 [R.blk b3 81 [v0_0, (.int .i64 u51.2.2.1), (.int .u64 u51.2.2.2)], R.own ty_3 F46 v45 [1, 2, 3, 10, u39.1], R.own ty_3 F34 v33 [0, 11], R.own ty_63 F16 v15 u9.1, R.own ty_39 F18 v17 u9.2.1] := hS50.take [1] [0, 2, 3, 4] rfl (M := [R.blk b3 81 [v0_0, (.int .i64 u39.2.2.1), (.int .u64 u39.2.2.2)]]) rfl hM54 hB49.size
 refine wl_assign rfl rfl (WL.nil (fun a ha => hK32 _ _ (W.seq fun K57 hK57 => (W.seq fun K58 hK58 => (W.region (wl_move rfl rfl ?_)))) a ha))
 obtain ⟨u59, hu59, hF⟩ := bindE hF
 refine wl_call rfl Tryd.call54 (C_spec_l1Cur__one__mut__box w52 (x0, u51.2.2.1, u51.2.2.2) b3 v0_0 (h0_0.oldo hB55 (hS56.sel [0] rfl)) 8 (hS56.sel [0] rfl).base0 _ hu59) rfl ?_
 rintro _ w60 ⟨rfl, hE61, hM62⟩
 refine ⟨_, rfl, ?_⟩
 have hB63 := hS56.takeB [0] rfl (M := [R.blk b3 81 [v0_0, (.int .i64 u51.2.2.1), (.int .u64 u51.2.2.2)]]) rfl hB55 hE61 hM62
 have hS64 : Sep w0.heap.size w60 [R.blk b3 81 [v0_0, (.int .i64 u59.2.2.1), (.int .u64 u59.2.2.2)], R.own ty_3 F46 v45 [1, 2, 3, 10, u39.1], R.own ty_3 F34 v33 [0, 11], R.own ty_63 F16 v15 u9.1, R.own ty_39 F18 v17 u9.2.1] := hS56.take [0] [1, 2, 3, 4] rfl (M := [R.blk b3 81 [v0_0, (.int .i64 u51.2.2.1), (.int .u64 u51.2.2.2)]]) rfl hM62 hB55.size
 refine WL.nil fun a ha => hK58 _ _ (W.cond rfl (fun h65 => ?_) (fun h65 => ?_)) a ha
 ·replace hF := ifP h65 hF
  refine W.seq fun K66 hK66 => W.region (wl_move rfl rfl (wl_move rfl rfl (wl_move rfl rfl (wl_move rfl rfl (wl_move rfl rfl (wl_assign rfl rfl (wl_assign rfl rfl (wl_assign rfl rfl (wl_assign rfl rfl (wl_assign rfl rfl (WL.nil (fun a ha => hK66 _ _ ?_ a ha))))))))))))
  refine W.ret ?_
  have hr := Option.some.inj hF
  subst hr
  exact rets (vs := [v15, v17, (.int .i64 u20.1), (.int .i64 u26.1), (.int .i64 u51.1)]) hQ rfl ⟨rv_tmp rfl, rv_tmp rfl, rv_tmp rfl, rv_tmp rfl, rv_tmp rfl, trivial⟩ ⟨v15, F16, v17, F18, rfl, hB63, hS64.sel [3, 4] rfl⟩
 ·replace hF := ifN h65 hF
  refine W.skip fun a ha => hK57 _ _ (W.seq fun K67 hK67 => (W.region (wl_move rfl rfl (wl_move rfl rfl (wl_move rfl rfl (wl_move rfl rfl ?_)))))) a ha
  obtain ⟨u68, hu68, hF⟩ := bindE hF
  refine wl_call rfl Tryd.call55 (C_spec_l1Least w60 u20.1 u26.1 _ hu68) rfl ?_
  rintro _ w69 ⟨rfl, hb70⟩
  refine ⟨_, rfl, ?_⟩
  have hB71 := hB63.trans (hb70.mono hB63.size)
  have hS72 := hS64.below hb70
  refine wl_move rfl rfl (wl_move rfl rfl ?_)
  obtain ⟨u74, hu74, hF⟩ := bindE hF
  refine wl_call rfl Tryd.call56 (C_spec_l1Most w69 u20.1 u26.1 _ hu74) rfl ?_
  rintro _ w75 ⟨rfl, hb76⟩
  refine ⟨_, rfl, ?_⟩
  have hB77 := hB71.trans (hb76.mono hB71.size)
  have hS78 := hS72.below hb76
  refine wl_move rfl rfl (wl_assign rfl rfl (wl_assign rfl rfl (wl_assign rfl rfl (wl_assign rfl rfl (wl_assign rfl rfl (WL.nil (fun a ha => hK67 _ _ (W.ret ?_) a ha)))))))
  have hr := Option.some.inj hF
  subst hr
  exact rets (vs := [v15, v17, (.int .i64 u68), (.int .i64 u74), (.int .i64 u51.1)]) hQ rfl ⟨rv_tmp rfl, rv_tmp rfl, rv_tmp rfl, rv_tmp rfl, rv_tmp rfl, trivial⟩ ⟨v15, F16, v17, F18, rfl, hB77, hS78.sel [3, 4] rfl⟩
theorem C_impl_RepeatMeasures (w0 : World) (x0 : (List (Int × Int))) (v0_0 : Value) (h0_0 : rdS ty_63 (· < w0.heap.size) w0 v0_0 x0) (x1 : Int) (x2 : Int) (x3 : Int) (r : ((List (Int × Int)) × Bool)) (hF : F_impl_RepeatMeasures x0 x1 x2 x3 = some r) :
  Calls Tryd.prog 29 [v0_0, (.int .i64 x1), (.int .i64 x2), (.int .i64 x3)].toArray w0 fun e w' => ∃ (q0 : Value) (G0 : List Nat), e = .returned (.tuple #[q0, (.bool r.2)]) ∧ Below w0.heap.size w0 w' ∧ Sep w0.heap.size w' [R.own ty_63 G0 q0 r.1] := by
 refine calls_mk' Tryd.func29 rfl Tryd.ntmps29 rfl rfl fun Q hQ hP => ?_
 have hB : Below w0.heap.size w0 w0 := Below.refl _ _
 have hS : Sep w0.heap.size w0 [] := Sep.nil _ _
 unfold F_impl_RepeatMeasures at hF
 refine W.seq fun K1 hK1 => W.region (wl_assign rfl rfl (wl_assign rfl rfl (WL.nil (fun a ha => hK1 _ _ (W.seq fun K2 hK2 => (W.seq fun K3 hK3 => ?_)) a ha))))
 obtain ⟨k8, hk8, hF⟩ := jE1 hF
 have hJ9 : ∀ (y7 : Bool) (w4 : World) (_ : k8 y7 = some r) (_ : Below w0.heap.size w0 w4) (_ : Sep w0.heap.size w4 []), ∀ a, St 62 [(0, v0_0), (1, (.int .i64 x1)), (2, (.int .i64 x2)), (3, (.int .i64 x3)), (34, (.bool y7))] a → K3 a w4 := by
  intro y7 w4 hF hB5 hS6
  subst hk8
  refine fun a ha => hK3 _ _ (W.cond rfl (fun h10 => ?_) (fun h10 => ?_)) a ha
  ·replace hF := ifP h10 hF
   refine W.seq fun K11 hK11 => W.region (wl_assign rfl rfl (wl_assign rfl rfl (WL.nil (fun a ha => hK11 _ _ (W.ret ?_) a ha))))
   have hS12 := hS6.push0 (r := R.own ty_63 [] (.slice none 0 0) []) rfl fun _ => .inl ⟨rfl, rfl, rfl⟩
   have hr := Option.some.inj hF
   subst hr
   exact rets (vs := [(.slice none 0 0), (.bool false)]) hQ rfl ⟨rv_tmp rfl, rv_tmp rfl, trivial⟩ ⟨(.slice none 0 0), [], rfl, hB5, hS12.sel [0] rfl⟩
  ·replace hF := ifN h10 hF
   refine W.skip fun a ha => hK2 _ _ (W.seq fun K13 hK13 => (W.region (wl_lit (vs := []) (l := []) fl_63 Tryd.underlying28 rfl rfl rfl rfl rfl rfl hB5 hS6 ?_))) a ha
   intro v14 F15 w16 hb17 hB18 hS19
   refine wl_move rfl rfl (wl_move rfl rfl ?_)
   obtain ⟨u20, hu20, hF⟩ := bindE hF
   refine wl_slice (e := ty_63) Tryd.underlying28 rfl rfl h0_0 hu20 (.inl ⟨rfl, rfl⟩) (.inr ⟨_, _, rfl, rfl⟩) ?_
   intro v21 hv22
   obtain ⟨u23, hu23, hF⟩ := bindE hF
   refine wl_append (i := 0) (S := (· < w16.heap.size)) fl_63 Tryd.underlying28 rfl rfl rfl hB18 hS19 rfl (hv22.ro hB18) hu23 ?_
   intro v24 F25 w26 hk27 hB28 hS29
   refine wl_assign rfl rfl (WL.nil (fun a ha => hK13 _ _ (W.seq fun K30 hK30 => (W.seq fun K31 hK31 => (W.region (wl_assign rfl rfl (WL.nil (fun a ha => hK31 _ _ (W.block (W.loopk (fun m a w32 => ∃ (l35 : (List (Int × Int))) (y38 : Int) (v36 : Value) (F37 : List Nat), St 62 [(0, v0_0), (1, (.int .i64 x1)), (2, (.int .i64 x2)), (3, (.int .i64 x3)), (10, v36), (11, (.int .i64 y38))] a ∧ Below w0.heap.size w0 w32 ∧ Sep w0.heap.size w32 [R.own ty_63 F37 v36 l35] ∧ F_impl_RepeatMeasures_L1 x3 x0 x1 x2 m l35 y38 = some r) FU ?_ ?_)) a ha)))))) a ha))
   ·
    exact fun a ha => ⟨u23, 0, v24, F25, ha.sub ⟨rfl, rfl, rfl, rfl, rfl, rfl, trivial⟩, hB28, (hS29.sel [0] rfl), hF⟩
   ·
    rintro m41 a w32 ⟨l35, y38, v36, F37, ha, hB33, hS34, hF⟩ KL40 hKL40
    refine W.at ?_ ha
    cases m41 with
    | zero => exact noneE hF
    | succ m41 =>
     obtain ⟨nx39, hnx39⟩ : ∃ k, k = F_impl_RepeatMeasures_L1 x3 x0 x1 x2 m41 := ⟨_, rfl⟩
     rw [F_impl_RepeatMeasures_L1, ← hnx39] at hF
     refine W.seq fun K42 hK42 => W.seq fun K43 hK43 => W.region (wl_move rfl rfl (wl_move rfl rfl (wl_lss rfl rfl rfl (WL.nil (fun a ha => hK43 _ _ (W.cond rfl (fun h44 => ?_) (fun h44 => ?_)) a ha)))))
     ·replace hF := ifP h44 hF
      refine W.skip fun a ha => hK42 _ _ (W.seq fun K45 hK45 => (W.block (W.region (wl_move rfl rfl (wl_move rfl rfl (wl_move rfl rfl (wl_move rfl rfl (wl_add rfl rfl rfl ?_)))))))) a ha
      obtain ⟨u46, hu46, hF⟩ := bindE hF
      refine wl_slice (e := ty_63) Tryd.underlying28 rfl rfl h0_0 hu46 (.inr ⟨_, _, rfl, rfl⟩) (.inr ⟨_, _, rfl, rfl⟩) ?_
      intro v47 hv48
      obtain ⟨u49, hu49, hF⟩ := bindE hF
      refine wl_append (i := 0) (S := (· < w32.heap.size)) fl_63 Tryd.underlying28 rfl rfl rfl hB33 hS34 rfl (hv48.ro hB33) hu49 ?_
      intro v50 F51 w52 hk53 hB54 hS55
      refine wl_assign rfl rfl (WL.nil (fun a ha => hK45 _ _ (W.region (wl_move rfl rfl (wl_add rfl rfl rfl (wl_assign rfl rfl (WL.nil ?_))))) a ha))
      rw [hnx39] at hF
      exact fun a ha => hKL40 a _ m41 (Nat.lt_succ_self m41) ⟨u49, (w64 (y38 + 1)), v50, F51, ha.sub ⟨rfl, rfl, rfl, rfl, rfl, rfl, trivial⟩, hB54, (hS55.sel [0] rfl), hF⟩
     ·replace hF := ifN h44 hF
      refine W.exit fun a ha => hK30 _ _ (W.seq fun K56 hK56 => (W.region (wl_move rfl rfl (wl_move rfl rfl (wl_move rfl rfl (wl_add rfl rfl rfl ?_)))))) a ha
      obtain ⟨u57, hu57, hF⟩ := bindE hF
      refine wl_slice (e := ty_63) Tryd.underlying28 rfl rfl h0_0 hu57 (.inr ⟨_, _, rfl, rfl⟩) (.inl ⟨rfl, rfl⟩) ?_
      intro v58 hv59
      obtain ⟨u60, hu60, hF⟩ := bindE hF
      refine wl_append (i := 0) (S := (· < w32.heap.size)) fl_63 Tryd.underlying28 rfl rfl rfl hB33 hS34 rfl (hv59.ro hB33) hu60 ?_
      intro v61 F62 w63 hk64 hB65 hS66
      refine wl_assign rfl rfl (WL.nil (fun a ha => hK56 _ _ (W.seq fun K67 hK67 => (W.seq fun K68 hK68 => (W.region (wl_move rfl rfl ?_)))) a ha))
      obtain ⟨u69, hu69, hF⟩ := bindE hF
      refine wl_call rfl Tryd.call62 (C_impl_IsMusic w63 u60 v61 (hS66.own_ro (i := 0) rfl) _ hu69) rfl ?_
      rintro _ w70 ⟨rfl, hb71⟩
      refine ⟨_, rfl, ?_⟩
      have hB72 := hB65.trans (hb71.mono hB65.size)
      have hS73 := hS66.below hb71
      refine wl_not rfl rfl (WL.nil (fun a ha => hK68 _ _ (W.cond rfl (fun h75 => ?_) (fun h75 => ?_)) a ha))
      ·replace hF := ifP h75 hF
       refine W.seq fun K76 hK76 => W.region (wl_assign rfl rfl (wl_assign rfl rfl (WL.nil (fun a ha => hK76 _ _ (W.ret ?_) a ha))))
       have hS77 := hS73.push0 (r := R.own ty_63 [] (.slice none 0 0) []) rfl fun _ => .inl ⟨rfl, rfl, rfl⟩
       have hr := Option.some.inj hF
       subst hr
       exact rets (vs := [(.slice none 0 0), (.bool false)]) hQ rfl ⟨rv_tmp rfl, rv_tmp rfl, trivial⟩ ⟨(.slice none 0 0), [], rfl, hB72, hS77.sel [0] rfl⟩
      ·replace hF := ifN h75 hF
       refine W.skip fun a ha => hK67 _ _ (W.seq fun K78 hK78 => (W.region (wl_move rfl rfl (wl_assign rfl rfl (wl_assign rfl rfl (WL.nil (fun a ha => hK78 _ _ (W.ret ?_) a ha))))))) a ha
       have hr := Option.some.inj hF
       subst hr
       exact rets (vs := [v61, (.bool true)]) hQ rfl ⟨rv_tmp rfl, rv_tmp rfl, trivial⟩ ⟨v61, F62, rfl, hB72, hS73.sel [0] rfl⟩
 refine W.region (wl_move rfl rfl ?_)
 obtain ⟨u79, hu79, hF⟩ := bindE hF
 refine wl_call rfl Tryd.call62 (C_impl_IsMusic w0 x0 v0_0 (h0_0.ro hB) _ hu79) rfl ?_
 rintro _ w80 ⟨rfl, hb81⟩
 refine ⟨_, rfl, ?_⟩
 have hB82 := hB.trans (hb81.mono hB.size)
 have hS83 := hS.below hb81
 refine wl_not rfl rfl (wl_move rfl rfl ?_)
 rcases bE (!u79) with h85 | h85
 ·replace hF := ifP h85 hF
  refine wl_off rfl rfl rfl h85 (wl_off rfl rfl rfl h85 (wl_pick_t rfl rfl h85 rfl (wl_move rfl rfl (wl_off rfl rfl rfl rfl (wl_off rfl rfl rfl rfl (wl_off rfl rfl rfl rfl (wl_pick_t rfl rfl rfl rfl (wl_move rfl rfl (wl_off rfl rfl rfl rfl (wl_off rfl rfl rfl rfl (wl_off rfl rfl rfl rfl (wl_off rfl rfl rfl rfl (wl_pick_t rfl rfl rfl rfl ?_)))))))))))))
  refine wl_move rfl rfl (wl_off rfl rfl rfl rfl (wl_off rfl rfl rfl rfl (wl_off rfl rfl rfl rfl (wl_pick_t rfl rfl rfl rfl (WL.nil ?_)))))
  exact fun a ha => hJ9 (true) _ hF hB82 (hS83.sel [] rfl) a (ha.sub ⟨rfl, rfl, rfl, rfl, rfl, trivial⟩)
 ·replace hF := ifN h85 hF
  refine wl_on rfl rfl h85 (wl_move rfl rfl (wl_on rfl rfl h85 (wl_lss rfl rfl rfl (wl_pick_f rfl rfl h85 rfl (wl_move rfl rfl ?_)))))
  rcases bE (decide (x1 < 0)) with h86 | h86
  ·replace hF := ifP h86 hF
   refine wl_off rfl rfl rfl h86 (wl_off rfl rfl rfl h86 (wl_off rfl rfl rfl h86 (wl_pick_t rfl rfl h86 rfl (wl_move rfl rfl (wl_off rfl rfl rfl rfl (wl_off rfl rfl rfl rfl (wl_off rfl rfl rfl rfl (wl_off rfl rfl rfl rfl (wl_pick_t rfl rfl rfl rfl (wl_move rfl rfl (wl_off rfl rfl rfl rfl (wl_off rfl rfl rfl rfl (wl_off rfl rfl rfl rfl ?_)))))))))))))
   refine wl_pick_t rfl rfl rfl rfl (WL.nil ?_)
   exact fun a ha => hJ9 (true) _ hF hB82 (hS83.sel [] rfl) a (ha.sub ⟨rfl, rfl, rfl, rfl, rfl, trivial⟩)
  ·replace hF := ifN h86 hF
   refine wl_on rfl rfl h86 (wl_move rfl rfl (wl_on rfl rfl h86 (wl_move rfl rfl (wl_on rfl rfl h86 (wl_gtr rfl rfl rfl (wl_pick_f rfl rfl h86 rfl (wl_move rfl rfl ?_)))))))
   rcases bE (decide (x2 < x1)) with h87 | h87
   ·replace hF := ifP h87 hF
    refine wl_off rfl rfl rfl h87 (wl_off rfl rfl rfl h87 (wl_off rfl rfl rfl h87 (wl_off rfl rfl rfl h87 (wl_pick_t rfl rfl h87 rfl (wl_move rfl rfl (wl_off rfl rfl rfl rfl (wl_off rfl rfl rfl rfl (wl_off rfl rfl rfl rfl (wl_pick_t rfl rfl rfl rfl (WL.nil ?_))))))))))
    exact fun a ha => hJ9 (true) _ hF hB82 (hS83.sel [] rfl) a (ha.sub ⟨rfl, rfl, rfl, rfl, rfl, trivial⟩)
   ·replace hF := ifN h87 hF
    refine wl_on rfl rfl h87 (wl_move rfl rfl (wl_on rfl rfl h87 (wl_move rfl rfl (wl_on rfl rfl h87 (wl_lenr (e := ty_63) (l := x0) Tryd.underlying28 rfl rfl h0_0 (wl_on rfl rfl h87 (wl_geq rfl rfl rfl (wl_pick_f rfl rfl h87 rfl (wl_move rfl rfl ?_)))))))))
    rcases bE (decide ((List.length x0 : Int) ≤ x2)) with h88 | h88
    ·replace hF := ifP h88 hF
     refine wl_off rfl rfl rfl h88 (wl_off rfl rfl rfl h88 (wl_off rfl rfl rfl h88 (wl_pick_t rfl rfl h88 rfl (WL.nil ?_))))
     exact fun a ha => hJ9 (true) _ hF hB82 (hS83.sel [] rfl) a (ha.sub ⟨rfl, rfl, rfl, rfl, rfl, trivial⟩)
    ·replace hF := ifN h88 hF
     refine wl_on rfl rfl h88 (wl_move rfl rfl (wl_on rfl rfl h88 ?_))
     obtain ⟨u89, hu89, hF⟩ := bindE hF
     refine wl_call rfl Tryd.call65 (C_impl_within w80 x3 1 10 _ hu89) rfl ?_
     rintro _ w90 ⟨rfl, hb91⟩
     refine ⟨_, rfl, ?_⟩
     have hB92 := hB82.trans (hb91.mono hB82.size)
     have hS93 := hS83.below hb91
     refine wl_on rfl rfl h88 (wl_not rfl rfl (wl_pick_f rfl rfl h88 rfl (WL.nil ?_)))
     exact fun a ha => hJ9 ((!u89)) _ hF hB92 (hS93.sel [] rfl) a (ha.sub ⟨rfl, rfl, rfl, rfl, rfl, trivial⟩)
theorem C_impl_CuesAfterRepeat (w0 : World) (x0 : (List (Int × Int))) (v0_0 : Value) (h0_0 : rdS ty_63 (· < w0.heap.size) w0 v0_0 x0) (x1 : (List (Int × (List UInt8)))) (v1_0 : Value) (h1_0 : rdS ty_39 (· < w0.heap.size) w0 v1_0 x1) (x2 : Int) (x3 : Int) (x4 : Int) (r : ((List (Int × (List UInt8))) × Bool)) (hF : F_impl_CuesAfterRepeat x0 x1 x2 x3 x4 = some r) :
  Calls Tryd.prog 18 [v0_0, v1_0, (.int .i64 x2), (.int .i64 x3), (.int .i64 x4)].toArray w0 fun e w' => ∃ (q0 : Value) (G0 : List Nat), e = .returned (.tuple #[q0, (.bool r.2)]) ∧ Below w0.heap.size w0 w' ∧ Sep w0.heap.size w' [R.own ty_39 G0 q0 r.1] := by
 refine calls_mk' Tryd.func18 rfl Tryd.ntmps18 rfl rfl fun Q hQ hP => ?_
 have hB : Below w0.heap.size w0 w0 := Below.refl _ _
 have hS : Sep w0.heap.size w0 [] := Sep.nil _ _
 unfold F_impl_CuesAfterRepeat at hF
 refine W.seq fun K1 hK1 => W.region (wl_assign rfl rfl (wl_assign rfl rfl (WL.nil (fun a ha => hK1 _ _ (W.seq fun K2 hK2 => (W.seq fun K3 hK3 => (W.region (wl_move rfl rfl (wl_move rfl rfl ?_))))) a ha))))
 obtain ⟨u4, hu4, hF⟩ := bindE hF
 refine wl_call rfl Tryd.call39 (C_impl_haveCues w0 x0 v0_0 (h0_0.ro hB) x1 v1_0 (h1_0.ro hB) _ hu4) rfl ?_
 rintro _ w5 ⟨rfl, hb6⟩
 refine ⟨_, rfl, ?_⟩
 have hB7 := hB.trans (hb6.mono hB.size)
 have hS8 := hS.below hb6
 refine wl_not rfl rfl (WL.nil (fun a ha => hK3 _ _ (W.cond rfl (fun h10 => ?_) (fun h10 => ?_)) a ha))
 ·replace hF := ifP h10 hF
  refine W.seq fun K11 hK11 => W.region (wl_assign rfl rfl (wl_assign rfl rfl (WL.nil (fun a ha => hK11 _ _ (W.ret ?_) a ha))))
  have hS12 := hS8.push0 (r := R.own ty_39 [] (.slice none 0 0) []) rfl fun _ => .inl ⟨rfl, rfl, rfl⟩
  have hr := Option.some.inj hF
  subst hr
  exact rets (vs := [(.slice none 0 0), (.bool false)]) hQ rfl ⟨rv_tmp rfl, rv_tmp rfl, trivial⟩ ⟨(.slice none 0 0), [], rfl, hB7, hS12.sel [0] rfl⟩
 ·replace hF := ifN h10 hF
  refine W.skip fun a ha => hK2 _ _ (W.seq fun K13 hK13 => (W.seq fun K14 hK14 => (W.region (wl_move rfl rfl (wl_move rfl rfl (wl_move rfl rfl (wl_move rfl rfl ?_))))))) a ha
  obtain ⟨u15, hu15, hF⟩ := bindE hF
  refine wl_call rfl Tryd.call29 (C_impl_RepeatMeasures w5 x0 v0_0 (h0_0.ro hB7) x2 x3 x4 _ hu15) rfl ?_
  rintro _ w18 ⟨v16, F17, rfl, hb19, hM22⟩
  refine ⟨_, rfl, ?_⟩
  have hB20 := hB7.trans (hb19.mono hB7.size)
  have hS21 := hS8.join hb19 hM22 hB7.size
  refine wl_move rfl rfl (wl_extract rfl rfl rfl (wl_extract rfl rfl rfl (wl_assign rfl rfl (wl_assign rfl rfl (WL.nil (fun a ha => hK14 _ _ (W.seq fun K23 hK23 => (W.region (wl_move rfl rfl (wl_not rfl rfl (WL.nil (fun a ha => hK23 _ _ (W.cond rfl (fun h24 => ?_) (fun h24 => ?_)) a ha)))))) a ha))))))
  ·replace hF := ifP h24 hF
   refine W.seq fun K25 hK25 => W.region (wl_assign rfl rfl (wl_assign rfl rfl (WL.nil (fun a ha => hK25 _ _ (W.ret ?_) a ha))))
   have hS26 := hS21.push0 (r := R.own ty_39 [] (.slice none 0 0) []) rfl fun _ => .inl ⟨rfl, rfl, rfl⟩
   have hr := Option.some.inj hF
   subst hr
   exact rets (vs := [(.slice none 0 0), (.bool false)]) hQ rfl ⟨rv_tmp rfl, rv_tmp rfl, trivial⟩ ⟨(.slice none 0 0), [], rfl, hB20, hS26.sel [0] rfl⟩
  ·replace hF := ifN h24 hF
   refine W.skip fun a ha => hK13 _ _ (W.seq fun K27 hK27 => (W.regionH mixed_ [] hB20 hS21 ?_)) a ha
   intro w28 hb29 hB30 hS31
   have hSW32 := KeepX.refl w28 []
   refine WH.tk 0 rfl hP hSW32 (pr_move rfl rfl (WH.tk 1 rfl hP hSW32 (pr_move rfl rfl (WH.tk 2 rfl hP hSW32 (pr_add rfl rfl rfl ?_)))))
   obtain ⟨u33, hu33, hF⟩ := bindE hF
   refine WH.tk 3 rfl hP hSW32 (pr_slice (e := ty_63) Tryd.underlying28 rfl rfl h0_0 hu33 (.inl ⟨rfl, rfl⟩) (.inr ⟨_, _, rfl, rfl⟩) ?_)
   intro v34 hv35
   refine WH.tk 5 rfl hP hSW32 (pr_move rfl rfl (WH.tk 6 rfl hP hSW32 (pr_sub rfl rfl rfl (WH.tk 7 rfl hP hSW32 (pr_move rfl rfl (WH.tk 8 rfl hP hSW32 (pr_move rfl rfl (WH.tk 9 rfl hP hSW32 (pr_move rfl rfl (WH.tk 10 rfl hP hSW32 (pr_add rfl rfl rfl ?_)))))))))))
   obtain ⟨u36, hu36, hF⟩ := bindE hF
   refine WH.tk 11 rfl hP hSW32 (pr_slice (e := ty_63) Tryd.underlying28 rfl rfl h0_0 hu36 (.inr ⟨_, _, rfl, rfl⟩) (.inr ⟨_, _, rfl, rfl⟩) ?_)
   intro v37 hv38
   refine WH.on1 4 rfl ?_
   obtain ⟨u39, hu39, hF⟩ := bindE hF
   refine wl_call rfl Tryd.call57 (C_impl_countsOf w28 u33 v34 (hv35.ro hB30) _ hu39) rfl ?_
   rintro _ w40 ⟨rfl, hb41⟩
   refine ⟨_, rfl, ?_⟩
   have hB42 := hB30.trans (hb41.mono hB30.size)
   have hS43 := hS31.below hb41
   have hSW45 := hSW32.ext hb41
   refine WL.nil (WH.ret hSW45 (WH.on1 12 rfl ?_))
   obtain ⟨u46, hu46, hF⟩ := bindE hF
   refine wl_call rfl Tryd.call57 (C_impl_countsOf w40 u36 v37 (hv38.ro hB42) _ hu46) rfl ?_
   rintro _ w47 ⟨rfl, hb48⟩
   refine ⟨_, rfl, ?_⟩
   have hB49 := hB42.trans (hb48.mono hB42.size)
   have hS50 := hS43.below hb48
   have hSW52 := hSW45.ext hb48
   refine WL.nil (WH.ret hSW52 (WH.tk 13 rfl hP hSW52 (pr_mul rfl rfl rfl (WH.tk 14 rfl hP hSW52 (pr_assign rfl rfl (WH.tk 15 rfl hP hSW52 (pr_assign rfl rfl (WH.done (by kernel_rfl) (fun a ha => hK27 _ _ (W.seq fun K53 hK53 => (W.region (wl_lit (vs := []) (l := []) fl_39 Tryd.underlying30 rfl rfl rfl rfl rfl rfl hB49 hS50 ?_))) a ha)))))))))
   intro v54 F55 w56 hb57 hB58 hS59
   refine wl_assign rfl rfl (WL.nil (fun a ha => hK53 _ _ (W.seq fun K60 hK60 => (W.seq fun K61 hK61 => (W.region (wl_move rfl rfl (wl_lenr (e := ty_39) (l := x1) Tryd.underlying30 rfl rfl h1_0 (wl_move rfl rfl (WL.nil (fun a ha => hK61 _ _ (W.block (W.loopk (fun m a w62 => ∃ (l65 : (List (Int × (List UInt8)))) (y68 : Int) (v66 : Value) (F67 : List Nat), St 69 [(14, (.int .i64 u39)), (15, (.int .i64 (w64 ((w64 (x4 - 1)) * u46)))), (16, v66), (48, v1_0), (49, (.int .i64 (List.length x1 : Int))), (50, (.int .i64 y68))] a ∧ Below w0.heap.size w0 w62 ∧ Sep w0.heap.size w62 [R.own ty_39 F67 v66 l65] ∧ F_impl_CuesAfterRepeat_L1 x1 u39 x4 u46 m l65 y68 = some r) FU ?_ ?_)) a ha)))))))) a ha))
   ·
    exact fun a ha => ⟨[], 0, v54, F55, ha.sub ⟨rfl, rfl, rfl, rfl, rfl, rfl, trivial⟩, hB58, (hS59.sel [0] rfl), hF⟩
   ·
    rintro m71 a w62 ⟨l65, y68, v66, F67, ha, hB63, hS64, hF⟩ KL70 hKL70
    refine W.at ?_ ha
    cases m71 with
    | zero => exact noneE hF
    | succ m71 =>
     obtain ⟨nx69, hnx69⟩ : ∃ k, k = F_impl_CuesAfterRepeat_L1 x1 u39 x4 u46 m71 := ⟨_, rfl⟩
     rw [F_impl_CuesAfterRepeat_L1, ← hnx69] at hF
     refine W.seq fun K72 hK72 => W.region (wl_lss rfl rfl rfl (WL.nil (fun a ha => hK72 _ _ (W.seq fun K73 hK73 => (W.cond rfl (fun h74 => ?_) (fun h74 => ?_))) a ha)))
     ·replace hF := ifP h74 hF
      refine W.skip fun a ha => hK73 _ _ (W.seq fun K75 hK75 => (W.block (W.seq fun K76 hK76 => (W.region ?_)))) a ha
      obtain ⟨u77, hu77, hF⟩ := bindE hF
      refine wl_index (e := ty_39) Tryd.underlying30 rfl rfl rfl h1_0 hu77 ?_
      rintro p78 _ rfl hp79
      refine wl_load_p (vs := [(.int .i64 u77.1), (.string (mkS u77.2))]) (v := (.agg #[(.int .i64 u77.1), (.string (mkS u77.2))])) tf_39 rfl rfl (hp79.ro hB63) rfl rfl (wl_alloc (cs := [(.int .i64 0), (.string (mkS []))]) tf_39 rfl rfl hB63 hS64 ?_)
      intro b80 w81 hb82 hB83 hS84
      refine wl_store_blk (i := 0) (vs := [(.int .i64 u77.1), (.string (mkS u77.2))]) (cs' := [(.int .i64 u77.1), (.string (mkS u77.2))]) tf_39 rfl rfl rfl rfl hB83 hS84 rfl rfl ⟨rfl, rfl, trivial⟩ rfl ?_
      intro w85 hk88 hB86 hS87
      refine WL.nil fun a ha => hK76 _ _ (W.seq fun K89 hK89 => ?_) a ha
      obtain ⟨k94, hk94, hF⟩ := jE1 hF
      have hJ95 : ∀ (y93 : Int) (w90 : World) (_ : k94 y93 = some r) (_ : Below w0.heap.size w0 w90) (_ : Sep w0.heap.size w90 [R.own ty_39 F67 v66 l65, R.blk b80 39 [(.int .i64 y93), (.string (mkS u77.2))]]), ∀ a, St 69 [(14, (.int .i64 u39)), (15, (.int .i64 (w64 ((w64 (x4 - 1)) * u46)))), (16, v66), (18, (.pointer (some ⟨b80, 0, none⟩))), (48, v1_0), (49, (.int .i64 (List.length x1 : Int))), (50, (.int .i64 y68))] a → K89 a w90 := by
       intro y93 w90 hF hB91 hS92
       subst hk94
       refine fun a ha => hK89 _ _ (W.region (wl_move rfl rfl (wl_load_blk (i := 1) (vs := [(.int .i64 y93), (.string (mkS u77.2))]) (v := (.agg #[(.int .i64 y93), (.string (mkS u77.2))])) tf_39 rfl rfl hS92 rfl rfl rfl (wl_lit (vs := [(.agg #[(.int .i64 y93), (.string (mkS u77.2))])]) (l := [(y93, u77.2)]) fl_39 Tryd.underlying30 rfl rfl rfl rfl rfl rfl hB91 hS92 ?_)))) a ha
       intro v96 F97 w98 hb99 hB100 hS101
       obtain ⟨u102, hu102, hF⟩ := bindE hF
       refine wl_append (i := 1) (S := (· < w98.heap.size)) fl_39 Tryd.underlying30 rfl rfl rfl hB100 hS101 rfl (hS101.own_ro (i := 0) rfl) hu102 ?_
       intro v103 F104 w105 hk106 hB107 hS108
       refine wl_assign rfl rfl (WL.nil (fun a ha => hK75 _ _ (W.region (wl_add rfl rfl rfl (wl_move rfl rfl (WL.nil ?_)))) a ha))
       rw [hnx69] at hF
       exact fun a ha => hKL70 a _ m71 (Nat.lt_succ_self m71) ⟨u102, (w64 (y68 + 1)), v103, F104, ha.sub ⟨rfl, rfl, rfl, rfl, rfl, rfl, trivial⟩, hB107, (hS108.sel [1] rfl), hF⟩
      refine W.seq fun K109 hK109 => W.region (wl_field (o := 0) (off' := 0) ff_39_0 rfl rfl rfl (wl_load_blk (i := 0) (vs := [(.int .i64 u77.1)]) (v := (.int .i64 u77.1)) tf_3 rfl rfl hS87 rfl rfl rfl (wl_move rfl rfl (wl_geq rfl rfl rfl (WL.nil (fun a ha => hK109 _ _ (W.cond rfl (fun h110 => ?_) (fun h110 => ?_)) a ha))))))
      ·replace hF := ifP h110 hF
       refine W.region (wl_field (o := 0) (off' := 0) ff_39_0 rfl rfl rfl (wl_load_blk (i := 0) (vs := [(.int .i64 u77.1)]) (v := (.int .i64 u77.1)) tf_3 rfl rfl hS87 rfl rfl rfl (wl_move rfl rfl (wl_add rfl rfl rfl (wl_field (o := 0) (off' := 0) ff_39_0 rfl rfl rfl (wl_store_blk (i := 0) (vs := [(.int .i64 (w64 (u77.1 + (w64 ((w64 (x4 - 1)) * u46)))))]) (cs' := [(.int .i64 (w64 (u77.1 + (w64 ((w64 (x4 - 1)) * u46))))), (.string (mkS u77.2))]) tf_3 rfl rfl rfl rfl hB86 hS87 rfl rfl ⟨rfl, trivial⟩ rfl ?_))))))
       intro w111 hk114 hB112 hS113
       refine WL.nil ?_
       exact fun a ha => hJ95 ((w64 (u77.1 + (w64 ((w64 (x4 - 1)) * u46))))) _ hF hB112 (hS113.sel [1, 0] rfl) a (ha.sub ⟨rfl, rfl, rfl, rfl, rfl, rfl, rfl, trivial⟩)
      ·replace hF := ifN h110 hF
       refine W.skip ?_
       exact fun a ha => hJ95 (u77.1) _ hF hB86 (hS87.sel [1, 0] rfl) a (ha.sub ⟨rfl, rfl, rfl, rfl, rfl, rfl, rfl, trivial⟩)
     ·replace hF := ifN h74 hF
      refine W.exit fun a ha => hK60 _ _ (W.seq fun K115 hK115 => (W.region (wl_move rfl rfl (wl_assign rfl rfl (wl_assign rfl rfl (WL.nil (fun a ha => hK115 _ _ (W.ret ?_) a ha))))))) a ha
      have hr := Option.some.inj hF
      subst hr
      exact rets (vs := [v66, (.bool true)]) hQ rfl ⟨rv_tmp rfl, rv_tmp rfl, trivial⟩ ⟨v66, F67, rfl, hB63, hS64.sel [0] rfl⟩
theorem C_spec_muRange (w0 : World) (x0 : (List (Int × Int))) (v0_0 : Value) (h0_0 : rdS ty_63 (· < w0.heap.size) w0 v0_0 x0) (x1 : Int) (x2 : Int) (r : Bool) (hF : F_spec_muRange x0 x1 x2 = some r) :
  Calls Tryd.prog 67 [v0_0, (.int .i64 x1), (.int .i64 x2)].toArray w0 fun e w' => e = .returned (.bool r) ∧ Below w0.heap.size w0 w' := by
 refine calls_mk' Tryd.func67 rfl Tryd.ntmps67 rfl rfl fun Q hQ hP => ?_
 have hB : Below w0.heap.size w0 w0 := Below.refl _ _
 have hS : Sep w0.heap.size w0 [] := Sep.nil _ _
 unfold F_spec_muRange at hF
 refine W.seq fun K1 hK1 => W.region (wl_assign rfl rfl (WL.nil (fun a ha => hK1 _ _ (W.seq fun K2 hK2 => ?_) a ha)))
 obtain ⟨k7, hk7, hF⟩ := jE1 hF
 have hJ8 : ∀ (y6 : Bool) (w3 : World) (_ : k7 y6 = some r) (_ : Below w0.heap.size w0 w3) (_ : Sep w0.heap.size w3 []), ∀ a, St 22 [(6, (.bool y6))] a → K2 a w3 := by
  intro y6 w3 hF hB4 hS5
  subst hk7
  refine fun a ha => hK2 _ _ (W.ret ?_) a ha
  have hr := Option.some.inj hF
  subst hr
  exact rets (vs := [(.bool y6)]) hQ rfl ⟨rv_tmp rfl, trivial⟩ ⟨rfl, hB4⟩
 refine W.region (wl_move rfl rfl ?_)
 obtain ⟨u9, hu9, hF⟩ := bindE hF
 refine wl_call rfl Tryd.call63 (C_spec_muGood w0 x0 v0_0 (h0_0.ro hB) _ hu9) rfl ?_
 rintro _ w10 ⟨rfl, hb11⟩
 refine ⟨_, rfl, ?_⟩
 have hB12 := hB.trans (hb11.mono hB.size)
 have hS13 := hS.below hb11
 refine wl_move rfl rfl ?_
 rcases bE u9 with h15 | h15
 ·replace hF := ifP h15 hF
  refine wl_on rfl rfl h15 (wl_move rfl rfl (wl_on rfl rfl h15 (wl_move rfl rfl (wl_on rfl rfl h15 ?_))))
  obtain ⟨u16, hu16, hF⟩ := bindE hF
  refine wl_call rfl Tryd.call68 (C_spec_l1In w10 x1 0 x2 _ hu16) rfl ?_
  rintro _ w17 ⟨rfl, hb18⟩
  refine ⟨_, rfl, ?_⟩
  have hB19 := hB12.trans (hb18.mono hB12.size)
  have hS20 := hS13.below hb18
  refine wl_pick_t rfl rfl h15 rfl (wl_move rfl rfl ?_)
  rcases bE u16 with h22 | h22
  ·replace hF := ifP h22 hF
   refine wl_on rfl rfl h22 (wl_move rfl rfl (wl_on rfl rfl h22 (wl_move rfl rfl (wl_on rfl rfl h22 (wl_move rfl rfl (wl_on rfl rfl h22 (wl_lenr (e := ty_63) (l := x0) Tryd.underlying28 rfl rfl h0_0 (wl_on rfl rfl h22 (wl_sub rfl rfl rfl (wl_on rfl rfl h22 ?_))))))))))
   obtain ⟨u23, hu23, hF⟩ := bindE hF
   refine wl_call rfl Tryd.call68 (C_spec_l1In w17 x2 x1 (w64 ((List.length x0 : Int) - 1)) _ hu23) rfl ?_
   rintro _ w24 ⟨rfl, hb25⟩
   refine ⟨_, rfl, ?_⟩
   have hB26 := hB19.trans (hb25.mono hB19.size)
   have hS27 := hS20.below hb25
   refine wl_pick_t rfl rfl h22 rfl (wl_assign rfl rfl (WL.nil ?_))
   exact fun a ha => hJ8 (u23) _ hF hB26 (hS27.sel [] rfl) a (ha.sub ⟨rfl, trivial⟩)
  ·replace hF := ifN h22 hF
   refine wl_off rfl rfl rfl h22 (wl_off rfl rfl rfl h22 (wl_off rfl rfl rfl h22 (wl_off rfl rfl rfl h22 (wl_off rfl rfl rfl h22 (wl_off rfl rfl rfl h22 (wl_pick_f rfl rfl h22 rfl (wl_assign rfl rfl (WL.nil ?_))))))))
   exact fun a ha => hJ8 (false) _ hF hB19 (hS20.sel [] rfl) a (ha.sub ⟨rfl, trivial⟩)
 ·replace hF := ifN h15 hF
  refine wl_off rfl rfl rfl h15 (wl_off rfl rfl rfl h15 (wl_off rfl rfl rfl h15 (wl_pick_f rfl rfl h15 rfl (wl_move rfl rfl (wl_off rfl rfl rfl rfl (wl_off rfl rfl rfl rfl (wl_off rfl rfl rfl rfl (wl_off rfl rfl rfl rfl (wl_off rfl rfl rfl rfl (wl_off rfl rfl rfl rfl (wl_pick_f rfl rfl rfl rfl (wl_assign rfl rfl (WL.nil ?_)))))))))))))
  exact fun a ha => hJ8 (false) _ hF hB12 (hS13.sel [] rfl) a (ha.sub ⟨rfl, trivial⟩)
theorem C_spec_RepeatMeasures (w0 : World) (x0 : (List (Int × Int))) (v0_0 : Value) (h0_0 : rdS ty_63 (· < w0.heap.size) w0 v0_0 x0) (x1 : Int) (x2 : Int) (x3 : Int) (r : ((List (Int × Int)) × Bool)) (hF : F_spec_RepeatMeasures x0 x1 x2 x3 = some r) :
  Calls Tryd.prog 30 [v0_0, (.int .i64 x1), (.int .i64 x2), (.int .i64 x3)].toArray w0 fun e w' => ∃ (q0 : Value) (G0 : List Nat), e = .returned (.tuple #[q0, (.bool r.2)]) ∧ Below w0.heap.size w0 w' ∧ Sep w0.heap.size w' [R.own ty_63 G0 q0 r.1] := by
 refine calls_mk' Tryd.func30 rfl Tryd.ntmps30 rfl rfl fun Q hQ hP => ?_
 have hB : Below w0.heap.size w0 w0 := Below.refl _ _
 have hS : Sep w0.heap.size w0 [] := Sep.nil _ _
 unfold F_spec_RepeatMeasures at hF
 refine W.seq fun K1 hK1 => W.region (wl_assign rfl rfl (wl_assign rfl rfl (WL.nil (fun a ha => hK1 _ _ (W.seq fun K2 hK2 => (W.seq fun K3 hK3 => ?_)) a ha))))
 obtain ⟨k8, hk8, hF⟩ := jE1 hF
 have hJ9 : ∀ (y7 : Bool) (w4 : World) (_ : k8 y7 = some r) (_ : Below w0.heap.size w0 w4) (_ : Sep w0.heap.size w4 []), ∀ a, St 47 [(0, v0_0), (1, (.int .i64 x1)), (2, (.int .i64 x2)), (3, (.int .i64 x3)), (20, (.bool y7))] a → K3 a w4 := by
  intro y7 w4 hF hB5 hS6
  subst hk8
  refine fun a ha => hK3 _ _ (W.cond rfl (fun h10 => ?_) (fun h10 => ?_)) a ha
  ·replace hF := ifP h10 hF
   refine W.seq fun K11 hK11 => W.region (wl_assign rfl rfl (wl_assign rfl rfl (WL.nil (fun a ha => hK11 _ _ (W.ret ?_) a ha))))
   have hS12 := hS6.push0 (r := R.own ty_63 [] (.slice none 0 0) []) rfl fun _ => .inl ⟨rfl, rfl, rfl⟩
   have hr := Option.some.inj hF
   subst hr
   exact rets (vs := [(.slice none 0 0), (.bool false)]) hQ rfl ⟨rv_tmp rfl, rv_tmp rfl, trivial⟩ ⟨(.slice none 0 0), [], rfl, hB5, hS12.sel [0] rfl⟩
  ·replace hF := ifN h10 hF
   refine W.skip fun a ha => hK2 _ _ (W.seq fun K13 hK13 => (W.region (wl_lit (vs := []) (l := []) fl_63 Tryd.underlying28 rfl rfl rfl rfl rfl rfl hB5 hS6 ?_))) a ha
   intro v14 F15 w16 hb17 hB18 hS19
   refine wl_move rfl rfl (wl_move rfl rfl ?_)
   obtain ⟨u20, hu20, hF⟩ := bindE hF
   refine wl_slice (e := ty_63) Tryd.underlying28 rfl rfl h0_0 hu20 (.inl ⟨rfl, rfl⟩) (.inr ⟨_, _, rfl, rfl⟩) ?_
   intro v21 hv22
   obtain ⟨u23, hu23, hF⟩ := bindE hF
   refine wl_append (i := 0) (S := (· < w16.heap.size)) fl_63 Tryd.underlying28 rfl rfl rfl hB18 hS19 rfl (hv22.ro hB18) hu23 ?_
   intro v24 F25 w26 hk27 hB28 hS29
   refine wl_assign rfl rfl (WL.nil (fun a ha => hK13 _ _ (W.seq fun K30 hK30 => (W.block (W.loopk (fun m a w31 => ∃ (y34 : Int) (l35 : (List (Int × Int))) (v36 : Value) (F37 : List Nat), St 47 [(0, v0_0), (1, (.int .i64 x1)), (2, (.int .i64 x2)), (3, (.int .i64 y34)), (10, v36)] a ∧ Below w0.heap.size w0 w31 ∧ Sep w0.heap.size w31 [R.own ty_63 F37 v36 l35] ∧ F_spec_RepeatMeasures_L1 x0 x1 x2 m y34 l35 = some r) FU ?_ ?_))) a ha))
   ·
    exact fun a ha => ⟨x3, u23, v24, F25, ha.sub ⟨rfl, rfl, rfl, rfl, rfl, trivial⟩, hB28, (hS29.sel [0] rfl), hF⟩
   ·
    rintro m40 a w31 ⟨y34, l35, v36, F37, ha, hB32, hS33, hF⟩ KL39 hKL39
    refine W.at ?_ ha
    cases m40 with
    | zero => exact noneE hF
    | succ m40 =>
     obtain ⟨nx38, hnx38⟩ : ∃ k, k = F_spec_RepeatMeasures_L1 x0 x1 x2 m40 := ⟨_, rfl⟩
     rw [F_spec_RepeatMeasures_L1, ← hnx38] at hF
     refine W.seq fun K41 hK41 => W.seq fun K42 hK42 => W.region (wl_move rfl rfl (wl_gtr rfl rfl rfl (WL.nil (fun a ha => hK42 _ _ (W.cond rfl (fun h43 => ?_) (fun h43 => ?_)) a ha))))
     ·replace hF := ifP h43 hF
      refine W.skip fun a ha => hK41 _ _ (W.seq fun K44 hK44 => (W.block (W.region (wl_move rfl rfl (wl_move rfl rfl (wl_move rfl rfl (wl_move rfl rfl (wl_add rfl rfl rfl ?_)))))))) a ha
      obtain ⟨u45, hu45, hF⟩ := bindE hF
      refine wl_slice (e := ty_63) Tryd.underlying28 rfl rfl h0_0 hu45 (.inr ⟨_, _, rfl, rfl⟩) (.inr ⟨_, _, rfl, rfl⟩) ?_
      intro v46 hv47
      obtain ⟨u48, hu48, hF⟩ := bindE hF
      refine wl_append (i := 0) (S := (· < w31.heap.size)) fl_63 Tryd.underlying28 rfl rfl rfl hB32 hS33 rfl (hv47.ro hB32) hu48 ?_
      intro v49 F50 w51 hk52 hB53 hS54
      refine wl_assign rfl rfl (WL.nil (fun a ha => hK44 _ _ (W.region (wl_move rfl rfl (wl_sub rfl rfl rfl (wl_assign rfl rfl (WL.nil ?_))))) a ha))
      rw [hnx38] at hF
      exact fun a ha => hKL39 a _ m40 (Nat.lt_succ_self m40) ⟨(w64 (y34 - 1)), u48, v49, F50, ha.sub ⟨rfl, rfl, rfl, rfl, rfl, trivial⟩, hB53, (hS54.sel [0] rfl), hF⟩
     ·replace hF := ifN h43 hF
      refine W.exit fun a ha => hK30 _ _ (W.seq fun K55 hK55 => (W.region (wl_move rfl rfl (wl_move rfl rfl (wl_move rfl rfl (wl_add rfl rfl rfl ?_)))))) a ha
      obtain ⟨u56, hu56, hF⟩ := bindE hF
      refine wl_slice (e := ty_63) Tryd.underlying28 rfl rfl h0_0 hu56 (.inr ⟨_, _, rfl, rfl⟩) (.inl ⟨rfl, rfl⟩) ?_
      intro v57 hv58
      obtain ⟨u59, hu59, hF⟩ := bindE hF
      refine wl_append (i := 0) (S := (· < w31.heap.size)) fl_63 Tryd.underlying28 rfl rfl rfl hB32 hS33 rfl (hv58.ro hB32) hu59 ?_
      intro v60 F61 w62 hk63 hB64 hS65
      refine wl_assign rfl rfl (WL.nil (fun a ha => hK55 _ _ (W.seq fun K66 hK66 => (W.seq fun K67 hK67 => (W.region (wl_move rfl rfl ?_)))) a ha))
      obtain ⟨u68, hu68, hF⟩ := bindE hF
      refine wl_call rfl Tryd.call63 (C_spec_muGood w62 u59 v60 (hS65.own_ro (i := 0) rfl) _ hu68) rfl ?_
      rintro _ w69 ⟨rfl, hb70⟩
      refine ⟨_, rfl, ?_⟩
      have hB71 := hB64.trans (hb70.mono hB64.size)
      have hS72 := hS65.below hb70
      refine wl_not rfl rfl (WL.nil (fun a ha => hK67 _ _ (W.cond rfl (fun h74 => ?_) (fun h74 => ?_)) a ha))
      ·replace hF := ifP h74 hF
       refine W.seq fun K75 hK75 => W.region (wl_assign rfl rfl (wl_assign rfl rfl (WL.nil (fun a ha => hK75 _ _ (W.ret ?_) a ha))))
       have hS76 := hS72.push0 (r := R.own ty_63 [] (.slice none 0 0) []) rfl fun _ => .inl ⟨rfl, rfl, rfl⟩
       have hr := Option.some.inj hF
       subst hr
       exact rets (vs := [(.slice none 0 0), (.bool false)]) hQ rfl ⟨rv_tmp rfl, rv_tmp rfl, trivial⟩ ⟨(.slice none 0 0), [], rfl, hB71, hS76.sel [0] rfl⟩
      ·replace hF := ifN h74 hF
       refine W.skip fun a ha => hK66 _ _ (W.seq fun K77 hK77 => (W.region (wl_move rfl rfl (wl_assign rfl rfl (wl_assign rfl rfl (WL.nil (fun a ha => hK77 _ _ (W.ret ?_) a ha))))))) a ha
       have hr := Option.some.inj hF
       subst hr
       exact rets (vs := [v60, (.bool true)]) hQ rfl ⟨rv_tmp rfl, rv_tmp rfl, trivial⟩ ⟨v60, F61, rfl, hB71, hS72.sel [0] rfl⟩
 refine W.region (wl_move rfl rfl (wl_move rfl rfl (wl_move rfl rfl ?_)))
 obtain ⟨u78, hu78, hF⟩ := bindE hF
 refine wl_call rfl Tryd.call67 (C_spec_muRange w0 x0 v0_0 (h0_0.ro hB) x1 x2 _ hu78) rfl ?_
 rintro _ w79 ⟨rfl, hb80⟩
 refine ⟨_, rfl, ?_⟩
 have hB81 := hB.trans (hb80.mono hB.size)
 have hS82 := hS.below hb80
 refine wl_not rfl rfl (wl_move rfl rfl ?_)
 rcases bE (!u78) with h84 | h84
 ·replace hF := ifP h84 hF
  refine wl_off rfl rfl rfl h84 (wl_off rfl rfl rfl h84 (wl_off rfl rfl rfl h84 (wl_pick_t rfl rfl h84 rfl (WL.nil ?_))))
  exact fun a ha => hJ9 (true) _ hF hB81 (hS82.sel [] rfl) a (ha.sub ⟨rfl, rfl, rfl, rfl, rfl, trivial⟩)
 ·replace hF := ifN h84 hF
  refine wl_on rfl rfl h84 (wl_move rfl rfl (wl_on rfl rfl h84 ?_))
  obtain ⟨u85, hu85, hF⟩ := bindE hF
  refine wl_call rfl Tryd.call68 (C_spec_l1In w79 x3 1 10 _ hu85) rfl ?_
  rintro _ w86 ⟨rfl, hb87⟩
  refine ⟨_, rfl, ?_⟩
  have hB88 := hB81.trans (hb87.mono hB81.size)
  have hS89 := hS82.below hb87
  refine wl_on rfl rfl h84 (wl_not rfl rfl (wl_pick_f rfl rfl h84 rfl (WL.nil ?_)))
  exact fun a ha => hJ9 ((!u85)) _ hF hB88 (hS89.sel [] rfl) a (ha.sub ⟨rfl, rfl, rfl, rfl, rfl, trivial⟩)
theorem C_spec_CuesAfterRepeat (w0 : World) (x0 : (List (Int × Int))) (v0_0 : Value) (h0_0 : rdS ty_63 (· < w0.heap.size) w0 v0_0 x0) (x1 : (List (Int × (List UInt8)))) (v1_0 : Value) (h1_0 : rdS ty_39 (· < w0.heap.size) w0 v1_0 x1) (x2 : Int) (x3 : Int) (x4 : Int) (r : ((List (Int × (List UInt8))) × Bool)) (hF : F_spec_CuesAfterRepeat x0 x1 x2 x3 x4 = some r) :
  Calls Tryd.prog 19 [v0_0, v1_0, (.int .i64 x2), (.int .i64 x3), (.int .i64 x4)].toArray w0 fun e w' => ∃ (q0 : Value) (G0 : List Nat), e = .returned (.tuple #[q0, (.bool r.2)]) ∧ Below w0.heap.size w0 w' ∧ Sep w0.heap.size w' [R.own ty_39 G0 q0 r.1] := by
 refine calls_mk' Tryd.func19 rfl Tryd.ntmps19 rfl rfl fun Q hQ hP => ?_
 have hB : Below w0.heap.size w0 w0 := Below.refl _ _
 have hS : Sep w0.heap.size w0 [] := Sep.nil _ _
 unfold F_spec_CuesAfterRepeat at hF
 refine W.seq fun K1 hK1 => W.region (wl_assign rfl rfl (wl_assign rfl rfl (WL.nil (fun a ha => hK1 _ _ (W.seq fun K2 hK2 => (W.seq fun K3 hK3 => (W.region (wl_move rfl rfl (wl_move rfl rfl ?_))))) a ha))))
 obtain ⟨u4, hu4, hF⟩ := bindE hF
 refine wl_call rfl Tryd.call33 (C_spec_tiGood w0 x0 v0_0 (h0_0.ro hB) x1 v1_0 (h1_0.ro hB) _ hu4) rfl ?_
 rintro _ w5 ⟨rfl, hb6⟩
 refine ⟨_, rfl, ?_⟩
 have hB7 := hB.trans (hb6.mono hB.size)
 have hS8 := hS.below hb6
 refine wl_not rfl rfl (WL.nil (fun a ha => hK3 _ _ (W.cond rfl (fun h10 => ?_) (fun h10 => ?_)) a ha))
 ·replace hF := ifP h10 hF
  refine W.seq fun K11 hK11 => W.region (wl_assign rfl rfl (wl_assign rfl rfl (WL.nil (fun a ha => hK11 _ _ (W.ret ?_) a ha))))
  have hS12 := hS8.push0 (r := R.own ty_39 [] (.slice none 0 0) []) rfl fun _ => .inl ⟨rfl, rfl, rfl⟩
  have hr := Option.some.inj hF
  subst hr
  exact rets (vs := [(.slice none 0 0), (.bool false)]) hQ rfl ⟨rv_tmp rfl, rv_tmp rfl, trivial⟩ ⟨(.slice none 0 0), [], rfl, hB7, hS12.sel [0] rfl⟩
 ·replace hF := ifN h10 hF
  refine W.skip fun a ha => hK2 _ _ (W.seq fun K13 hK13 => (W.region (wl_move rfl rfl (wl_move rfl rfl (wl_move rfl rfl (wl_move rfl rfl ?_)))))) a ha
  obtain ⟨u14, hu14, hF⟩ := bindE hF
  refine wl_call rfl Tryd.call30 (C_spec_RepeatMeasures w5 x0 v0_0 (h0_0.ro hB7) x2 x3 x4 _ hu14) rfl ?_
  rintro _ w17 ⟨v15, F16, rfl, hb18, hM21⟩
  refine ⟨_, rfl, ?_⟩
  have hB19 := hB7.trans (hb18.mono hB7.size)
  have hS20 := hS8.join hb18 hM21 hB7.size
  refine wl_move rfl rfl (wl_extract rfl rfl rfl (wl_extract rfl rfl rfl (wl_assign rfl rfl (wl_assign rfl rfl (WL.nil (fun a ha => hK13 _ _ (W.seq fun K22 hK22 => (W.seq fun K23 hK23 => (W.region (wl_move rfl rfl (wl_not rfl rfl (WL.nil (fun a ha => hK23 _ _ ?_ a ha))))))) a ha))))))
  refine W.cond rfl (fun h24 => ?_) (fun h24 => ?_)
  ·replace hF := ifP h24 hF
   refine W.seq fun K25 hK25 => W.region (wl_assign rfl rfl (wl_assign rfl rfl (WL.nil (fun a ha => hK25 _ _ (W.ret ?_) a ha))))
   have hS26 := hS20.push0 (r := R.own ty_39 [] (.slice none 0 0) []) rfl fun _ => .inl ⟨rfl, rfl, rfl⟩
   have hr := Option.some.inj hF
   subst hr
   exact rets (vs := [(.slice none 0 0), (.bool false)]) hQ rfl ⟨rv_tmp rfl, rv_tmp rfl, trivial⟩ ⟨(.slice none 0 0), [], rfl, hB19, hS26.sel [0] rfl⟩
  ·replace hF := ifN h24 hF
   refine W.skip fun a ha => hK22 _ _ (W.seq fun K27 hK27 => (W.region (wl_move rfl rfl ?_))) a ha
   obtain ⟨u28, hu28, hF⟩ := bindE hF
   refine wl_call rfl Tryd.call58 (C_spec_muCounts w17 u14.1 v15 (hS20.own_ro (i := 0) rfl) _ hu28) rfl ?_
   rintro _ w29 ⟨rfl, hb30⟩
   refine ⟨_, rfl, ?_⟩
   have hB31 := hB19.trans (hb30.mono hB19.size)
   have hS32 := hS20.below hb30
   refine wl_move rfl rfl ?_
   obtain ⟨u34, hu34, hF⟩ := bindE hF
   refine wl_call rfl Tryd.call58 (C_spec_muCounts w29 x0 v0_0 (h0_0.ro hB31) _ hu34) rfl ?_
   rintro _ w35 ⟨rfl, hb36⟩
   refine ⟨_, rfl, ?_⟩
   have hB37 := hB31.trans (hb36.mono hB31.size)
   have hS38 := hS32.below hb36
   refine wl_sub rfl rfl rfl (wl_assign rfl rfl (WL.nil (fun a ha => hK27 _ _ (W.seq fun K40 hK40 => (W.region (wl_move rfl rfl (wl_move rfl rfl (wl_add rfl rfl rfl ?_))))) a ha)))
   obtain ⟨u41, hu41, hF⟩ := bindE hF
   refine wl_slice (e := ty_63) Tryd.underlying28 rfl rfl h0_0 hu41 (.inl ⟨rfl, rfl⟩) (.inr ⟨_, _, rfl, rfl⟩) ?_
   intro v42 hv43
   obtain ⟨u44, hu44, hF⟩ := bindE hF
   refine wl_call rfl Tryd.call58 (C_spec_muCounts w35 u41 v42 (hv43.ro hB37) _ hu44) rfl ?_
   rintro _ w45 ⟨rfl, hb46⟩
   refine ⟨_, rfl, ?_⟩
   have hB47 := hB37.trans (hb46.mono hB37.size)
   have hS48 := hS38.below hb46
   refine wl_assign rfl rfl (WL.nil (fun a ha => hK40 _ _ (W.seq fun K50 hK50 => (W.region (wl_lit (vs := []) (l := []) fl_39 Tryd.underlying30 rfl rfl rfl rfl rfl rfl hB47 hS48 ?_))) a ha))
   intro v51 F52 w53 hb54 hB55 hS56
   refine wl_move rfl rfl ?_
   obtain ⟨u57, hu57, hF⟩ := bindE hF
   refine wl_append (i := 0) (S := (· < w53.heap.size)) fl_39 Tryd.underlying30 rfl rfl rfl hB55 hS56 rfl (h1_0.ro hB55) hu57 ?_
   intro v58 F59 w60 hk61 hB62 hS63
   refine wl_assign rfl rfl (WL.nil (fun a ha => hK50 _ _ (W.seq fun K64 hK64 => (W.seq fun K65 hK65 => (W.region (wl_move rfl rfl (wl_lenr (e := ty_39) (l := u57) Tryd.underlying30 rfl rfl (hS63.own_ro (i := 0) rfl) (wl_move rfl rfl (WL.nil (fun a ha => hK65 _ _ (W.block (W.loopk (fun m a w66 => ∃ (l69 : (List (Int × (List UInt8)))) (y72 : Int) (v70 : Value) (F71 : List Nat), St 68 [(14, (.int .i64 (w64 (u28 - u34)))), (15, (.int .i64 u44)), (16, v70), (46, (.int .i64 (List.length u57 : Int))), (47, (.int .i64 y72))] a ∧ Below w0.heap.size w0 w66 ∧ Sep w0.heap.size w66 [R.own ty_39 F71 v70 l69] ∧ F_spec_CuesAfterRepeat_L1 u57 u44 u28 u34 m l69 y72 = some r) FU ?_ ?_)) a ha)))))))) a ha))
   ·
    exact fun a ha => ⟨u57, 0, v58, F59, ha.sub ⟨rfl, rfl, rfl, rfl, rfl, trivial⟩, hB62, (hS63.sel [0] rfl), hF⟩
   ·
    rintro m75 a w66 ⟨l69, y72, v70, F71, ha, hB67, hS68, hF⟩ KL74 hKL74
    refine W.at ?_ ha
    cases m75 with
    | zero => exact noneE hF
    | succ m75 =>
     obtain ⟨nx73, hnx73⟩ : ∃ k, k = F_spec_CuesAfterRepeat_L1 u57 u44 u28 u34 m75 := ⟨_, rfl⟩
     rw [F_spec_CuesAfterRepeat_L1, ← hnx73] at hF
     refine W.seq fun K76 hK76 => W.region (wl_lss rfl rfl rfl (WL.nil (fun a ha => hK76 _ _ (W.seq fun K77 hK77 => (W.cond rfl (fun h78 => ?_) (fun h78 => ?_))) a ha)))
     ·replace hF := ifP h78 hF
      refine W.skip fun a ha => hK77 _ _ (W.seq fun K79 hK79 => ?_) a ha
      obtain ⟨k86, hk86, hF⟩ := jE1 hF
      have hJ87 : ∀ (l83 : (List (Int × (List UInt8)))) (v84 : Value) (F85 : List Nat) (w80 : World) (_ : k86 l83 = some r) (_ : Below w0.heap.size w0 w80) (_ : Sep w0.heap.size w80 [R.own ty_39 F85 v84 l83]), ∀ a, St 68 [(14, (.int .i64 (w64 (u28 - u34)))), (15, (.int .i64 u44)), (16, v84), (46, (.int .i64 (List.length u57 : Int))), (47, (.int .i64 y72))] a → K79 a w80 := by
       intro l83 v84 F85 w80 hF hB81 hS82
       subst hk86
       refine fun a ha => hK79 _ _ (W.region (wl_add rfl rfl rfl (wl_move rfl rfl (WL.nil ?_)))) a ha
       rw [hnx73] at hF
       exact fun a ha => hKL74 a _ m75 (Nat.lt_succ_self m75) ⟨l83, (w64 (y72 + 1)), v84, F85, ha.sub ⟨rfl, rfl, rfl, rfl, rfl, trivial⟩, hB81, (hS82.sel [0] rfl), hF⟩
      refine W.block (W.seq fun K88 hK88 => (W.region (wl_move rfl rfl (wl_assign rfl rfl (WL.nil (fun a ha => hK88 _ _ (W.seq fun K89 hK89 => (W.region (wl_move rfl rfl (wl_move rfl rfl ?_)))) a ha))))))
      obtain ⟨u90, hu90, hF⟩ := bindE hF
      refine wl_indexo (e := ty_39) (i := 0) Tryd.underlying30 rfl rfl rfl hS68 rfl hu90 ?_
      rintro p91 _ rfl hp92 ho93
      refine wl_fieldp (o := 0) ff_39_0 rfl rfl (wl_load_p (vs := [(.int .i64 u90.1)]) (v := (.int .i64 u90.1)) tf_3 rfl rfl (hp92.add 0) rfl rfl (wl_move rfl rfl (wl_geq rfl rfl rfl (WL.nil (fun a ha => hK89 _ _ (W.cond rfl (fun h94 => ?_) (fun h94 => ?_)) a ha)))))
      ·replace hF := ifP h94 hF
       refine W.region (wl_move rfl rfl (wl_move rfl rfl ?_))
       obtain ⟨u95, hu95, hF⟩ := bindE hF
       refine wl_indexo (e := ty_39) (i := 0) Tryd.underlying30 rfl rfl rfl hS68 rfl hu95 ?_
       rintro p96 _ rfl hp97 ho98
       refine wl_fieldp (o := 0) ff_39_0 rfl rfl (wl_load_p (vs := [(.int .i64 u95.1)]) (v := (.int .i64 u95.1)) tf_3 rfl rfl (hp97.add 0) rfl rfl (wl_move rfl rfl (wl_add rfl rfl rfl ?_)))
       obtain ⟨u99, hu99, hF⟩ := bindE hF
       refine wl_indexo (e := ty_39) (i := 0) Tryd.underlying30 rfl rfl rfl hS68 rfl hu99 ?_
       rintro p100 _ rfl hp101 ho102
       refine wl_fieldp (o := 0) ff_39_0 rfl rfl (wl_storeo (i := 0) (o := 0) (vs := [(.int .i64 (w64 (u95.1 + (w64 (u28 - u34)))))]) (u' := ((w64 (u95.1 + (w64 (u28 - u34)))), u99.2)) fl_39 tf_3 rfl rfl rfl rfl ho102 hu99 hB67 hS68 rfl rfl ⟨rfl, trivial⟩ rfl ?_)
       intro w103 hk106 hB104 hS105
       refine WL.nil ?_
       exact fun a ha => hJ87 ((seti l69 y72 ((w64 (u95.1 + (w64 (u28 - u34)))), u99.2))) (v70) (F71) _ hF hB104 (hS105.sel [0] rfl) a (ha.sub ⟨rfl, rfl, rfl, rfl, rfl, trivial⟩)
      ·replace hF := ifN h94 hF
       refine W.skip ?_
       exact fun a ha => hJ87 (l69) (v70) (F71) _ hF hB67 (hS68.sel [0] rfl) a (ha.sub ⟨rfl, rfl, rfl, rfl, rfl, trivial⟩)
     ·replace hF := ifN h78 hF
      refine W.exit fun a ha => hK64 _ _ (W.seq fun K107 hK107 => (W.region (wl_move rfl rfl (wl_assign rfl rfl (wl_assign rfl rfl (WL.nil (fun a ha => hK107 _ _ (W.ret ?_) a ha))))))) a ha
      have hr := Option.some.inj hF
      subst hr
      exact rets (vs := [v70, (.bool true)]) hQ rfl ⟨rv_tmp rfl, rv_tmp rfl, trivial⟩ ⟨v70, F71, rfl, hB67, hS68.sel [0] rfl⟩
theorem C_spec_l1Cur__showTime__mut__box (w0 : World) (x0 : ((List Int) × Int × Int)) (b0 : Nat) (v0_0 : Value) (h0_0 : rdS ty_5 (Out (fps [R.blk b0 81 [v0_0, (.int .i64 x0.2.1), (.int .u64 x0.2.2)]]) w0) w0 v0_0 x0.1) (hS0 : Sep 0 w0 [R.blk b0 81 [v0_0, (.int .i64 x0.2.1), (.int .u64 x0.2.2)]]) (r : (Int × ((List Int) × Int × Int))) (hF : F_spec_l1Cur__showTime__mut__box x0 = some r) :
  Calls Tryd.prog 59 [(.pointer (some ⟨b0, 0, none⟩))].toArray w0 fun e w' => e = .returned (.int .i64 r.1) ∧ Below 0 (wE w0) w' ∧ Sep 0 w' [R.rest w0 (fps [R.blk b0 81 [v0_0, (.int .i64 x0.2.1), (.int .u64 x0.2.2)]]), R.blk b0 81 [v0_0, (.int .i64 r.2.2.1), (.int .u64 r.2.2.2)]] := by
 refine calls_mk' Tryd.func59 rfl Tryd.ntmps59 rfl rfl fun Q hQ hP => ?_
 have hB : Below (wE w0).heap.size (wE w0) w0 := wE_below w0
 have hS : Sep (wE w0).heap.size w0 [R.rest w0 (fps [R.blk b0 81 [v0_0, (.int .i64 x0.2.1), (.int .u64 x0.2.2)]]), R.blk b0 81 [v0_0, (.int .i64 x0.2.1), (.int .u64 x0.2.2)]] := hS0.rest
 unfold F_spec_l1Cur__showTime__mut__box at hF
 refine W.seq fun K1 hK1 => W.region (wl_assign rfl rfl (WL.nil (fun a ha => hK1 _ _ (W.seq fun K2 hK2 => (W.region (wl_move rfl rfl (wl_move rfl rfl ?_)))) a ha)))
 obtain ⟨u3, hu3, hF⟩ := bindE hF
 refine wl_call rfl Tryd.call75 (C_spec_l1Cur__pick__mut__box w0 x0 b0 v0_0 (h0_0.rsto (hS.sel [0, 1] rfl)) 30000 (hS.sel [1] rfl).base0 _ hu3) rfl ?_
 rintro _ w4 ⟨rfl, hE5, hM6⟩
 refine ⟨_, rfl, ?_⟩
 have hB7 := hS.takeB [1] rfl (M := [R.blk b0 81 [v0_0, (.int .i64 x0.2.1), (.int .u64 x0.2.2)]]) rfl hB hE5 hM6
 have hS8 : Sep (wE w0).heap.size w4 [R.blk b0 81 [v0_0, (.int .i64 u3.2.2.1), (.int .u64 u3.2.2.2)], R.rest w0 (fps [R.blk b0 81 [v0_0, (.int .i64 x0.2.1), (.int .u64 x0.2.2)]])] := hS.take [1] [0] rfl (M := [R.blk b0 81 [v0_0, (.int .i64 x0.2.1), (.int .u64 x0.2.2)]]) rfl hM6 hB.size
 refine wl_move rfl rfl ?_
 obtain ⟨u9, hu9, hF⟩ := bindE hF
 refine wl_call rfl Tryd.call75 (C_spec_l1Cur__pick__mut__box w4 (x0.1, u3.2.2.1, u3.2.2.2) b0 v0_0 (h0_0.rsto (hS8.sel [1, 0] rfl)) 30000 (hS8.sel [0] rfl).base0 _ hu9) rfl ?_
 rintro _ w10 ⟨rfl, hE11, hM12⟩
 refine ⟨_, rfl, ?_⟩
 have hB13 := hS8.takeB [0] rfl (M := [R.blk b0 81 [v0_0, (.int .i64 u3.2.2.1), (.int .u64 u3.2.2.2)]]) rfl hB7 hE11 hM12
 have hS14 : Sep (wE w0).heap.size w10 [R.blk b0 81 [v0_0, (.int .i64 u9.2.2.1), (.int .u64 u9.2.2.2)], R.rest w0 (fps [R.blk b0 81 [v0_0, (.int .i64 x0.2.1), (.int .u64 x0.2.2)]])] := hS8.take [0] [1] rfl (M := [R.blk b0 81 [v0_0, (.int .i64 u3.2.2.1), (.int .u64 u3.2.2.2)]]) rfl hM12 hB7.size
 refine wl_move rfl rfl (wl_lit (vs := [(.int .i64 1000001), (.int .i64 (-1))]) (l := [1000001, (-1)]) fl_3 Tryd.underlying59 rfl rfl rfl rfl rfl rfl hB13 hS14 ?_)
 intro v15 F16 w17 hb18 hB19 hS20
 obtain ⟨u21, hu21, hF⟩ := bindE hF
 refine wl_call rfl Tryd.call53 (C_spec_l1Cur__among__mut__box w17 (x0.1, u9.2.2.1, u9.2.2.2) b0 v0_0 (h0_0.rsto (hS20.sel [2, 1] rfl)) [1000001, (-1)] v15 (own_out (hS20.sel [0, 1] rfl)) (hS20.sel [1] rfl).base0 _ hu21) rfl ?_
 rintro _ w22 ⟨rfl, hE23, hM24⟩
 refine ⟨_, rfl, ?_⟩
 have hB25 := hS20.takeB [1] rfl (M := [R.blk b0 81 [v0_0, (.int .i64 u9.2.2.1), (.int .u64 u9.2.2.2)]]) rfl hB19 hE23 hM24
 have hS26 : Sep (wE w0).heap.size w22 [R.blk b0 81 [v0_0, (.int .i64 u21.2.2.1), (.int .u64 u21.2.2.2)], R.own ty_3 F16 v15 [1000001, (-1)], R.rest w0 (fps [R.blk b0 81 [v0_0, (.int .i64 x0.2.1), (.int .u64 x0.2.2)]])] := hS20.take [1] [0, 2] rfl (M := [R.blk b0 81 [v0_0, (.int .i64 u9.2.2.1), (.int .u64 u9.2.2.2)]]) rfl hM24 hB19.size
 refine wl_lit (vs := [(.int .i64 0), (.int .i64 500), (.int .i64 2000), (.int .i64 u3.1), (.int .i64 u9.1), (.int .i64 59999), (.int .i64 60000), (.int .i64 1000000), (.int .i64 u21.1)]) (l := [0, 500, 2000, u3.1, u9.1, 59999, 60000, 1000000, u21.1]) fl_3 Tryd.underlying59 rfl rfl rfl rfl rfl rfl hB25 hS26 ?_
 intro v27 F28 w29 hb30 hB31 hS32
 obtain ⟨u33, hu33, hF⟩ := bindE hF
 refine wl_call rfl Tryd.call53 (C_spec_l1Cur__among__mut__box w29 (x0.1, u21.2.2.1, u21.2.2.2) b0 v0_0 (h0_0.rsto (hS32.sel [3, 1] rfl)) [0, 500, 2000, u3.1, u9.1, 59999, 60000, 1000000, u21.1] v27 (own_out (hS32.sel [0, 1] rfl)) (hS32.sel [1] rfl).base0 _ hu33) rfl ?_
 rintro _ w34 ⟨rfl, hE35, hM36⟩
 refine ⟨_, rfl, ?_⟩
 have hB37 := hS32.takeB [1] rfl (M := [R.blk b0 81 [v0_0, (.int .i64 u21.2.2.1), (.int .u64 u21.2.2.2)]]) rfl hB31 hE35 hM36
 have hS38 : Sep (wE w0).heap.size w34 [R.blk b0 81 [v0_0, (.int .i64 u33.2.2.1), (.int .u64 u33.2.2.2)], R.own ty_3 F28 v27 [0, 500, 2000, u3.1, u9.1, 59999, 60000, 1000000, u21.1], R.own ty_3 F16 v15 [1000001, (-1)], R.rest w0 (fps [R.blk b0 81 [v0_0, (.int .i64 x0.2.1), (.int .u64 x0.2.2)]])] := hS32.take [1] [0, 2, 3] rfl (M := [R.blk b0 81 [v0_0, (.int .i64 u21.2.2.1), (.int .u64 u21.2.2.2)]]) rfl hM36 hB31.size
 refine wl_assign rfl rfl (WL.nil (fun a ha => hK2 _ _ (W.ret ?_) a ha))
 have hr := Option.some.inj hF
 subst hr
 exact rets (vs := [(.int .i64 u33.1)]) hQ rfl ⟨rv_tmp rfl, trivial⟩ ⟨rfl, hB37, hS38.sel [3, 0] rfl⟩
theorem C_spec_DrawTimeText (w0 : World) (x0 : (List Int)) (v0_0 : Value) (h0_0 : rdS ty_5 (· < w0.heap.size) w0 v0_0 x0) (r : Int) (hF : F_spec_DrawTimeText x0 = some r) :
  Calls Tryd.prog 20 [v0_0].toArray w0 fun e w' => e = .returned (.int .i64 r) ∧ Below w0.heap.size w0 w' := by
 refine calls_mk' Tryd.func20 rfl Tryd.ntmps20 rfl rfl fun Q hQ hP => ?_
 have hB : Below w0.heap.size w0 w0 := Below.refl _ _
 have hS : Sep w0.heap.size w0 [] := Sep.nil _ _
 unfold F_spec_DrawTimeText at hF
 refine W.seq fun K1 hK1 => W.region (wl_assign rfl rfl (WL.nil (fun a ha => hK1 _ _ (W.seq fun K2 hK2 => (W.region (wl_move rfl rfl (wl_build (zs := [(.slice none 0 0), (.int .i64 0), (.int .u64 0)]) (out := [v0_0, (.int .i64 0), (.int .u64 0)]) (vs := [v0_0]) (css := [[v0_0]]) tf_81 pl_81 rfl rfl (by simp only [List.map_cons, List.map_nil, cells_one ((h0_0.ro hB).one)] <;> rfl) rfl rfl (wl_box (cs := [v0_0, (.int .i64 0), (.int .u64 0)]) rfl rfl rfl hB hS ?_))))) a ha)))
 intro b3 w4 hb5 hB6 hS7
 refine wl_assign rfl rfl (WL.nil (fun a ha => hK2 _ _ (W.seq fun K8 hK8 => (W.region (wl_move rfl rfl ?_))) a ha))
 obtain ⟨u9, hu9, hF⟩ := bindE hF
 refine wl_call rfl Tryd.call59 (C_spec_l1Cur__showTime__mut__box w4 (x0, 0, 0) b3 v0_0 (h0_0.oldo hB6 (hS7.sel [0] rfl)) (hS7.sel [0] rfl).base0 _ hu9) rfl ?_
 rintro _ w10 ⟨rfl, hE11, hM12⟩
 refine ⟨_, rfl, ?_⟩
 have hB13 := hS7.takeB [0] rfl (M := [R.blk b3 81 [v0_0, (.int .i64 0), (.int .u64 0)]]) rfl hB6 hE11 hM12
 refine wl_assign rfl rfl (WL.nil (fun a ha => hK8 _ _ (W.ret ?_) a ha))
 have hr := Option.some.inj hF
 subst hr
 exact rets (vs := [(.int .i64 u9.1)]) hQ rfl ⟨rv_tmp rfl, trivial⟩ ⟨rfl, hB13⟩
theorem C_impl_isTime (w0 : World) (x0 : Int) (r : Bool) (hF : F_impl_isTime x0 = some r) :
  Calls Tryd.prog 60 [(.int .i64 x0)].toArray w0 fun e w' => e = .returned (.bool r) ∧ Below w0.heap.size w0 w' := by
 refine calls_mk' Tryd.func60 rfl Tryd.ntmps60 rfl rfl fun Q hQ hP => ?_
 have hB : Below w0.heap.size w0 w0 := Below.refl _ _
 unfold F_impl_isTime at hF
 refine W.seq fun K1 hK1 => W.region (wl_assign rfl rfl (WL.nil (fun a ha => hK1 _ _ (W.seq fun K2 hK2 => (W.region (wl_move rfl rfl ?_))) a ha)))
 obtain ⟨u3, hu3, hF⟩ := bindE hF
 refine wl_call rfl Tryd.call65 (C_impl_within w0 x0 0 1000000 _ hu3) rfl ?_
 rintro _ w4 ⟨rfl, hb5⟩
 refine ⟨_, rfl, ?_⟩
 have hB6 := hB.trans (hb5.mono hB.size)
 refine wl_assign rfl rfl (WL.nil (fun a ha => hK2 _ _ (W.ret ?_) a ha))
 have hr := Option.some.inj hF
 subst hr
 exact rets (vs := [(.bool u3)]) hQ rfl ⟨rv_tmp rfl, trivial⟩ ⟨rfl, hB6⟩
theorem C_impl_TimeText (w0 : World) (hT : Tab w0) (x0 : Int) (r : ((List UInt8) × Bool)) (hF : F_impl_TimeText x0 = some r) :
  Calls Tryd.prog 21 [(.int .i64 x0)].toArray w0 fun e w' => e = .returned (.tuple #[(.string (mkS r.1)), (.bool r.2)]) ∧ Below w0.heap.size w0 w' := by
 refine calls_mk' Tryd.func21 rfl Tryd.ntmps21 rfl rfl fun Q hQ hP => ?_
 have hB : Below w0.heap.size w0 w0 := Below.refl _ _
 unfold F_impl_TimeText at hF
 refine W.seq fun K1 hK1 => W.region (wl_assign rfl rfl (wl_assign rfl rfl (WL.nil (fun a ha => hK1 _ _ (W.seq fun K2 hK2 => (W.seq fun K3 hK3 => (W.region (wl_move rfl rfl ?_)))) a ha))))
 obtain ⟨u4, hu4, hF⟩ := bindE hF
 refine wl_call rfl Tryd.call60 (C_impl_isTime w0 x0 _ hu4) rfl ?_
 rintro _ w5 ⟨rfl, hb6⟩
 refine ⟨_, rfl, ?_⟩
 have hB7 := hB.trans (hb6.mono hB.size)
 refine wl_not rfl rfl (WL.nil (fun a ha => hK3 _ _ (W.cond rfl (fun h10 => ?_) (fun h10 => ?_)) a ha))
 ·replace hF := ifP h10 hF
  refine W.seq fun K11 hK11 => W.region (wl_assign rfl rfl (wl_assign rfl rfl (WL.nil (fun a ha => hK11 _ _ (W.ret ?_) a ha))))
  have hr := Option.some.inj hF
  subst hr
  exact rets (vs := [(.string (mkS [])), (.bool false)]) hQ rfl ⟨rv_tmp rfl, rv_tmp rfl, trivial⟩ ⟨rfl, hB7⟩
 ·replace hF := ifN h10 hF
  refine W.skip fun a ha => hK2 _ _ (W.seq fun K12 hK12 => (W.region (wl_move rfl rfl ?_))) a ha
  obtain ⟨u13, hu13, hF⟩ := bindE hF
  refine wl_call rfl Tryd.call41 (C_impl_timeText w5 (hT.st hB7) x0 _ hu13) rfl ?_
  rintro _ w14 ⟨rfl, hb15⟩
  refine ⟨_, rfl, ?_⟩
  have hB16 := hB7.trans (hb15.mono hB7.size)
  refine wl_assign rfl rfl (wl_assign rfl rfl (WL.nil (fun a ha => hK12 _ _ (W.ret ?_) a ha)))
  have hr := Option.some.inj hF
  subst hr
  exact rets (vs := [(.string (mkS u13)), (.bool true)]) hQ rfl ⟨rv_tmp rfl, rv_tmp rfl, trivial⟩ ⟨rfl, hB16⟩
theorem C_spec_tiTime (w0 : World) (x0 : Int) (r : Bool) (hF : F_spec_tiTime x0 = some r) :
  Calls Tryd.prog 61 [(.int .i64 x0)].toArray w0 fun e w' => e = .returned (.bool r) ∧ Below w0.heap.size w0 w' := by
 refine calls_mk' Tryd.func61 rfl Tryd.ntmps61 rfl rfl fun Q hQ hP => ?_
 have hB : Below w0.heap.size w0 w0 := Below.refl _ _
 unfold F_spec_tiTime at hF
 refine W.seq fun K1 hK1 => W.region (wl_assign rfl rfl (WL.nil (fun a ha => hK1 _ _ (W.seq fun K2 hK2 => (W.region (wl_move rfl rfl ?_))) a ha)))
 obtain ⟨u3, hu3, hF⟩ := bindE hF
 refine wl_call rfl Tryd.call68 (C_spec_l1In w0 x0 0 1000000 _ hu3) rfl ?_
 rintro _ w4 ⟨rfl, hb5⟩
 refine ⟨_, rfl, ?_⟩
 have hB6 := hB.trans (hb5.mono hB.size)
 refine wl_assign rfl rfl (WL.nil (fun a ha => hK2 _ _ (W.ret ?_) a ha))
 have hr := Option.some.inj hF
 subst hr
 exact rets (vs := [(.bool u3)]) hQ rfl ⟨rv_tmp rfl, trivial⟩ ⟨rfl, hB6⟩
theorem C_spec_TimeText (w0 : World) (x0 : Int) (r : ((List UInt8) × Bool)) (hF : F_spec_TimeText x0 = some r) :
  Calls Tryd.prog 22 [(.int .i64 x0)].toArray w0 fun e w' => e = .returned (.tuple #[(.string (mkS r.1)), (.bool r.2)]) ∧ Below w0.heap.size w0 w' := by
 refine calls_mk' Tryd.func22 rfl Tryd.ntmps22 rfl rfl fun Q hQ hP => ?_
 have hB : Below w0.heap.size w0 w0 := Below.refl _ _
 unfold F_spec_TimeText at hF
 refine W.seq fun K1 hK1 => W.region (wl_assign rfl rfl (wl_assign rfl rfl (WL.nil (fun a ha => hK1 _ _ (W.seq fun K2 hK2 => (W.seq fun K3 hK3 => (W.region (wl_move rfl rfl ?_)))) a ha))))
 obtain ⟨u4, hu4, hF⟩ := bindE hF
 refine wl_call rfl Tryd.call61 (C_spec_tiTime w0 x0 _ hu4) rfl ?_
 rintro _ w5 ⟨rfl, hb6⟩
 refine ⟨_, rfl, ?_⟩
 have hB7 := hB.trans (hb6.mono hB.size)
 refine wl_not rfl rfl (WL.nil (fun a ha => hK3 _ _ (W.cond rfl (fun h10 => ?_) (fun h10 => ?_)) a ha))
 ·replace hF := ifP h10 hF
  refine W.seq fun K11 hK11 => W.region (wl_assign rfl rfl (wl_assign rfl rfl (WL.nil (fun a ha => hK11 _ _ (W.ret ?_) a ha))))
  have hr := Option.some.inj hF
  subst hr
  exact rets (vs := [(.string (mkS [])), (.bool false)]) hQ rfl ⟨rv_tmp rfl, rv_tmp rfl, trivial⟩ ⟨rfl, hB7⟩
 ·replace hF := ifN h10 hF
  refine W.skip fun a ha => hK2 _ _ (W.seq fun K12 hK12 => (W.region (wl_move rfl rfl ?_))) a ha
  obtain ⟨u13, hu13, hF⟩ := bindE hF
  refine wl_call rfl Tryd.call35 (C_spec_tiText w5 x0 _ hu13) rfl ?_
  rintro _ w14 ⟨rfl, hb15⟩
  refine ⟨_, rfl, ?_⟩
  have hB16 := hB7.trans (hb15.mono hB7.size)
  refine wl_assign rfl rfl (wl_assign rfl rfl (WL.nil (fun a ha => hK12 _ _ (W.ret ?_) a ha)))
  have hr := Option.some.inj hF
  subst hr
  exact rets (vs := [(.string (mkS u13)), (.bool true)]) hQ rfl ⟨rv_tmp rfl, rv_tmp rfl, trivial⟩ ⟨rfl, hB16⟩
theorem C_impl_AreCues (w0 : World) (x0 : (List (Int × Int))) (v0_0 : Value) (h0_0 : rdS ty_63 (· < w0.heap.size) w0 v0_0 x0) (x1 : (List (Int × (List UInt8)))) (v1_0 : Value) (h1_0 : rdS ty_39 (· < w0.heap.size) w0 v1_0 x1) (r : (Bool × Bool)) (hF : F_impl_AreCues x0 x1 = some r) :
  Calls Tryd.prog 24 [v0_0, v1_0].toArray w0 fun e w' => e = .returned (.tuple #[(.bool r.1), (.bool r.2)]) ∧ Below w0.heap.size w0 w' := by
 refine calls_mk' Tryd.func24 rfl Tryd.ntmps24 rfl rfl fun Q hQ hP => ?_
 have hB : Below w0.heap.size w0 w0 := Below.refl _ _
 unfold F_impl_AreCues at hF
 refine W.seq fun K1 hK1 => W.region (wl_assign rfl rfl (wl_assign rfl rfl (WL.nil (fun a ha => hK1 _ _ (W.seq fun K2 hK2 => (W.seq fun K3 hK3 => (W.region (wl_move rfl rfl ?_)))) a ha))))
 obtain ⟨u4, hu4, hF⟩ := bindE hF
 refine wl_call rfl Tryd.call62 (C_impl_IsMusic w0 x0 v0_0 (h0_0.ro hB) _ hu4) rfl ?_
 rintro _ w5 ⟨rfl, hb6⟩
 refine ⟨_, rfl, ?_⟩
 have hB7 := hB.trans (hb6.mono hB.size)
 refine wl_not rfl rfl (WL.nil (fun a ha => hK3 _ _ (W.cond rfl (fun h10 => ?_) (fun h10 => ?_)) a ha))
 ·replace hF := ifP h10 hF
  refine W.seq fun K11 hK11 => W.region (wl_assign rfl rfl (wl_assign rfl rfl (WL.nil (fun a ha => hK11 _ _ (W.ret ?_) a ha))))
  have hr := Option.some.inj hF
  subst hr
  exact rets (vs := [(.bool false), (.bool false)]) hQ rfl ⟨rv_tmp rfl, rv_tmp rfl, trivial⟩ ⟨rfl, hB7⟩
 ·replace hF := ifN h10 hF
  refine W.skip fun a ha => hK2 _ _ (W.seq fun K12 hK12 => (W.region (wl_move rfl rfl (wl_move rfl rfl ?_)))) a ha
  obtain ⟨u13, hu13, hF⟩ := bindE hF
  refine wl_call rfl Tryd.call50 (C_impl_areCues w5 x0 v0_0 (h0_0.ro hB7) x1 v1_0 (h1_0.ro hB7) _ hu13) rfl ?_
  rintro _ w14 ⟨rfl, hb15⟩
  refine ⟨_, rfl, ?_⟩
  have hB16 := hB7.trans (hb15.mono hB7.size)
  refine wl_assign rfl rfl (wl_assign rfl rfl (WL.nil (fun a ha => hK12 _ _ (W.ret ?_) a ha)))
  have hr := Option.some.inj hF
  subst hr
  exact rets (vs := [(.bool u13), (.bool true)]) hQ rfl ⟨rv_tmp rfl, rv_tmp rfl, trivial⟩ ⟨rfl, hB16⟩
theorem C_spec_AreCues (w0 : World) (x0 : (List (Int × Int))) (v0_0 : Value) (h0_0 : rdS ty_63 (· < w0.heap.size) w0 v0_0 x0) (x1 : (List (Int × (List UInt8)))) (v1_0 : Value) (h1_0 : rdS ty_39 (· < w0.heap.size) w0 v1_0 x1) (r : (Bool × Bool)) (hF : F_spec_AreCues x0 x1 = some r) :
  Calls Tryd.prog 25 [v0_0, v1_0].toArray w0 fun e w' => e = .returned (.tuple #[(.bool r.1), (.bool r.2)]) ∧ Below w0.heap.size w0 w' := by
 refine calls_mk' Tryd.func25 rfl Tryd.ntmps25 rfl rfl fun Q hQ hP => ?_
 have hB : Below w0.heap.size w0 w0 := Below.refl _ _
 unfold F_spec_AreCues at hF
 refine W.seq fun K1 hK1 => W.region (wl_assign rfl rfl (wl_assign rfl rfl (WL.nil (fun a ha => hK1 _ _ (W.seq fun K2 hK2 => (W.seq fun K3 hK3 => (W.region (wl_move rfl rfl ?_)))) a ha))))
 obtain ⟨u4, hu4, hF⟩ := bindE hF
 refine wl_call rfl Tryd.call63 (C_spec_muGood w0 x0 v0_0 (h0_0.ro hB) _ hu4) rfl ?_
 rintro _ w5 ⟨rfl, hb6⟩
 refine ⟨_, rfl, ?_⟩
 have hB7 := hB.trans (hb6.mono hB.size)
 refine wl_not rfl rfl (WL.nil (fun a ha => hK3 _ _ (W.cond rfl (fun h10 => ?_) (fun h10 => ?_)) a ha))
 ·replace hF := ifP h10 hF
  refine W.seq fun K11 hK11 => W.region (wl_assign rfl rfl (wl_assign rfl rfl (WL.nil (fun a ha => hK11 _ _ (W.ret ?_) a ha))))
  have hr := Option.some.inj hF
  subst hr
  exact rets (vs := [(.bool false), (.bool false)]) hQ rfl ⟨rv_tmp rfl, rv_tmp rfl, trivial⟩ ⟨rfl, hB7⟩
 ·replace hF := ifN h10 hF
  refine W.skip fun a ha => hK2 _ _ (W.seq fun K12 hK12 => (W.region (wl_move rfl rfl (wl_move rfl rfl ?_)))) a ha
  obtain ⟨u13, hu13, hF⟩ := bindE hF
  refine wl_call rfl Tryd.call64 (C_spec_tiCues w5 x0 v0_0 (h0_0.ro hB7) x1 v1_0 (h1_0.ro hB7) _ hu13) rfl ?_
  rintro _ w14 ⟨rfl, hb15⟩
  refine ⟨_, rfl, ?_⟩
  have hB16 := hB7.trans (hb15.mono hB7.size)
  refine wl_assign rfl rfl (wl_assign rfl rfl (WL.nil (fun a ha => hK12 _ _ (W.ret ?_) a ha)))
  have hr := Option.some.inj hF
  subst hr
  exact rets (vs := [(.bool u13), (.bool true)]) hQ rfl ⟨rv_tmp rfl, rv_tmp rfl, trivial⟩ ⟨rfl, hB16⟩
theorem C_laws_qCues (w0 : World) (x0 : (List (Int × (List UInt8)))) (v0_0 : Value) (h0_0 : rdS ty_39 (· < w0.heap.size) w0 v0_0 x0) (x1 : (List (Int × (List UInt8)))) (v1_0 : Value) (h1_0 : rdS ty_39 (· < w0.heap.size) w0 v1_0 x1) (r : Bool) (hF : F_laws_qCues x0 x1 = some r) :
  Calls Tryd.prog 26 [v0_0, v1_0].toArray w0 fun e w' => e = .returned (.bool r) ∧ Below w0.heap.size w0 w' := by
 refine calls_mk' Tryd.func26 rfl Tryd.ntmps26 rfl rfl fun Q hQ hP => ?_
 have hB : Below w0.heap.size w0 w0 := Below.refl _ _
 have hS : Sep w0.heap.size w0 [] := Sep.nil _ _
 unfold F_laws_qCues at hF
 refine W.seq fun K1 hK1 => W.region (wl_assign rfl rfl (WL.nil (fun a ha => hK1 _ _ (W.seq fun K2 hK2 => (W.seq fun K3 hK3 => (W.region (wl_move rfl rfl (wl_lenr (e := ty_39) (l := x0) Tryd.underlying30 rfl rfl h0_0 (wl_move rfl rfl (wl_lenr (e := ty_39) (l := x1) Tryd.underlying30 rfl rfl h1_0 (wl_neq rfl rfl rfl (WL.nil ?_))))))))) a ha)))
 refine fun a ha => hK3 _ _ (W.cond rfl (fun h4 => ?_) (fun h4 => ?_)) a ha
 ·replace hF := ifP h4 hF
  refine W.seq fun K5 hK5 => W.region (wl_assign rfl rfl (WL.nil (fun a ha => hK5 _ _ (W.ret ?_) a ha)))
  have hr := Option.some.inj hF
  subst hr
  exact rets (vs := [(.bool false)]) hQ rfl ⟨rv_tmp rfl, trivial⟩ ⟨rfl, hB⟩
 ·replace hF := ifN h4 hF
  refine W.skip fun a ha => hK2 _ _ (W.seq fun K6 hK6 => (W.seq fun K7 hK7 => (W.region (wl_move rfl rfl (wl_lenr (e := ty_39) (l := x0) Tryd.underlying30 rfl rfl h0_0 (wl_move rfl rfl (WL.nil (fun a ha => hK7 _ _ (W.block (W.loopk (fun m a w8 => ∃ (y11 : Int), St 26 [(0, v0_0), (1, v1_0), (12, (.int .i64 (List.length x0 : Int))), (13, (.int .i64 y11))] a ∧ Below w0.heap.size w0 w8 ∧ Sep w0.heap.size w8 [] ∧ F_laws_qCues_L1 x0 x1 m y11 = some r) FU ?_ ?_)) a ha)))))))) a ha
  ·
   exact fun a ha => ⟨0, ha.sub ⟨rfl, rfl, rfl, rfl, trivial⟩, hB, (hS.sel [] rfl), hF⟩
  ·
   rintro m14 a w8 ⟨y11, ha, hB9, hS10, hF⟩ KL13 hKL13
   refine W.at ?_ ha
   cases m14 with
   | zero => exact noneE hF
   | succ m14 =>
    obtain ⟨nx12, hnx12⟩ : ∃ k, k = F_laws_qCues_L1 x0 x1 m14 := ⟨_, rfl⟩
    rw [F_laws_qCues_L1, ← hnx12] at hF
    refine W.seq fun K15 hK15 => W.region (wl_lss rfl rfl rfl (WL.nil (fun a ha => hK15 _ _ (W.seq fun K16 hK16 => (W.cond rfl (fun h17 => ?_) (fun h17 => ?_))) a ha)))
    ·replace hF := ifP h17 hF
     refine W.skip fun a ha => hK16 _ _ (W.seq fun K18 hK18 => (W.block (W.seq fun K19 hK19 => (W.region (wl_move rfl rfl (wl_assign rfl rfl (WL.nil (fun a ha => hK19 _ _ (W.seq fun K20 hK20 => (W.regionH mixed_ [] hB9 hS10 ?_)) a ha)))))))) a ha
     intro w21 hb22 hB23 hS24
     have hSW25 := KeepX.refl w21 []
     refine WH.tk 0 rfl hP hSW25 (pr_move rfl rfl (WH.tk 1 rfl hP hSW25 (pr_move rfl rfl ?_)))
     obtain ⟨u26, hu26, hF⟩ := bindE hF
     refine WH.tk 2 rfl hP hSW25 (pr_index (e := ty_39) Tryd.underlying30 rfl rfl rfl h0_0 hu26 ?_)
     rintro p27 _ rfl hp28
     refine WH.tk 3 rfl hP hSW25 (pr_load_p (vs := [(.int .i64 u26.1), (.string (mkS u26.2))]) (v := (.agg #[(.int .i64 u26.1), (.string (mkS u26.2))])) tf_39 rfl rfl (hp28.kx hB23 (by simp)) rfl rfl (WH.tk 4 rfl hP hSW25 (pr_move rfl rfl (WH.tk 5 rfl hP hSW25 (pr_move rfl rfl ?_)))))
     obtain ⟨u29, hu29, hF⟩ := bindE hF
     refine WH.tk 6 rfl hP hSW25 (pr_index (e := ty_39) Tryd.underlying30 rfl rfl rfl h1_0 hu29 ?_)
     rintro p30 _ rfl hp31
     refine WH.tk 7 rfl hP hSW25 (pr_load_p (vs := [(.int .i64 u29.1), (.string (mkS u29.2))]) (v := (.agg #[(.int .i64 u29.1), (.string (mkS u29.2))])) tf_39 rfl rfl (hp31.kx hB23 (by simp)) rfl rfl (WH.tk 8 rfl hP hSW25 (pr_nes Tryd.eqGuardType39 (eq_39 u26 u29) rfl rfl rfl (WH.done (by kernel_rfl) (fun a ha => hK20 _ _ (W.cond rfl (fun h32 => ?_) (fun h32 => ?_)) a ha)))))
     ·replace hF := ifP h32 hF
      refine W.seq fun K33 hK33 => W.region (wl_assign rfl rfl (WL.nil (fun a ha => hK33 _ _ (W.ret ?_) a ha)))
      have hr := Option.some.inj hF
      subst hr
      exact rets (vs := [(.bool false)]) hQ rfl ⟨rv_tmp rfl, trivial⟩ ⟨rfl, hB23⟩
     ·replace hF := ifN h32 hF
      refine W.skip fun a ha => hK18 _ _ (W.region (wl_add rfl rfl rfl (wl_move rfl rfl (WL.nil ?_)))) a ha
      rw [hnx12] at hF
      exact fun a ha => hKL13 a _ m14 (Nat.lt_succ_self m14) ⟨(w64 (y11 + 1)), ha.sub ⟨rfl, rfl, rfl, rfl, trivial⟩, hB23, (hS24.sel [] rfl), hF⟩
    ·replace hF := ifN h17 hF
     refine W.exit fun a ha => hK6 _ _ (W.seq fun K34 hK34 => (W.region (wl_assign rfl rfl (WL.nil (fun a ha => hK34 _ _ (W.ret ?_) a ha))))) a ha
     have hr := Option.some.inj hF
     subst hr
     exact rets (vs := [(.bool true)]) hQ rfl ⟨rv_tmp rfl, trivial⟩ ⟨rfl, hB9⟩
theorem C_impl_NextCue (w0 : World) (x0 : (List (Int × Int))) (v0_0 : Value) (h0_0 : rdS ty_63 (· < w0.heap.size) w0 v0_0 x0) (x1 : (List (Int × (List UInt8)))) (v1_0 : Value) (h1_0 : rdS ty_39 (· < w0.heap.size) w0 v1_0 x1) (x2 : Int) (r : (Int × Bool)) (hF : F_impl_NextCue x0 x1 x2 = some r) :
  Calls Tryd.prog 27 [v0_0, v1_0, (.int .i64 x2)].toArray w0 fun e w' => e = .returned (.tuple #[(.int .i64 r.1), (.bool r.2)]) ∧ Below w0.heap.size w0 w' := by
 refine calls_mk' Tryd.func27 rfl Tryd.ntmps27 rfl rfl fun Q hQ hP => ?_
 have hB : Below w0.heap.size w0 w0 := Below.refl _ _
 have hS : Sep w0.heap.size w0 [] := Sep.nil _ _
 unfold F_impl_NextCue at hF
 refine W.seq fun K1 hK1 => W.region (wl_assign rfl rfl (wl_assign rfl rfl (WL.nil (fun a ha => hK1 _ _ (W.seq fun K2 hK2 => (W.seq fun K3 hK3 => ?_)) a ha))))
 obtain ⟨k8, hk8, hF⟩ := jE1 hF
 have hJ9 : ∀ (y7 : Bool) (w4 : World) (_ : k8 y7 = some r) (_ : Below w0.heap.size w0 w4) (_ : Sep w0.heap.size w4 []), ∀ a, St 35 [(1, v1_0), (2, (.int .i64 x2)), (21, (.bool y7))] a → K3 a w4 := by
  intro y7 w4 hF hB5 hS6
  subst hk8
  refine fun a ha => hK3 _ _ (W.cond rfl (fun h10 => ?_) (fun h10 => ?_)) a ha
  ·replace hF := ifP h10 hF
   refine W.seq fun K11 hK11 => W.region (wl_assign rfl rfl (wl_assign rfl rfl (WL.nil (fun a ha => hK11 _ _ (W.ret ?_) a ha))))
   have hr := Option.some.inj hF
   subst hr
   exact rets (vs := [(.int .i64 0), (.bool false)]) hQ rfl ⟨rv_tmp rfl, rv_tmp rfl, trivial⟩ ⟨rfl, hB5⟩
  ·replace hF := ifN h10 hF
   refine W.skip fun a ha => hK2 _ _ (W.seq fun K12 hK12 => (W.seq fun K13 hK13 => (W.region (wl_move rfl rfl (wl_lenr (e := ty_39) (l := x1) Tryd.underlying30 rfl rfl h1_0 (wl_move rfl rfl (WL.nil (fun a ha => hK13 _ _ (W.block (W.loopk (fun m a w14 => ∃ (y17 : Int), St 35 [(2, (.int .i64 x2)), (22, v1_0), (23, (.int .i64 (List.length x1 : Int))), (24, (.int .i64 y17))] a ∧ Below w0.heap.size w0 w14 ∧ Sep w0.heap.size w14 [] ∧ F_impl_NextCue_L1 x1 x2 m y17 = some r) FU ?_ ?_)) a ha)))))))) a ha
   ·
    exact fun a ha => ⟨0, ha.sub ⟨rfl, rfl, rfl, rfl, trivial⟩, hB5, (hS6.sel [] rfl), hF⟩
   ·
    rintro m20 a w14 ⟨y17, ha, hB15, hS16, hF⟩ KL19 hKL19
    refine W.at ?_ ha
    cases m20 with
    | zero => exact noneE hF
    | succ m20 =>
     obtain ⟨nx18, hnx18⟩ : ∃ k, k = F_impl_NextCue_L1 x1 x2 m20 := ⟨_, rfl⟩
     rw [F_impl_NextCue_L1, ← hnx18] at hF
     refine W.seq fun K21 hK21 => W.region (wl_lss rfl rfl rfl (WL.nil (fun a ha => hK21 _ _ (W.seq fun K22 hK22 => (W.cond rfl (fun h23 => ?_) (fun h23 => ?_))) a ha)))
     ·replace hF := ifP h23 hF
      refine W.skip fun a ha => hK22 _ _ (W.seq fun K24 hK24 => (W.block (W.seq fun K25 hK25 => (W.region (wl_move rfl rfl ?_))))) a ha
      obtain ⟨u26, hu26, hF⟩ := bindE hF
      refine wl_index (e := ty_39) Tryd.underlying30 rfl rfl rfl h1_0 hu26 ?_
      rintro p27 _ rfl hp28
      refine wl_load_p (vs := [(.int .i64 u26.1), (.string (mkS u26.2))]) (v := (.agg #[(.int .i64 u26.1), (.string (mkS u26.2))])) tf_39 rfl rfl (hp28.ro hB15) rfl rfl (wl_alloc (cs := [(.int .i64 0), (.string (mkS []))]) tf_39 rfl rfl hB15 hS16 ?_)
      intro b29 w30 hb31 hB32 hS33
      refine wl_assign rfl rfl (wl_store_blk (i := 0) (vs := [(.int .i64 u26.1), (.string (mkS u26.2))]) (cs' := [(.int .i64 u26.1), (.string (mkS u26.2))]) tf_39 rfl rfl rfl rfl hB32 hS33 rfl rfl ⟨rfl, rfl, trivial⟩ rfl ?_)
      intro w34 hk37 hB35 hS36
      refine WL.nil fun a ha => hK25 _ _ (W.seq fun K38 hK38 => (W.region (wl_field (o := 0) (off' := 0) ff_39_0 rfl rfl rfl (wl_load_blk (i := 0) (vs := [(.int .i64 u26.1)]) (v := (.int .i64 u26.1)) tf_3 rfl rfl hS36 rfl rfl rfl (wl_move rfl rfl (wl_geq rfl rfl rfl (WL.nil (fun a ha => hK38 _ _ (W.cond rfl (fun h39 => ?_) (fun h39 => ?_)) a ha)))))))) a ha
      ·replace hF := ifP h39 hF
       refine W.seq fun K40 hK40 => W.region (wl_move rfl rfl (wl_assign rfl rfl (wl_assign rfl rfl (WL.nil (fun a ha => hK40 _ _ (W.ret ?_) a ha)))))
       have hr := Option.some.inj hF
       subst hr
       exact rets (vs := [(.int .i64 y17), (.bool true)]) hQ rfl ⟨rv_tmp rfl, rv_tmp rfl, trivial⟩ ⟨rfl, hB35⟩
      ·replace hF := ifN h39 hF
       refine W.skip fun a ha => hK24 _ _ (W.region (wl_add rfl rfl rfl (wl_move rfl rfl (WL.nil ?_)))) a ha
       rw [hnx18] at hF
       exact fun a ha => hKL19 a _ m20 (Nat.lt_succ_self m20) ⟨(w64 (y17 + 1)), ha.sub ⟨rfl, rfl, rfl, rfl, trivial⟩, hB35, (hS36.sel [] rfl), hF⟩
     ·replace hF := ifN h23 hF
      refine W.exit fun a ha => hK12 _ _ (W.seq fun K41 hK41 => (W.region (wl_assign rfl rfl (wl_assign rfl rfl (WL.nil (fun a ha => hK41 _ _ (W.ret ?_) a ha)))))) a ha
      have hr := Option.some.inj hF
      subst hr
      exact rets (vs := [(.int .i64 0), (.bool false)]) hQ rfl ⟨rv_tmp rfl, rv_tmp rfl, trivial⟩ ⟨rfl, hB15⟩
 refine W.region (wl_move rfl rfl (wl_move rfl rfl ?_))
 obtain ⟨u42, hu42, hF⟩ := bindE hF
 refine wl_call rfl Tryd.call39 (C_impl_haveCues w0 x0 v0_0 (h0_0.ro hB) x1 v1_0 (h1_0.ro hB) _ hu42) rfl ?_
 rintro _ w43 ⟨rfl, hb44⟩
 refine ⟨_, rfl, ?_⟩
 have hB45 := hB.trans (hb44.mono hB.size)
 have hS46 := hS.below hb44
 refine wl_not rfl rfl (wl_move rfl rfl ?_)
 rcases bE (!u42) with h48 | h48
 ·replace hF := ifP h48 hF
  refine wl_off rfl rfl rfl h48 (wl_off rfl rfl rfl h48 (wl_off rfl rfl rfl h48 (wl_off rfl rfl rfl h48 (wl_off rfl rfl rfl h48 (wl_off rfl rfl rfl h48 (wl_pick_t rfl rfl h48 rfl (WL.nil ?_)))))))
  exact fun a ha => hJ9 (true) _ hF hB45 (hS46.sel [] rfl) a (ha.sub ⟨rfl, rfl, rfl, trivial⟩)
 ·replace hF := ifN h48 hF
  refine wl_on rfl rfl h48 (wl_move rfl rfl (wl_on rfl rfl h48 (wl_move rfl rfl (wl_on rfl rfl h48 ?_))))
  obtain ⟨u49, hu49, hF⟩ := bindE hF
  refine wl_call rfl Tryd.call57 (C_impl_countsOf w43 x0 v0_0 (h0_0.ro hB45) _ hu49) rfl ?_
  rintro _ w50 ⟨rfl, hb51⟩
  refine ⟨_, rfl, ?_⟩
  have hB52 := hB45.trans (hb51.mono hB45.size)
  have hS53 := hS46.below hb51
  refine wl_on rfl rfl h48 (wl_sub rfl rfl rfl (wl_on rfl rfl h48 ?_))
  obtain ⟨u55, hu55, hF⟩ := bindE hF
  refine wl_call rfl Tryd.call65 (C_impl_within w50 x2 0 (w64 (u49 - 1)) _ hu55) rfl ?_
  rintro _ w56 ⟨rfl, hb57⟩
  refine ⟨_, rfl, ?_⟩
  have hB58 := hB52.trans (hb57.mono hB52.size)
  have hS59 := hS53.below hb57
  refine wl_on rfl rfl h48 (wl_not rfl rfl (wl_pick_f rfl rfl h48 rfl (WL.nil ?_)))
  exact fun a ha => hJ9 ((!u55)) _ hF hB58 (hS59.sel [] rfl) a (ha.sub ⟨rfl, rfl, rfl, trivial⟩)
theorem C_spec_muHas (w0 : World) (x0 : (List (Int × Int))) (v0_0 : Value) (h0_0 : rdS ty_63 (· < w0.heap.size) w0 v0_0 x0) (x1 : Int) (r : Bool) (hF : F_spec_muHas x0 x1 = some r) :
  Calls Tryd.prog 66 [v0_0, (.int .i64 x1)].toArray w0 fun e w' => e = .returned (.bool r) ∧ Below w0.heap.size w0 w' := by
 refine calls_mk' Tryd.func66 rfl Tryd.ntmps66 rfl rfl fun Q hQ hP => ?_
 have hB : Below w0.heap.size w0 w0 := Below.refl _ _
 have hS : Sep w0.heap.size w0 [] := Sep.nil _ _
 unfold F_spec_muHas at hF
 refine W.seq fun K1 hK1 => W.region (wl_assign rfl rfl (WL.nil (fun a ha => hK1 _ _ (W.seq fun K2 hK2 => ?_) a ha)))
 obtain ⟨k7, hk7, hF⟩ := jE1 hF
 have hJ8 : ∀ (y6 : Bool) (w3 : World) (_ : k7 y6 = some r) (_ : Below w0.heap.size w0 w3) (_ : Sep w0.heap.size w3 []), ∀ a, St 14 [(4, (.bool y6))] a → K2 a w3 := by
  intro y6 w3 hF hB4 hS5
  subst hk7
  refine fun a ha => hK2 _ _ (W.ret ?_) a ha
  have hr := Option.some.inj hF
  subst hr
  exact rets (vs := [(.bool y6)]) hQ rfl ⟨rv_tmp rfl, trivial⟩ ⟨rfl, hB4⟩
 refine W.region (wl_move rfl rfl ?_)
 obtain ⟨u9, hu9, hF⟩ := bindE hF
 refine wl_call rfl Tryd.call63 (C_spec_muGood w0 x0 v0_0 (h0_0.ro hB) _ hu9) rfl ?_
 rintro _ w10 ⟨rfl, hb11⟩
 refine ⟨_, rfl, ?_⟩
 have hB12 := hB.trans (hb11.mono hB.size)
 have hS13 := hS.below hb11
 refine wl_move rfl rfl ?_
 rcases bE u9 with h15 | h15
 ·replace hF := ifP h15 hF
  refine wl_on rfl rfl h15 (wl_move rfl rfl (wl_on rfl rfl h15 (wl_move rfl rfl (wl_on rfl rfl h15 ?_))))
  obtain ⟨u16, hu16, hF⟩ := bindE hF
  refine wl_call rfl Tryd.call58 (C_spec_muCounts w10 x0 v0_0 (h0_0.ro hB12) _ hu16) rfl ?_
  rintro _ w17 ⟨rfl, hb18⟩
  refine ⟨_, rfl, ?_⟩
  have hB19 := hB12.trans (hb18.mono hB12.size)
  have hS20 := hS13.below hb18
  refine wl_on rfl rfl h15 (wl_sub rfl rfl rfl (wl_on rfl rfl h15 ?_))
  obtain ⟨u22, hu22, hF⟩ := bindE hF
  refine wl_call rfl Tryd.call68 (C_spec_l1In w17 x1 0 (w64 (u16 - 1)) _ hu22) rfl ?_
  rintro _ w23 ⟨rfl, hb24⟩
  refine ⟨_, rfl, ?_⟩
  have hB25 := hB19.trans (hb24.mono hB19.size)
  have hS26 := hS20.below hb24
  refine wl_pick_t rfl rfl h15 rfl (wl_assign rfl rfl (WL.nil ?_))
  exact fun a ha => hJ8 (u22) _ hF hB25 (hS26.sel [] rfl) a (ha.sub ⟨rfl, trivial⟩)
 ·replace hF := ifN h15 hF
  refine wl_off rfl rfl rfl h15 (wl_off rfl rfl rfl h15 (wl_off rfl rfl rfl h15 (wl_off rfl rfl rfl h15 (wl_off rfl rfl rfl h15 (wl_pick_f rfl rfl h15 rfl (wl_assign rfl rfl (WL.nil ?_)))))))
  exact fun a ha => hJ8 (false) _ hF hB12 (hS13.sel [] rfl) a (ha.sub ⟨rfl, trivial⟩)
theorem C_spec_NextCue (w0 : World) (x0 : (List (Int × Int))) (v0_0 : Value) (h0_0 : rdS ty_63 (· < w0.heap.size) w0 v0_0 x0) (x1 : (List (Int × (List UInt8)))) (v1_0 : Value) (h1_0 : rdS ty_39 (· < w0.heap.size) w0 v1_0 x1) (x2 : Int) (r : (Int × Bool)) (hF : F_spec_NextCue x0 x1 x2 = some r) :
  Calls Tryd.prog 28 [v0_0, v1_0, (.int .i64 x2)].toArray w0 fun e w' => e = .returned (.tuple #[(.int .i64 r.1), (.bool r.2)]) ∧ Below w0.heap.size w0 w' := by
 refine calls_mk' Tryd.func28 rfl Tryd.ntmps28 rfl rfl fun Q hQ hP => ?_
 have hB : Below w0.heap.size w0 w0 := Below.refl _ _
 have hS : Sep w0.heap.size w0 [] := Sep.nil _ _
 unfold F_spec_NextCue at hF
 refine W.seq fun K1 hK1 => W.region (wl_assign rfl rfl (wl_assign rfl rfl (WL.nil (fun a ha => hK1 _ _ (W.seq fun K2 hK2 => (W.seq fun K3 hK3 => ?_)) a ha))))
 obtain ⟨k8, hk8, hF⟩ := jE1 hF
 have hJ9 : ∀ (y7 : Bool) (w4 : World) (_ : k8 y7 = some r) (_ : Below w0.heap.size w0 w4) (_ : Sep w0.heap.size w4 []), ∀ a, St 33 [(1, v1_0), (2, (.int .i64 x2)), (19, (.bool y7))] a → K3 a w4 := by
  intro y7 w4 hF hB5 hS6
  subst hk8
  refine fun a ha => hK3 _ _ (W.cond rfl (fun h10 => ?_) (fun h10 => ?_)) a ha
  ·replace hF := ifP h10 hF
   refine W.seq fun K11 hK11 => W.region (wl_assign rfl rfl (wl_assign rfl rfl (WL.nil (fun a ha => hK11 _ _ (W.ret ?_) a ha))))
   have hr := Option.some.inj hF
   subst hr
   exact rets (vs := [(.int .i64 0), (.bool false)]) hQ rfl ⟨rv_tmp rfl, rv_tmp rfl, trivial⟩ ⟨rfl, hB5⟩
  ·replace hF := ifN h10 hF
   refine W.skip fun a ha => hK2 _ _ (W.seq fun K12 hK12 => (W.seq fun K13 hK13 => (W.region (wl_move rfl rfl (wl_lenr (e := ty_39) (l := x1) Tryd.underlying30 rfl rfl h1_0 (wl_move rfl rfl (WL.nil (fun a ha => hK13 _ _ (W.block (W.loopk (fun m a w14 => ∃ (y17 : Int), St 33 [(2, (.int .i64 x2)), (20, v1_0), (21, (.int .i64 (List.length x1 : Int))), (22, (.int .i64 y17))] a ∧ Below w0.heap.size w0 w14 ∧ Sep w0.heap.size w14 [] ∧ F_spec_NextCue_L1 x1 x2 m y17 = some r) FU ?_ ?_)) a ha)))))))) a ha
   ·
    exact fun a ha => ⟨0, ha.sub ⟨rfl, rfl, rfl, rfl, trivial⟩, hB5, (hS6.sel [] rfl), hF⟩
   ·
    rintro m20 a w14 ⟨y17, ha, hB15, hS16, hF⟩ KL19 hKL19
    refine W.at ?_ ha
    cases m20 with
    | zero => exact noneE hF
    | succ m20 =>
     obtain ⟨nx18, hnx18⟩ : ∃ k, k = F_spec_NextCue_L1 x1 x2 m20 := ⟨_, rfl⟩
     rw [F_spec_NextCue_L1, ← hnx18] at hF
     refine W.seq fun K21 hK21 => W.region (wl_lss rfl rfl rfl (WL.nil (fun a ha => hK21 _ _ (W.seq fun K22 hK22 => (W.cond rfl (fun h23 => ?_) (fun h23 => ?_))) a ha)))
     ·replace hF := ifP h23 hF
      refine W.skip fun a ha => hK22 _ _ (W.seq fun K24 hK24 => (W.block (W.seq fun K25 hK25 => (W.region (wl_move rfl rfl ?_))))) a ha
      obtain ⟨u26, hu26, hF⟩ := bindE hF
      refine wl_index (e := ty_39) Tryd.underlying30 rfl rfl rfl h1_0 hu26 ?_
      rintro p27 _ rfl hp28
      refine wl_load_p (vs := [(.int .i64 u26.1), (.string (mkS u26.2))]) (v := (.agg #[(.int .i64 u26.1), (.string (mkS u26.2))])) tf_39 rfl rfl (hp28.ro hB15) rfl rfl (wl_alloc (cs := [(.int .i64 0), (.string (mkS []))]) tf_39 rfl rfl hB15 hS16 ?_)
      intro b29 w30 hb31 hB32 hS33
      refine wl_assign rfl rfl (wl_store_blk (i := 0) (vs := [(.int .i64 u26.1), (.string (mkS u26.2))]) (cs' := [(.int .i64 u26.1), (.string (mkS u26.2))]) tf_39 rfl rfl rfl rfl hB32 hS33 rfl rfl ⟨rfl, rfl, trivial⟩ rfl ?_)
      intro w34 hk37 hB35 hS36
      refine WL.nil fun a ha => hK25 _ _ (W.seq fun K38 hK38 => (W.region (wl_field (o := 0) (off' := 0) ff_39_0 rfl rfl rfl (wl_load_blk (i := 0) (vs := [(.int .i64 u26.1)]) (v := (.int .i64 u26.1)) tf_3 rfl rfl hS36 rfl rfl rfl (wl_move rfl rfl (wl_geq rfl rfl rfl (WL.nil (fun a ha => hK38 _ _ (W.cond rfl (fun h39 => ?_) (fun h39 => ?_)) a ha)))))))) a ha
      ·replace hF := ifP h39 hF
       refine W.seq fun K40 hK40 => W.region (wl_move rfl rfl (wl_assign rfl rfl (wl_assign rfl rfl (WL.nil (fun a ha => hK40 _ _ (W.ret ?_) a ha)))))
       have hr := Option.some.inj hF
       subst hr
       exact rets (vs := [(.int .i64 y17), (.bool true)]) hQ rfl ⟨rv_tmp rfl, rv_tmp rfl, trivial⟩ ⟨rfl, hB35⟩
      ·replace hF := ifN h39 hF
       refine W.skip fun a ha => hK24 _ _ (W.region (wl_add rfl rfl rfl (wl_move rfl rfl (WL.nil ?_)))) a ha
       rw [hnx18] at hF
       exact fun a ha => hKL19 a _ m20 (Nat.lt_succ_self m20) ⟨(w64 (y17 + 1)), ha.sub ⟨rfl, rfl, rfl, rfl, trivial⟩, hB35, (hS36.sel [] rfl), hF⟩
     ·replace hF := ifN h23 hF
      refine W.exit fun a ha => hK12 _ _ (W.seq fun K41 hK41 => (W.region (wl_assign rfl rfl (wl_assign rfl rfl (WL.nil (fun a ha => hK41 _ _ (W.ret ?_) a ha)))))) a ha
      have hr := Option.some.inj hF
      subst hr
      exact rets (vs := [(.int .i64 0), (.bool false)]) hQ rfl ⟨rv_tmp rfl, rv_tmp rfl, trivial⟩ ⟨rfl, hB15⟩
 refine W.region (wl_move rfl rfl (wl_move rfl rfl ?_))
 obtain ⟨u42, hu42, hF⟩ := bindE hF
 refine wl_call rfl Tryd.call33 (C_spec_tiGood w0 x0 v0_0 (h0_0.ro hB) x1 v1_0 (h1_0.ro hB) _ hu42) rfl ?_
 rintro _ w43 ⟨rfl, hb44⟩
 refine ⟨_, rfl, ?_⟩
 have hB45 := hB.trans (hb44.mono hB.size)
 have hS46 := hS.below hb44
 refine wl_not rfl rfl (wl_move rfl rfl ?_)
 rcases bE (!u42) with h48 | h48
 ·replace hF := ifP h48 hF
  refine wl_off rfl rfl rfl h48 (wl_off rfl rfl rfl h48 (wl_off rfl rfl rfl h48 (wl_off rfl rfl rfl h48 (wl_pick_t rfl rfl h48 rfl (WL.nil ?_)))))
  exact fun a ha => hJ9 (true) _ hF hB45 (hS46.sel [] rfl) a (ha.sub ⟨rfl, rfl, rfl, trivial⟩)
 ·replace hF := ifN h48 hF
  refine wl_on rfl rfl h48 (wl_move rfl rfl (wl_on rfl rfl h48 (wl_move rfl rfl (wl_on rfl rfl h48 ?_))))
  obtain ⟨u49, hu49, hF⟩ := bindE hF
  refine wl_call rfl Tryd.call66 (C_spec_muHas w43 x0 v0_0 (h0_0.ro hB45) x2 _ hu49) rfl ?_
  rintro _ w50 ⟨rfl, hb51⟩
  refine ⟨_, rfl, ?_⟩
  have hB52 := hB45.trans (hb51.mono hB45.size)
  have hS53 := hS46.below hb51
  refine wl_on rfl rfl h48 (wl_not rfl rfl (wl_pick_f rfl rfl h48 rfl (WL.nil ?_)))
  exact fun a ha => hJ9 ((!u49)) _ hF hB52 (hS53.sel [] rfl) a (ha.sub ⟨rfl, rfl, rfl, trivial⟩)
theorem C_laws_qMusic (w0 : World) (x0 : (List (Int × Int))) (v0_0 : Value) (h0_0 : rdS ty_63 (· < w0.heap.size) w0 v0_0 x0) (x1 : (List (Int × Int))) (v1_0 : Value) (h1_0 : rdS ty_63 (· < w0.heap.size) w0 v1_0 x1) (r : Bool) (hF : F_laws_qMusic x0 x1 = some r) :
  Calls Tryd.prog 31 [v0_0, v1_0].toArray w0 fun e w' => e = .returned (.bool r) ∧ Below w0.heap.size w0 w' := by
 refine calls_mk' Tryd.func31 rfl Tryd.ntmps31 rfl rfl fun Q hQ hP => ?_
 have hB : Below w0.heap.size w0 w0 := Below.refl _ _
 have hS : Sep w0.heap.size w0 [] := Sep.nil _ _
 unfold F_laws_qMusic at hF
 refine W.seq fun K1 hK1 => W.region (wl_assign rfl rfl (WL.nil (fun a ha => hK1 _ _ (W.seq fun K2 hK2 => (W.seq fun K3 hK3 => (W.region (wl_move rfl rfl (wl_lenr (e := ty_63) (l := x0) Tryd.underlying28 rfl rfl h0_0 (wl_move rfl rfl (wl_lenr (e := ty_63) (l := x1) Tryd.underlying28 rfl rfl h1_0 (wl_neq rfl rfl rfl (WL.nil ?_))))))))) a ha)))
 refine fun a ha => hK3 _ _ (W.cond rfl (fun h4 => ?_) (fun h4 => ?_)) a ha
 ·replace hF := ifP h4 hF
  refine W.seq fun K5 hK5 => W.region (wl_assign rfl rfl (WL.nil (fun a ha => hK5 _ _ (W.ret ?_) a ha)))
  have hr := Option.some.inj hF
  subst hr
  exact rets (vs := [(.bool false)]) hQ rfl ⟨rv_tmp rfl, trivial⟩ ⟨rfl, hB⟩
 ·replace hF := ifN h4 hF
  refine W.skip fun a ha => hK2 _ _ (W.seq fun K6 hK6 => (W.seq fun K7 hK7 => (W.region (wl_move rfl rfl (wl_lenr (e := ty_63) (l := x0) Tryd.underlying28 rfl rfl h0_0 (wl_move rfl rfl (WL.nil (fun a ha => hK7 _ _ (W.block (W.loopk (fun m a w8 => ∃ (y11 : Int), St 26 [(0, v0_0), (1, v1_0), (12, (.int .i64 (List.length x0 : Int))), (13, (.int .i64 y11))] a ∧ Below w0.heap.size w0 w8 ∧ Sep w0.heap.size w8 [] ∧ F_laws_qMusic_L1 x0 x1 m y11 = some r) FU ?_ ?_)) a ha)))))))) a ha
  ·
   exact fun a ha => ⟨0, ha.sub ⟨rfl, rfl, rfl, rfl, trivial⟩, hB, (hS.sel [] rfl), hF⟩
  ·
   rintro m14 a w8 ⟨y11, ha, hB9, hS10, hF⟩ KL13 hKL13
   refine W.at ?_ ha
   cases m14 with
   | zero => exact noneE hF
   | succ m14 =>
    obtain ⟨nx12, hnx12⟩ : ∃ k, k = F_laws_qMusic_L1 x0 x1 m14 := ⟨_, rfl⟩
    rw [F_laws_qMusic_L1, ← hnx12] at hF
    refine W.seq fun K15 hK15 => W.region (wl_lss rfl rfl rfl (WL.nil (fun a ha => hK15 _ _ (W.seq fun K16 hK16 => (W.cond rfl (fun h17 => ?_) (fun h17 => ?_))) a ha)))
    ·replace hF := ifP h17 hF
     refine W.skip fun a ha => hK16 _ _ (W.seq fun K18 hK18 => (W.block (W.seq fun K19 hK19 => (W.region (wl_move rfl rfl (wl_assign rfl rfl (WL.nil (fun a ha => hK19 _ _ (W.seq fun K20 hK20 => (W.regionH mixed_ [] hB9 hS10 ?_)) a ha)))))))) a ha
     intro w21 hb22 hB23 hS24
     have hSW25 := KeepX.refl w21 []
     refine WH.tk 0 rfl hP hSW25 (pr_move rfl rfl (WH.tk 1 rfl hP hSW25 (pr_move rfl rfl ?_)))
     obtain ⟨u26, hu26, hF⟩ := bindE hF
     refine WH.tk 2 rfl hP hSW25 (pr_index (e := ty_63) Tryd.underlying28 rfl rfl rfl h0_0 hu26 ?_)
     rintro p27 _ rfl hp28
     refine WH.tk 3 rfl hP hSW25 (pr_load_p (vs := [(.int .i64 u26.1), (.int .i64 u26.2)]) (v := (.agg #[(.int .i64 u26.1), (.int .i64 u26.2)])) tf_63 rfl rfl (hp28.kx hB23 (by simp)) rfl rfl (WH.tk 4 rfl hP hSW25 (pr_move rfl rfl (WH.tk 5 rfl hP hSW25 (pr_move rfl rfl ?_)))))
     obtain ⟨u29, hu29, hF⟩ := bindE hF
     refine WH.tk 6 rfl hP hSW25 (pr_index (e := ty_63) Tryd.underlying28 rfl rfl rfl h1_0 hu29 ?_)
     rintro p30 _ rfl hp31
     refine WH.tk 7 rfl hP hSW25 (pr_load_p (vs := [(.int .i64 u29.1), (.int .i64 u29.2)]) (v := (.agg #[(.int .i64 u29.1), (.int .i64 u29.2)])) tf_63 rfl rfl (hp31.kx hB23 (by simp)) rfl rfl (WH.tk 8 rfl hP hSW25 (pr_nes Tryd.eqGuardType63 (eq_63 u26 u29) rfl rfl rfl (WH.done (by kernel_rfl) (fun a ha => hK20 _ _ (W.cond rfl (fun h32 => ?_) (fun h32 => ?_)) a ha)))))
     ·replace hF := ifP h32 hF
      refine W.seq fun K33 hK33 => W.region (wl_assign rfl rfl (WL.nil (fun a ha => hK33 _ _ (W.ret ?_) a ha)))
      have hr := Option.some.inj hF
      subst hr
      exact rets (vs := [(.bool false)]) hQ rfl ⟨rv_tmp rfl, trivial⟩ ⟨rfl, hB23⟩
     ·replace hF := ifN h32 hF
      refine W.skip fun a ha => hK18 _ _ (W.region (wl_add rfl rfl rfl (wl_move rfl rfl (WL.nil ?_)))) a ha
      rw [hnx12] at hF
      exact fun a ha => hKL13 a _ m14 (Nat.lt_succ_self m14) ⟨(w64 (y11 + 1)), ha.sub ⟨rfl, rfl, rfl, rfl, trivial⟩, hB23, (hS24.sel [] rfl), hF⟩
    ·replace hF := ifN h17 hF
     refine W.exit fun a ha => hK6 _ _ (W.seq fun K34 hK34 => (W.region (wl_assign rfl rfl (WL.nil (fun a ha => hK34 _ _ (W.ret ?_) a ha))))) a ha
     have hr := Option.some.inj hF
     subst hr
     exact rets (vs := [(.bool true)]) hQ rfl ⟨rv_tmp rfl, trivial⟩ ⟨rfl, hB9⟩
end Go.Proofs.YtejhnpimhjmpdaaDoor
