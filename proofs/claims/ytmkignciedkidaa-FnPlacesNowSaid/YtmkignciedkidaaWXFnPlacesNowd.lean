/-
  THE WALKS of functions of this seat, by program (gen.py, prune.py).
-/
import Derived.Test.YtmkignciedkidaaWXFnPlacesNowc
set_option linter.unusedSimpArgs false
set_option linter.unusedVariables false
set_option maxRecDepth 100000
set_option maxHeartbeats 1600000
namespace Go.Proofs.Ytmkignciedkidaa
open Go Go.RowKit
theorem C_spec_l1Cur__march__mut__box (w0 : World) (x0 : ((List Int) × Int × Int)) (b0 : Nat) (v0_0 : Value) (h0_0 : rdS ty_5 (Out (fps [R.blk b0 131 [v0_0, (.int .i64 x0.2.1), (.int .u64 x0.2.2)]]) w0) w0 v0_0 x0.1) (hS0 : Sep 0 w0 [R.blk b0 131 [v0_0, (.int .i64 x0.2.1), (.int .u64 x0.2.2)]]) (r : ((((List (List (Int × Int))) × (List Int) × Int × Int) × Int × (List Int) × (List Int)) × ((List Int) × Int × Int))) (hF : F_spec_l1Cur__march__mut__box x0 = some r) :
  Calls Try.prog 245 [(.pointer (some ⟨b0, 0, none⟩))].toArray w0 fun e w' => ∃ (q0 : Value) (G0 : List Nat) (q1 : Value) (G1 : List Nat) (q2 : Value) (G2 : List Nat) (q3 : Value) (G3 : List Nat), e = .returned (.agg #[q0, q1, (.int .i64 r.1.1.2.2.1), (.int .i64 r.1.1.2.2.2), (.int .i64 r.1.2.1), q2, q3]) ∧ Below 0 (wE w0) w' ∧ Sep 0 w' [R.rest w0 (fps [R.blk b0 131 [v0_0, (.int .i64 x0.2.1), (.int .u64 x0.2.2)]]), R.blk b0 131 [v0_0, (.int .i64 r.2.2.1), (.int .u64 r.2.2.2)], R.own ty_63 G0 q0 r.1.1.1, R.own ty_3 G1 q1 r.1.1.2.1, R.own ty_3 G2 q2 r.1.2.2.1, R.own ty_3 G3 q3 r.1.2.2.2] := by
 refine calls_mk' Try.func245 rfl Try.ntmps245 rfl rfl fun Q hQ hP => ?_
 have hB : Below (wE w0).heap.size (wE w0) w0 := wE_below w0
 have hS : Sep (wE w0).heap.size w0 [R.rest w0 (fps [R.blk b0 131 [v0_0, (.int .i64 x0.2.1), (.int .u64 x0.2.2)]]), R.blk b0 131 [v0_0, (.int .i64 x0.2.1), (.int .u64 x0.2.2)]] := hS0.rest
 unfold F_spec_l1Cur__march__mut__box at hF
 refine W.seq fun K1 hK1 => W.region (wl_alloc (cs := [(.slice none 0 0), (.slice none 0 0), (.int .i64 0), (.int .i64 0), (.int .i64 0), (.slice none 0 0), (.slice none 0 0)]) tf_102 rfl rfl hB hS ?_)
 intro b2 w3 hb4 hB5 hS6
 refine WL.nil fun a ha => hK1 _ _ (W.seq fun K7 hK7 => (W.region (wl_move rfl rfl ?_))) a ha
 obtain ⟨u8, hu8, hF⟩ := bindE hF
 refine wl_call rfl Try.call149 (C_spec_l1Cur__show__mut__box w3 x0 b0 v0_0 (h0_0.rsto (hS6.sel [1, 2] rfl)) (hS6.sel [2] rfl).base0 _ hu8) rfl ?_
 rintro _ w9 ⟨v14, F15, v16, F17, rfl, hE10, hM11⟩
 refine ⟨_, rfl, ?_⟩
 have hB12 := hS6.takeB [2] rfl (M := [R.blk b0 131 [v0_0, (.int .i64 x0.2.1), (.int .u64 x0.2.2)]]) rfl hB5 hE10 hM11
 have hS13 : Sep (wE w0).heap.size w9 [R.blk b0 131 [v0_0, (.int .i64 u8.2.2.1), (.int .u64 u8.2.2.2)], R.own ty_63 F15 v14 u8.1.1, R.own ty_3 F17 v16 u8.1.2.1, R.blk b2 102 [(.slice none 0 0), (.slice none 0 0), (.int .i64 0), (.int .i64 0), (.int .i64 0), (.slice none 0 0), (.slice none 0 0)], R.rest w0 (fps [R.blk b0 131 [v0_0, (.int .i64 x0.2.1), (.int .u64 x0.2.2)]])] := hS6.take [2] [0, 1] rfl (M := [R.blk b0 131 [v0_0, (.int .i64 x0.2.1), (.int .u64 x0.2.2)]]) rfl hM11 hB5.size
 refine wl_alloc (cs := [(.slice none 0 0), (.slice none 0 0), (.int .i64 0), (.int .i64 0)]) tf_53 rfl rfl hB12 hS13 ?_
 intro b18 w19 hb20 hB21 hS22
 refine wl_store_blk (i := 0) (vs := [v14, v16, (.int .i64 u8.1.2.2.1), (.int .i64 u8.1.2.2.2)]) (cs' := [v14, v16, (.int .i64 u8.1.2.2.1), (.int .i64 u8.1.2.2.2)]) tf_53 rfl rfl rfl rfl hB21 hS22 rfl rfl ⟨(hS22.own_ro (i := 2) rfl).one, (hS22.own_ro (i := 3) rfl).one, rfl, rfl, trivial⟩ rfl ?_
 intro w23 hk26 hB24 hS25
 refine WL.nil fun a ha => hK7 _ _ (W.seq fun K27 hK27 => (W.region (wl_load_blk (i := 0) (vs := [v14, v16, (.int .i64 u8.1.2.2.1), (.int .i64 u8.1.2.2.2)]) (v := (.agg #[v14, v16, (.int .i64 u8.1.2.2.1), (.int .i64 u8.1.2.2.2)])) tf_53 rfl rfl hS25 rfl rfl rfl ?_))) a ha
 obtain ⟨u28, hu28, hF⟩ := bindE hF
 refine wl_call rfl Try.call265 (C_spec_NewMarch w23 u8.1 v14 (hS25.own_ro (i := 2) rfl) v16 (hS25.own_ro (i := 3) rfl) _ hu28) rfl ?_
 rintro _ w37 ⟨v29, F30, v31, F32, v33, F34, v35, F36, rfl, hb38, hM41⟩
 refine ⟨_, rfl, ?_⟩
 have hB39 := hB24.trans (hb38.mono hB24.size)
 have hS40 := hS25.join hb38 hM41 hB24.size
 refine wl_move rfl rfl (wl_extract rfl rfl rfl (wl_extract rfl rfl rfl (wl_alloc (cs := [(.slice none 0 0), (.slice none 0 0), (.int .i64 0), (.int .i64 0), (.int .i64 0), (.slice none 0 0), (.slice none 0 0)]) tf_102 rfl rfl hB39 hS40 ?_)))
 intro b42 w43 hb44 hB45 hS46
 refine wl_store_blk (i := 0) (vs := [v29, v31, (.int .i64 u28.1.1.2.2.1), (.int .i64 u28.1.1.2.2.2), (.int .i64 u28.1.2.1), v33, v35]) (cs' := [v29, v31, (.int .i64 u28.1.1.2.2.1), (.int .i64 u28.1.1.2.2.2), (.int .i64 u28.1.2.1), v33, v35]) tf_102 rfl rfl rfl rfl hB45 hS46 rfl rfl ⟨(hS46.own_ro (i := 1) rfl).one, (hS46.own_ro (i := 2) rfl).one, rfl, rfl, rfl, (hS46.own_ro (i := 3) rfl).one, (hS46.own_ro (i := 4) rfl).one, trivial⟩ rfl ?_
 intro w47 hk50 hB48 hS49
 refine wl_assign rfl rfl (WL.nil (fun a ha => hK27 _ _ (W.seq fun K51 hK51 => (W.seq fun K52 hK52 => (W.region (wl_move rfl rfl (wl_not rfl rfl (WL.nil (fun a ha => hK52 _ _ (W.cond rfl (fun h53 => ?_) (fun h53 => ?_)) a ha))))))) a ha))
 ·replace hF := ifP h53 hF
  refine W.seq fun K54 hK54 => W.region (wl_load_blk (i := 5) (vs := [v14, v16, (.int .i64 u8.1.2.2.1), (.int .i64 u8.1.2.2.2)]) (v := (.agg #[v14, v16, (.int .i64 u8.1.2.2.1), (.int .i64 u8.1.2.2.2)])) tf_53 rfl rfl hS49 rfl rfl rfl (wl_build (zs := [(.slice none 0 0), (.slice none 0 0), (.int .i64 0), (.int .i64 0), (.int .i64 0), (.slice none 0 0), (.slice none 0 0)]) (out := [v14, v16, (.int .i64 u8.1.2.2.1), (.int .i64 u8.1.2.2.2), (.int .i64 0), (.slice none 0 0), (.slice none 0 0)]) (vs := [(.agg #[v14, v16, (.int .i64 u8.1.2.2.1), (.int .i64 u8.1.2.2.2)])]) (css := [[v14, v16, (.int .i64 u8.1.2.2.1), (.int .i64 u8.1.2.2.2)]]) tf_102 pl_102 rfl rfl rfl rfl rfl ?_))
  refine wl_store_blk (i := 9) (vs := [v14, v16, (.int .i64 u8.1.2.2.1), (.int .i64 u8.1.2.2.2), (.int .i64 0), (.slice none 0 0), (.slice none 0 0)]) (cs' := [v14, v16, (.int .i64 u8.1.2.2.1), (.int .i64 u8.1.2.2.2), (.int .i64 0), (.slice none 0 0), (.slice none 0 0)]) tf_102 rfl rfl rfl rfl hB48 hS49 rfl rfl ⟨(hS49.own_ro (i := 7) rfl).one, (hS49.own_ro (i := 8) rfl).one, rfl, rfl, rfl, rfl, rfl, trivial⟩ rfl ?_
  intro w55 hk58 hB56 hS57
  refine WL.nil fun a ha => hK54 _ _ (W.ret ?_) a ha
  have hS59 := hS57.push0 (r := R.own ty_3 [] (.slice none 0 0) []) rfl fun _ => .inl ⟨rfl, rfl, rfl⟩
  have hS60 := hS59.push0 (r := R.own ty_3 [] (.slice none 0 0) []) rfl fun _ => .inl ⟨rfl, rfl, rfl⟩
  have hr := Option.some.inj hF
  subst hr
  exact rets (vs := [(.agg #[v14, v16, (.int .i64 u8.1.2.2.1), (.int .i64 u8.1.2.2.2), (.int .i64 0), (.slice none 0 0), (.slice none 0 0)])]) hQ rfl ⟨rv_cell (i := 9) tf_102 rfl hS57 rfl rfl rfl, trivial⟩ ⟨v14, F15, v16, F17, (.slice none 0 0), [], (.slice none 0 0), [], rfl, hB56, hS60.sel [12, 8, 9, 10, 1, 0] rfl⟩
 ·replace hF := ifN h53 hF
  refine W.skip fun a ha => hK51 _ _ (W.seq fun K61 hK61 => (W.seq fun K62 hK62 => (W.region (wl_move rfl rfl (wl_field (o := 6) (off' := 6) ff_102_3 rfl rfl rfl (wl_load_blk (i := 0) (vs := [v35]) (v := v35) tf_29 rfl rfl hS49 rfl rfl rfl (wl_lenr (e := ty_3) (l := u28.1.2.2.2) Try.underlying29 rfl rfl (hS49.own_ro (i := 4) rfl) ?_))))))) a ha
  obtain ⟨u63, hu63, hF⟩ := bindE hF
  refine wl_call rfl Try.call266 (C_spec_l1Cur__beats__mut__box w47 (x0.1, u8.2.2.1, u8.2.2.2) b0 v0_0 (h0_0.rsto (hS49.sel [10, 6] rfl)) (List.length u28.1.2.2.2 : Int) (hS49.sel [6] rfl).base0 _ hu63) rfl ?_
  rintro _ w65 ⟨v70, F71, rfl, hE66, hM67⟩
  refine ⟨_, rfl, ?_⟩
  have hB68 := hS49.takeB [6] rfl (M := [R.blk b0 131 [v0_0, (.int .i64 u8.2.2.1), (.int .u64 u8.2.2.2)]]) rfl hB48 hE66 hM67
  have hS69 : Sep (wE w0).heap.size w65 [R.blk b0 131 [v0_0, (.int .i64 u63.2.2.1), (.int .u64 u63.2.2.2)], R.own ty_219 F71 v70 u63.1, R.blk b42 102 [v29, v31, (.int .i64 u28.1.1.2.2.1), (.int .i64 u28.1.1.2.2.2), (.int .i64 u28.1.2.1), v33, v35], R.own ty_63 F30 v29 u28.1.1.1, R.own ty_3 F32 v31 u28.1.1.2.1, R.own ty_3 F34 v33 u28.1.2.2.1, R.own ty_3 F36 v35 u28.1.2.2.2, R.blk b18 53 [v14, v16, (.int .i64 u8.1.2.2.1), (.int .i64 u8.1.2.2.2)], R.own ty_63 F15 v14 u8.1.1, R.own ty_3 F17 v16 u8.1.2.1, R.blk b2 102 [(.slice none 0 0), (.slice none 0 0), (.int .i64 0), (.int .i64 0), (.int .i64 0), (.slice none 0 0), (.slice none 0 0)], R.rest w0 (fps [R.blk b0 131 [v0_0, (.int .i64 x0.2.1), (.int .u64 x0.2.2)]])] := hS49.take [6] [0, 1, 2, 3, 4, 5, 7, 8, 9, 10] rfl (M := [R.blk b0 131 [v0_0, (.int .i64 u8.2.2.1), (.int .u64 u8.2.2.2)]]) rfl hM67 hB48.size
  refine wl_lenr (e := ty_219) (l := u63.1) Try.underlying216 rfl rfl (hS69.own_ro (i := 1) rfl) (wl_move rfl rfl (WL.nil (fun a ha => hK62 _ _ (W.block ?_) a ha)))
  refine W.loopk (fun m a w72 => ∃ (l75 : (List (List (Int × Int)))) (l78 : (List Int)) (y81 : Int) (y82 : Int) (y83 : Int) (l84 : (List Int)) (l87 : (List Int)) (y90 : Int) (v76 : Value) (F77 : List Nat) (v79 : Value) (F80 : List Nat) (v85 : Value) (F86 : List Nat) (v88 : Value) (F89 : List Nat), St 91 [(0, (.pointer (some ⟨b0, 0, none⟩))), (2, (.pointer (some ⟨b2, 0, none⟩))), (4, (.pointer (some ⟨b42, 0, none⟩))), (25, v70), (26, (.int .i64 (List.length u63.1 : Int))), (27, (.int .i64 y90))] a ∧ Below (wE w0).heap.size (wE w0) w72 ∧ Sep (wE w0).heap.size w72 [R.rest w0 (fps [R.blk b0 131 [v0_0, (.int .i64 x0.2.1), (.int .u64 x0.2.2)]]), R.blk b0 131 [v0_0, (.int .i64 u63.2.2.1), (.int .u64 u63.2.2.2)], R.blk b2 102 [(.slice none 0 0), (.slice none 0 0), (.int .i64 0), (.int .i64 0), (.int .i64 0), (.slice none 0 0), (.slice none 0 0)], R.own ty_63 F77 v76 l75, R.own ty_3 F80 v79 l78, R.own ty_3 F86 v85 l84, R.own ty_3 F89 v88 l87, R.blk b42 102 [v76, v79, (.int .i64 y81), (.int .i64 y82), (.int .i64 y83), v85, v88], R.own ty_219 F71 v70 u63.1] ∧ F_spec_l1Cur__march__mut__box_L1 u63 x0 m l75 l78 y81 y82 y83 l84 l87 y90 = some r) FU ?_ ?_
  ·
   exact fun a ha => ⟨u28.1.1.1, u28.1.1.2.1, u28.1.1.2.2.1, u28.1.1.2.2.2, u28.1.2.1, u28.1.2.2.1, u28.1.2.2.2, 0, v29, F30, v31, F32, v33, F34, v35, F36, ha.sub ⟨rfl, rfl, rfl, rfl, rfl, rfl, trivial⟩, hB68, (hS69.sel [11, 0, 10, 3, 4, 5, 6, 2, 1] rfl), hF⟩
  ·
   rintro m93 a w72 ⟨l75, l78, y81, y82, y83, l84, l87, y90, v76, F77, v79, F80, v85, F86, v88, F89, ha, hB73, hS74, hF⟩ KL92 hKL92
   refine W.at ?_ ha
   cases m93 with
   | zero => exact noneE hF
   | succ m93 =>
    obtain ⟨nx91, hnx91⟩ : ∃ k, k = F_spec_l1Cur__march__mut__box_L1 u63 x0 m93 := ⟨_, rfl⟩
    rw [F_spec_l1Cur__march__mut__box_L1, ← hnx91] at hF
    refine W.seq fun K94 hK94 => W.region (wl_lss rfl rfl rfl (WL.nil (fun a ha => hK94 _ _ (W.seq fun K95 hK95 => (W.cond rfl (fun h96 => ?_) (fun h96 => ?_))) a ha)))
    ·replace hF := ifP h96 hF
     refine W.skip fun a ha => hK95 _ _ (W.seq fun K97 hK97 => ?_) a ha
     obtain ⟨k116, hk116, hF⟩ := jE7 hF
     have hJ117 : ∀ (l101 : (List (List (Int × Int)))) (l104 : (List Int)) (y107 : Int) (y108 : Int) (y109 : Int) (l110 : (List Int)) (l113 : (List Int)) (v102 : Value) (F103 : List Nat) (v105 : Value) (F106 : List Nat) (v111 : Value) (F112 : List Nat) (v114 : Value) (F115 : List Nat) (w98 : World) (_ : k116 l101 l104 y107 y108 y109 l110 l113 = some r) (_ : Below (wE w0).heap.size (wE w0) w98) (_ : Sep (wE w0).heap.size w98 [R.rest w0 (fps [R.blk b0 131 [v0_0, (.int .i64 x0.2.1), (.int .u64 x0.2.2)]]), R.blk b0 131 [v0_0, (.int .i64 u63.2.2.1), (.int .u64 u63.2.2.2)], R.blk b2 102 [(.slice none 0 0), (.slice none 0 0), (.int .i64 0), (.int .i64 0), (.int .i64 0), (.slice none 0 0), (.slice none 0 0)], R.own ty_63 F103 v102 l101, R.own ty_3 F106 v105 l104, R.own ty_3 F112 v111 l110, R.own ty_3 F115 v114 l113, R.blk b42 102 [v102, v105, (.int .i64 y107), (.int .i64 y108), (.int .i64 y109), v111, v114], R.own ty_219 F71 v70 u63.1]), ∀ a, St 91 [(0, (.pointer (some ⟨b0, 0, none⟩))), (2, (.pointer (some ⟨b2, 0, none⟩))), (4, (.pointer (some ⟨b42, 0, none⟩))), (25, v70), (26, (.int .i64 (List.length u63.1 : Int))), (27, (.int .i64 y90))] a → K97 a w98 := by
      intro l101 l104 y107 y108 y109 l110 l113 v102 F103 v105 F106 v111 F112 v114 F115 w98 hF hB99 hS100
      subst hk116
      refine fun a ha => hK97 _ _ (W.region (wl_add rfl rfl rfl (wl_move rfl rfl (WL.nil ?_)))) a ha
      rw [hnx91] at hF
      exact fun a ha => hKL92 a _ m93 (Nat.lt_succ_self m93) ⟨l101, l104, y107, y108, y109, l110, l113, (w64 (y90 + 1)), v102, F103, v105, F106, v111, F112, v114, F115, ha.sub ⟨rfl, rfl, rfl, rfl, rfl, rfl, trivial⟩, hB99, (hS100.sel [0, 1, 2, 3, 4, 5, 6, 7, 8] rfl), hF⟩
     refine W.block (W.seq fun K118 hK118 => (W.region ?_))
     obtain ⟨u119, hu119, hF⟩ := bindE hF
     refine wl_indexoF (e := ty_219) (i := 8) Try.underlying216 rfl rfl rfl hS74 rfl hu119 ?_
     rintro p120 _ rfl hp121 ho122
     refine wl_load_p (vs := [(.int .i64 u119.1), (.int .i64 u119.2)]) (v := (.agg #[(.int .i64 u119.1), (.int .i64 u119.2)])) tf_219 rfl rfl hp121 rfl rfl (wl_alloc (cs := [(.int .i64 0), (.int .i64 0)]) tf_219 rfl rfl hB73 hS74 ?_)
     intro b123 w124 hb125 hB126 hS127
     have hp121 := hp121.keepS (fun b hb => hb125.block b (((hS74.get (i := 8) rfl).2.1 b hb).2)) (fun _ h => h)
     refine wl_store_blk (i := 0) (vs := [(.int .i64 u119.1), (.int .i64 u119.2)]) (cs' := [(.int .i64 u119.1), (.int .i64 u119.2)]) tf_219 rfl rfl rfl rfl hB126 hS127 rfl rfl ⟨rfl, rfl, trivial⟩ rfl ?_
     intro w128 hk131 hB129 hS130
     have hp121 := hp121.keepS (fun b hb => hk131.2.1 b (((hS127.get (i := 9) rfl).2.1 b hb).2) (hS127.disj (i := 9) (j := 0) rfl rfl rfl b hb)) (fun _ h => h)
     refine WL.nil fun a ha => hK118 _ _ (W.seq fun K132 hK132 => (W.region (wl_load_blk (i := 8) (vs := [v76, v79, (.int .i64 y81), (.int .i64 y82), (.int .i64 y83), v85, v88]) (v := (.agg #[v76, v79, (.int .i64 y81), (.int .i64 y82), (.int .i64 y83), v85, v88])) tf_102 rfl rfl hS130 rfl rfl rfl (wl_load_blk (i := 0) (vs := [(.int .i64 u119.1), (.int .i64 u119.2)]) (v := (.agg #[(.int .i64 u119.1), (.int .i64 u119.2)])) tf_219 rfl rfl hS130 rfl rfl rfl ?_)))) a ha
     obtain ⟨u133, hu133, hF⟩ := bindE hF
     refine wl_call rfl Try.call267 (C_spec_mnStep w128 ((l75, l78, y81, y82), y83, l84, l87) v76 (hS130.own_ro (i := 4) rfl) v79 (hS130.own_ro (i := 5) rfl) v85 (hS130.own_ro (i := 6) rfl) v88 (hS130.own_ro (i := 7) rfl) u119 _ hu133) rfl ?_
     rintro _ w142 ⟨v134, F135, v136, F137, v138, F139, v140, F141, rfl, hb143, hM146⟩
     refine ⟨_, rfl, ?_⟩
     have hB144 := hB129.trans (hb143.mono hB129.size)
     have hS145 := hS130.join hb143 hM146 hB129.size
     have hp121 := hp121.keepS (fun b hb => hb143.block b (((hS130.get (i := 9) rfl).2.1 b hb).2)) (fun _ h => h)
     refine wl_move rfl rfl (wl_extract rfl rfl rfl (wl_extract rfl rfl rfl (wl_alloc (cs := [(.slice none 0 0), (.slice none 0 0), (.int .i64 0), (.int .i64 0), (.int .i64 0), (.slice none 0 0), (.slice none 0 0)]) tf_102 rfl rfl hB144 hS145 ?_)))
     intro b147 w148 hb149 hB150 hS151
     have hp121 := hp121.keepS (fun b hb => hb149.block b (((hS145.get (i := 13) rfl).2.1 b hb).2)) (fun _ h => h)
     refine wl_store_blk (i := 0) (vs := [v134, v136, (.int .i64 u133.1.1.2.2.1), (.int .i64 u133.1.1.2.2.2), (.int .i64 u133.1.2.1), v138, v140]) (cs' := [v134, v136, (.int .i64 u133.1.1.2.2.1), (.int .i64 u133.1.1.2.2.2), (.int .i64 u133.1.2.1), v138, v140]) tf_102 rfl rfl rfl rfl hB150 hS151 rfl rfl ⟨(hS151.own_ro (i := 1) rfl).one, (hS151.own_ro (i := 2) rfl).one, rfl, rfl, rfl, (hS151.own_ro (i := 3) rfl).one, (hS151.own_ro (i := 4) rfl).one, trivial⟩ rfl ?_
     intro w152 hk155 hB153 hS154
     have hp121 := hp121.keepS (fun b hb => hk155.2.1 b (((hS151.get (i := 14) rfl).2.1 b hb).2) (hS151.disj (i := 14) (j := 0) rfl rfl rfl b hb)) (fun _ h => h)
     refine wl_assign rfl rfl (WL.nil (fun a ha => hK132 _ _ (W.seq fun K156 hK156 => (W.region (wl_move rfl rfl (WL.nil (fun a ha => hK156 _ _ (W.cond rfl (fun h157 => ?_) (fun h157 => ?_)) a ha))))) a ha))
     ·replace hF := ifP h157 hF
      refine W.region (wl_load_blk (i := 0) (vs := [v134, v136, (.int .i64 u133.1.1.2.2.1), (.int .i64 u133.1.1.2.2.2), (.int .i64 u133.1.2.1), v138, v140]) (v := (.agg #[v134, v136, (.int .i64 u133.1.1.2.2.1), (.int .i64 u133.1.1.2.2.2), (.int .i64 u133.1.2.1), v138, v140])) tf_102 rfl rfl hS154 rfl rfl rfl (wl_store_blk (i := 13) (vs := [v134, v136, (.int .i64 u133.1.1.2.2.1), (.int .i64 u133.1.1.2.2.2), (.int .i64 u133.1.2.1), v138, v140]) (cs' := [v134, v136, (.int .i64 u133.1.1.2.2.1), (.int .i64 u133.1.1.2.2.2), (.int .i64 u133.1.2.1), v138, v140]) tf_102 rfl rfl rfl rfl hB153 hS154 rfl rfl ⟨(hS154.own_ro (i := 1) rfl).one, (hS154.own_ro (i := 2) rfl).one, rfl, rfl, rfl, (hS154.own_ro (i := 3) rfl).one, (hS154.own_ro (i := 4) rfl).one, trivial⟩ rfl ?_))
      intro w158 hk161 hB159 hS160
      have hp121 := hp121.keepS (fun b hb => hk161.2.1 b (((hS154.get (i := 14) rfl).2.1 b hb).2) (hS154.disj (i := 14) (j := 13) rfl rfl rfl b hb)) (fun _ h => h)
      refine WL.nil ?_
      exact fun a ha => hJ117 (u133.1.1.1) (u133.1.1.2.1) (u133.1.1.2.2.1) (u133.1.1.2.2.2) (u133.1.2.1) (u133.1.2.2.1) (u133.1.2.2.2) (v134) (F135) (v136) (F137) (v138) (F139) (v140) (F141) _ hF hB159 (hS160.sel [6, 7, 8, 1, 2, 3, 4, 13, 14] rfl) a (ha.sub ⟨rfl, rfl, rfl, rfl, rfl, rfl, trivial⟩)
     ·replace hF := ifN h157 hF
      refine W.skip ?_
      exact fun a ha => hJ117 (l75) (l78) (y81) (y82) (y83) (l84) (l87) (v76) (F77) (v79) (F80) (v85) (F86) (v88) (F89) _ hF hB153 (hS154.sel [6, 7, 8, 9, 10, 11, 12, 13, 14] rfl) a (ha.sub ⟨rfl, rfl, rfl, rfl, rfl, rfl, trivial⟩)
    ·replace hF := ifN h96 hF
     refine W.exit fun a ha => hK61 _ _ (W.seq fun K162 hK162 => (W.region (wl_load_blk (i := 7) (vs := [v76, v79, (.int .i64 y81), (.int .i64 y82), (.int .i64 y83), v85, v88]) (v := (.agg #[v76, v79, (.int .i64 y81), (.int .i64 y82), (.int .i64 y83), v85, v88])) tf_102 rfl rfl hS74 rfl rfl rfl ?_))) a ha
     obtain ⟨u163, hu163, hF⟩ := bindE hF
     refine wl_call rfl Try.call268 (C_spec_mnOwn w72 ((l75, l78, y81, y82), y83, l84, l87) v76 (hS74.own_ro (i := 3) rfl) v79 (hS74.own_ro (i := 4) rfl) v85 (hS74.own_ro (i := 5) rfl) v88 (hS74.own_ro (i := 6) rfl) _ hu163) rfl ?_
     rintro _ w172 ⟨v164, F165, v166, F167, v168, F169, v170, F171, rfl, hb173, hM176⟩
     refine ⟨_, rfl, ?_⟩
     have hB174 := hB73.trans (hb173.mono hB73.size)
     have hS175 := hS74.join hb173 hM176 hB73.size
     refine wl_store_blk (i := 11) (vs := [v164, v166, (.int .i64 u163.1.2.2.1), (.int .i64 u163.1.2.2.2), (.int .i64 u163.2.1), v168, v170]) (cs' := [v164, v166, (.int .i64 u163.1.2.2.1), (.int .i64 u163.1.2.2.2), (.int .i64 u163.2.1), v168, v170]) tf_102 rfl rfl rfl rfl hB174 hS175 rfl rfl ⟨(hS175.own_ro (i := 0) rfl).one, (hS175.own_ro (i := 1) rfl).one, rfl, rfl, rfl, (hS175.own_ro (i := 2) rfl).one, (hS175.own_ro (i := 3) rfl).one, trivial⟩ rfl ?_
     intro w177 hk180 hB178 hS179
     refine WL.nil fun a ha => hK162 _ _ (W.seq fun K181 hK181 => ?_) a ha
     obtain ⟨k194, hk194, hF⟩ := jE5 hF
     have hJ195 : ∀ (y185 : Int) (y186 : Int) (y187 : Int) (l188 : (List Int)) (l191 : (List Int)) (v189 : Value) (F190 : List Nat) (v192 : Value) (F193 : List Nat) (w182 : World) (_ : k194 y185 y186 y187 l188 l191 = some r) (_ : Below (wE w0).heap.size (wE w0) w182) (_ : Sep (wE w0).heap.size w182 [R.rest w0 (fps [R.blk b0 131 [v0_0, (.int .i64 x0.2.1), (.int .u64 x0.2.2)]]), R.blk b0 131 [v0_0, (.int .i64 y185), (.int .u64 y186)], R.blk b2 102 [(.slice none 0 0), (.slice none 0 0), (.int .i64 0), (.int .i64 0), (.int .i64 0), (.slice none 0 0), (.slice none 0 0)], R.own ty_63 F165 v164 u163.1.1, R.own ty_3 F167 v166 u163.1.2.1, R.own ty_3 F190 v189 l188, R.own ty_3 F193 v192 l191, R.blk b42 102 [v164, v166, (.int .i64 u163.1.2.2.1), (.int .i64 u163.1.2.2.2), (.int .i64 y187), v189, v192]]), ∀ a, St 91 [(2, (.pointer (some ⟨b2, 0, none⟩))), (4, (.pointer (some ⟨b42, 0, none⟩)))] a → K181 a w182 := by
      intro y185 y186 y187 l188 l191 v189 F190 v192 F193 w182 hF hB183 hS184
      subst hk194
      refine fun a ha => hK181 _ _ (W.seq fun K196 hK196 => (W.region (wl_load_blk (i := 7) (vs := [v164, v166, (.int .i64 u163.1.2.2.1), (.int .i64 u163.1.2.2.2), (.int .i64 y187), v189, v192]) (v := (.agg #[v164, v166, (.int .i64 u163.1.2.2.1), (.int .i64 u163.1.2.2.2), (.int .i64 y187), v189, v192])) tf_102 rfl rfl hS184 rfl rfl rfl (wl_store_blk (i := 2) (vs := [v164, v166, (.int .i64 u163.1.2.2.1), (.int .i64 u163.1.2.2.2), (.int .i64 y187), v189, v192]) (cs' := [v164, v166, (.int .i64 u163.1.2.2.1), (.int .i64 u163.1.2.2.2), (.int .i64 y187), v189, v192]) tf_102 rfl rfl rfl rfl hB183 hS184 rfl rfl ⟨(hS184.own_ro (i := 3) rfl).one, (hS184.own_ro (i := 4) rfl).one, rfl, rfl, rfl, (hS184.own_ro (i := 5) rfl).one, (hS184.own_ro (i := 6) rfl).one, trivial⟩ rfl ?_)))) a ha
      intro w197 hk200 hB198 hS199
      refine WL.nil fun a ha => hK196 _ _ (W.ret ?_) a ha
      have hr := Option.some.inj hF
      subst hr
      exact rets (vs := [(.agg #[v164, v166, (.int .i64 u163.1.2.2.1), (.int .i64 u163.1.2.2.2), (.int .i64 y187), v189, v192])]) hQ rfl ⟨rv_cell (i := 2) tf_102 rfl hS199 rfl rfl rfl, trivial⟩ ⟨v164, F165, v166, F167, v189, F190, v192, F193, rfl, hB198, hS199.sel [0, 1, 3, 4, 5, 6] rfl⟩
     refine W.seq fun K201 hK201 => W.region (wl_move rfl rfl ?_)
     obtain ⟨u202, hu202, hF⟩ := bindE hF
     refine wl_call rfl Try.call132 (C_spec_l1Cur__pick__mut__box w177 (x0.1, u63.2.2.1, u63.2.2.2) b0 v0_0 (h0_0.rsto (hS179.sel [4, 5] rfl)) 30 (hS179.sel [5] rfl).base0 _ hu202) rfl ?_
     rintro _ w203 ⟨rfl, hE204, hM205⟩
     refine ⟨_, rfl, ?_⟩
     have hB206 := hS179.takeB [5] rfl (M := [R.blk b0 131 [v0_0, (.int .i64 u63.2.2.1), (.int .u64 u63.2.2.2)]]) rfl hB178 hE204 hM205
     have hS207 : Sep (wE w0).heap.size w203 [R.blk b0 131 [v0_0, (.int .i64 u202.2.2.1), (.int .u64 u202.2.2.2)], R.own ty_63 F165 v164 u163.1.1, R.own ty_3 F167 v166 u163.1.2.1, R.own ty_3 F169 v168 u163.2.2.1, R.own ty_3 F171 v170 u163.2.2.2, R.rest w0 (fps [R.blk b0 131 [v0_0, (.int .i64 x0.2.1), (.int .u64 x0.2.2)]]), R.blk b2 102 [(.slice none 0 0), (.slice none 0 0), (.int .i64 0), (.int .i64 0), (.int .i64 0), (.slice none 0 0), (.slice none 0 0)], R.own ty_63 F77 v76 l75, R.own ty_3 F80 v79 l78, R.own ty_3 F86 v85 l84, R.own ty_3 F89 v88 l87, R.blk b42 102 [v164, v166, (.int .i64 u163.1.2.2.1), (.int .i64 u163.1.2.2.2), (.int .i64 u163.2.1), v168, v170], R.own ty_219 F71 v70 u63.1] := hS179.take [5] [0, 1, 2, 3, 4, 6, 7, 8, 9, 10, 11, 12] rfl (M := [R.blk b0 131 [v0_0, (.int .i64 u63.2.2.1), (.int .u64 u63.2.2.2)]]) rfl hM205 hB178.size
     refine WL.nil fun a ha => hK201 _ _ (W.block (W.seq fun K208 hK208 => (W.region (wl_eql rfl rfl rfl (wl_assign rfl rfl (WL.nil (fun a ha => hK208 _ _ (W.cond rfl (fun h209 => ?_) (fun h209 => ?_)) a ha))))))) a ha
     ·replace hF := ifP h209 hF
      refine W.region (wl_move rfl rfl (wl_lit (vs := [(.int .i64 (-1)), (.int .i64 0), (.int .i64 999), (.int .i64 1000), (.int .i64 1001)]) (l := [(-1), 0, 999, 1000, 1001]) fl_3 Try.underlying29 rfl rfl rfl rfl rfl rfl hB206 hS207 ?_))
      intro v210 F211 w212 hb213 hB214 hS215
      obtain ⟨u216, hu216, hF⟩ := bindE hF
      refine wl_call rfl Try.call136 (C_spec_l1Cur__among__mut__box w212 (x0.1, u202.2.2.1, u202.2.2.2) b0 v0_0 (h0_0.rsto (hS215.sel [6, 1] rfl)) [(-1), 0, 999, 1000, 1001] v210 (own_out (hS215.sel [0, 1] rfl)) (hS215.sel [1] rfl).base0 _ hu216) rfl ?_
      rintro _ w217 ⟨rfl, hE218, hM219⟩
      refine ⟨_, rfl, ?_⟩
      have hB220 := hS215.takeB [1] rfl (M := [R.blk b0 131 [v0_0, (.int .i64 u202.2.2.1), (.int .u64 u202.2.2.2)]]) rfl hB214 hE218 hM219
      have hS221 : Sep (wE w0).heap.size w217 [R.blk b0 131 [v0_0, (.int .i64 u216.2.2.1), (.int .u64 u216.2.2.2)], R.own ty_3 F211 v210 [(-1), 0, 999, 1000, 1001], R.own ty_63 F165 v164 u163.1.1, R.own ty_3 F167 v166 u163.1.2.1, R.own ty_3 F169 v168 u163.2.2.1, R.own ty_3 F171 v170 u163.2.2.2, R.rest w0 (fps [R.blk b0 131 [v0_0, (.int .i64 x0.2.1), (.int .u64 x0.2.2)]]), R.blk b2 102 [(.slice none 0 0), (.slice none 0 0), (.int .i64 0), (.int .i64 0), (.int .i64 0), (.slice none 0 0), (.slice none 0 0)], R.own ty_63 F77 v76 l75, R.own ty_3 F80 v79 l78, R.own ty_3 F86 v85 l84, R.own ty_3 F89 v88 l87, R.blk b42 102 [v164, v166, (.int .i64 u163.1.2.2.1), (.int .i64 u163.1.2.2.2), (.int .i64 u163.2.1), v168, v170], R.own ty_219 F71 v70 u63.1] := hS215.take [1] [0, 2, 3, 4, 5, 6, 7, 8, 9, 10, 11, 12, 13] rfl (M := [R.blk b0 131 [v0_0, (.int .i64 u202.2.2.1), (.int .u64 u202.2.2.2)]]) rfl hM219 hB214.size
      refine wl_field (o := 4) (off' := 4) ff_102_1 rfl rfl rfl (wl_store_blk (i := 12) (vs := [(.int .i64 u216.1)]) (cs' := [v164, v166, (.int .i64 u163.1.2.2.1), (.int .i64 u163.1.2.2.2), (.int .i64 u216.1), v168, v170]) tf_3 rfl rfl rfl rfl hB220 hS221 rfl rfl ⟨rfl, trivial⟩ rfl ?_)
      intro w222 hk225 hB223 hS224
      refine WL.nil ?_
      exact fun a ha => hJ195 (u216.2.2.1) (u216.2.2.2) (u216.1) (u163.2.2.1) (u163.2.2.2) (v168) (F169) (v170) (F171) _ hF hB223 (hS224.sel [6, 0, 7, 2, 3, 4, 5, 12] rfl) a (ha.sub ⟨rfl, rfl, trivial⟩)
     ·replace hF := ifN h209 hF
      refine W.seq fun K226 hK226 => W.region (wl_eql rfl rfl rfl (wl_assign rfl rfl (WL.nil (fun a ha => hK226 _ _ (W.cond rfl (fun h227 => ?_) (fun h227 => ?_)) a ha))))
      ·replace hF := ifP h227 hF
       refine W.regionH mixed_ (([b0] ++ F169) ++ [b42]) hB206 hS207 ?_
       intro w228 hb229 hB230 hS231
       have hSW232 := KeepX.refl w228 (([b0] ++ F169) ++ [b42])
       refine WH.takex (i := 0) rfl (by kernel_rfl) (by kernel_rfl) (by kernel_rfl) hP hSW232 (pr_field (o := 5) (off' := 5) ff_102_2 rfl rfl rfl (WH.takex (i := 2) rfl (by kernel_rfl) (by kernel_rfl) (by kernel_rfl) hP hSW232 (pr_move rfl rfl (WH.takex (i := 3) rfl (by kernel_rfl) (by kernel_rfl) (by kernel_rfl) hP hSW232 (pr_field (o := 6) (off' := 6) ff_102_3 rfl rfl rfl (WH.many (is := [1, 4]) (by kernel_rfl) rfl (List.forall_mem_cons.2 ⟨⟨_, rfl, ?_⟩, List.forall_mem_cons.2 ⟨⟨_, rfl, ?_⟩, fun _ h => by cases h⟩⟩)))))))
       ·
        refine wl_load_blk (i := 11) (vs := [v168]) (v := v168) tf_29 rfl rfl hS231 rfl rfl rfl (WL.nil (WH.ret hSW232 (WH.one (i := 4) (by kernel_rfl) rfl (wl_load_blk (i := 11) (vs := [v170]) (v := v170) tf_29 rfl rfl hS231 rfl rfl rfl (WL.nil (WH.ret hSW232 (WH.takex (i := 5) rfl (by kernel_rfl) (by kernel_rfl) (by kernel_rfl) hP hSW232 (pr_lenr (e := ty_3) (l := u163.2.2.2) Try.underlying29 rfl rfl (hS231.own_ro (i := 4) rfl) (WH.one (i := 6) (by kernel_rfl) rfl (wl_lit (vs := [(.int .i64 (-1)), (.int .i64 0), (.int .i64 (List.length u163.2.2.2 : Int))]) (l := [(-1), 0, (List.length u163.2.2.2 : Int)]) fl_3 Try.underlying29 rfl rfl rfl rfl rfl rfl (Below.self w228) (Sep.nil _ _) ?_))))))))))
        intro v233 F234 w235 hb236 hB239 hM240
        have hB237 := hB230.trans (hb236.mono hB230.size)
        have hS238 := hS231.join hb236 hM240 hB230.size
        have hn241 : ∀ b ∈ F234, w228.heap.size ≤ b := fun b hb => Nat.le_trans hSW232.size ((hM240.1 _ (List.mem_cons_self ..)).2.1 b hb).1
        have hSW242 := hSW232.ext hb236
        have hbS243 : Below w228.heap.size w228 w235 := hb236
        refine WL.nil (WH.ret hSW242 (WH.one (i := 7) (by kernel_rfl) rfl ?_))
        obtain ⟨u244, hu244, hF⟩ := bindE hF
        refine wl_call rfl Try.call136 (C_spec_l1Cur__among__mut__box w235 (x0.1, u202.2.2.1, u202.2.2.2) b0 v0_0 (h0_0.rsto (hS238.sel [6, 1] rfl)) [(-1), 0, (List.length u163.2.2.2 : Int)] v233 (own_out (hS238.sel [0, 1] rfl)) (hS238.sel [1] rfl).base0 _ hu244) rfl ?_
        rintro _ w245 ⟨rfl, hE246, hM247⟩
        refine ⟨_, rfl, ?_⟩
        have hB248 := hS238.takeB [1] rfl (M := [R.blk b0 131 [v0_0, (.int .i64 u202.2.2.1), (.int .u64 u202.2.2.2)]]) rfl hB237 hE246 hM247
        have hS249 : Sep (wE w0).heap.size w245 [R.blk b0 131 [v0_0, (.int .i64 u244.2.2.1), (.int .u64 u244.2.2.2)], R.own ty_3 F234 v233 [(-1), 0, (List.length u163.2.2.2 : Int)], R.own ty_63 F165 v164 u163.1.1, R.own ty_3 F167 v166 u163.1.2.1, R.own ty_3 F169 v168 u163.2.2.1, R.own ty_3 F171 v170 u163.2.2.2, R.rest w0 (fps [R.blk b0 131 [v0_0, (.int .i64 x0.2.1), (.int .u64 x0.2.2)]]), R.blk b2 102 [(.slice none 0 0), (.slice none 0 0), (.int .i64 0), (.int .i64 0), (.int .i64 0), (.slice none 0 0), (.slice none 0 0)], R.own ty_63 F77 v76 l75, R.own ty_3 F80 v79 l78, R.own ty_3 F86 v85 l84, R.own ty_3 F89 v88 l87, R.blk b42 102 [v164, v166, (.int .i64 u163.1.2.2.1), (.int .i64 u163.1.2.2.2), (.int .i64 u163.2.1), v168, v170], R.own ty_219 F71 v70 u63.1] := hS238.take [1] [0, 2, 3, 4, 5, 6, 7, 8, 9, 10, 11, 12, 13] rfl (M := [R.blk b0 131 [v0_0, (.int .i64 u202.2.2.1), (.int .u64 u202.2.2.2)]]) rfl hM247 hB237.size
        have hk250 := box_kept hM247
        have hSW251 := hSW242.wr' hk250.1 hk250.2.1 (fun _ _ h => List.mem_append_left _ (List.mem_append_left _ (h)))
        have hbs252 : ∀ b, b < w228.heap.size → b ∈ [b0] → b ∈ (([b0] ++ F169) ++ [b42]) := fun b hlt hb => (hk250.2.2 b hb).elim ((fun _ _ h => List.mem_append_left _ (List.mem_append_left _ (h))) b hlt) (fun h => absurd hlt (Nat.not_lt.2 (Nat.le_trans hSW242.size h)))
        refine WL.nil (WH.ret hSW251 (WH.one (i := 8) (by kernel_rfl) rfl (wl_lit (vs := [(.int .i64 u244.1)]) (l := [u244.1]) fl_3 Try.underlying29 rfl rfl rfl rfl rfl rfl (Below.self w245) (Sep.nil _ _) ?_)))
        intro v253 F254 w255 hb256 hB259 hM260
        have hB257 := hB248.trans (hb256.mono hB248.size)
        have hS258 := hS249.join hb256 hM260 hB248.size
        have hn261 : ∀ b ∈ F254, w228.heap.size ≤ b := fun b hb => Nat.le_trans hSW251.size ((hM260.1 _ (List.mem_cons_self ..)).2.1 b hb).1
        have hSW262 := hSW251.ext hb256
        refine WL.nil (WH.ret hSW262 (WH.one (i := 9) (by kernel_rfl) rfl ?_))
        obtain ⟨u263, hu263, hF⟩ := bindE hF
        refine wl_append (i := 5) (S := (· < w255.heap.size)) fl_3 Try.underlying29 rfl rfl rfl hB257 hS258 rfl (hS258.own_ro (i := 0) rfl) hu263 ?_
        intro v264 F265 w266 hk267 hB268 hS269
        have hSW270 := hSW262.wr' hk267.1 hk267.2.1 (fun _ _ h => List.mem_append_left _ (List.mem_append_right _ h))
        have hbs271 : ∀ b, b < w228.heap.size → b ∈ F265 → b ∈ (([b0] ++ F169) ++ [b42]) := fun b hlt hb => (hk267.2.2 b hb).elim ((fun _ _ h => List.mem_append_left _ (List.mem_append_right _ h)) b hlt) (fun h => absurd hlt (Nat.not_lt.2 (Nat.le_trans hSW262.size h)))
        refine WL.nil (WH.ret hSW270 (WH.takex (i := 10) rfl (by kernel_rfl) (by kernel_rfl) (by kernel_rfl) hP hSW270 (pr_field (o := 5) (off' := 5) ff_102_2 rfl rfl rfl (WH.one (i := 11) (by kernel_rfl) rfl (wl_store_blk (i := 13) (vs := [v264]) (cs' := [v164, v166, (.int .i64 u163.1.2.2.1), (.int .i64 u163.1.2.2.2), (.int .i64 u163.2.1), v264, v170]) tf_29 rfl rfl (cells_one (hS269.own_ro (i := 5) rfl).one) rfl hB268 hS269 rfl rfl ⟨(hS269.own_ro (i := 5) rfl).one, trivial⟩ rfl ?_)))))
        intro w272 hk275 hB273 hS274
        have hSW276 := hSW270.wr' hk275.1 hk275.2.1 (fun _ _ h => List.mem_append_right _ h)
        have hbs277 : ∀ b, b < w228.heap.size → b ∈ [b42] → b ∈ (([b0] ++ F169) ++ [b42]) := fun b hlt hb => (hk275.2.2 b hb).elim ((fun _ _ h => List.mem_append_right _ h) b hlt) (fun h => absurd hlt (Nat.not_lt.2 (Nat.le_trans hSW270.size h)))
        refine WL.nil (WH.ret hSW276 (WH.done (by kernel_rfl) ?_))
        exact fun a ha => hJ195 (u244.2.2.1) (u244.2.2.2) (u163.2.1) (u263) (u163.2.2.2) (v264) (F265) (v170) (F171) _ hF hB273 (hS274.sel [7, 1, 8, 3, 4, 5, 6, 13] rfl) a (ha.sub ⟨rfl, rfl, trivial⟩)
       ·
        refine wl_load_blk (i := 11) (vs := [v170]) (v := v170) tf_29 rfl rfl hS231 rfl rfl rfl (WL.nil (WH.ret hSW232 (WH.takex (i := 5) rfl (by kernel_rfl) (by kernel_rfl) (by kernel_rfl) hP hSW232 (pr_lenr (e := ty_3) (l := u163.2.2.2) Try.underlying29 rfl rfl (hS231.own_ro (i := 4) rfl) (WH.many (is := [1, 6]) (by kernel_rfl) rfl (List.forall_mem_cons.2 ⟨⟨_, rfl, ?_⟩, List.forall_mem_cons.2 ⟨⟨_, rfl, ?_⟩, fun _ h => by cases h⟩⟩))))))
        ·
         refine wl_load_blk (i := 11) (vs := [v168]) (v := v168) tf_29 rfl rfl hS231 rfl rfl rfl (WL.nil (WH.ret hSW232 (WH.one (i := 6) (by kernel_rfl) rfl (wl_lit (vs := [(.int .i64 (-1)), (.int .i64 0), (.int .i64 (List.length u163.2.2.2 : Int))]) (l := [(-1), 0, (List.length u163.2.2.2 : Int)]) fl_3 Try.underlying29 rfl rfl rfl rfl rfl rfl (Below.self w228) (Sep.nil _ _) ?_))))
         intro v278 F279 w280 hb281 hB284 hM285
         have hB282 := hB230.trans (hb281.mono hB230.size)
         have hS283 := hS231.join hb281 hM285 hB230.size
         have hn286 : ∀ b ∈ F279, w228.heap.size ≤ b := fun b hb => Nat.le_trans hSW232.size ((hM285.1 _ (List.mem_cons_self ..)).2.1 b hb).1
         have hSW287 := hSW232.ext hb281
         have hbS288 : Below w228.heap.size w228 w280 := hb281
         refine WL.nil (WH.ret hSW287 (WH.one (i := 7) (by kernel_rfl) rfl ?_))
         obtain ⟨u289, hu289, hF⟩ := bindE hF
         refine wl_call rfl Try.call136 (C_spec_l1Cur__among__mut__box w280 (x0.1, u202.2.2.1, u202.2.2.2) b0 v0_0 (h0_0.rsto (hS283.sel [6, 1] rfl)) [(-1), 0, (List.length u163.2.2.2 : Int)] v278 (own_out (hS283.sel [0, 1] rfl)) (hS283.sel [1] rfl).base0 _ hu289) rfl ?_
         rintro _ w290 ⟨rfl, hE291, hM292⟩
         refine ⟨_, rfl, ?_⟩
         have hB293 := hS283.takeB [1] rfl (M := [R.blk b0 131 [v0_0, (.int .i64 u202.2.2.1), (.int .u64 u202.2.2.2)]]) rfl hB282 hE291 hM292
         have hS294 : Sep (wE w0).heap.size w290 [R.blk b0 131 [v0_0, (.int .i64 u289.2.2.1), (.int .u64 u289.2.2.2)], R.own ty_3 F279 v278 [(-1), 0, (List.length u163.2.2.2 : Int)], R.own ty_63 F165 v164 u163.1.1, R.own ty_3 F167 v166 u163.1.2.1, R.own ty_3 F169 v168 u163.2.2.1, R.own ty_3 F171 v170 u163.2.2.2, R.rest w0 (fps [R.blk b0 131 [v0_0, (.int .i64 x0.2.1), (.int .u64 x0.2.2)]]), R.blk b2 102 [(.slice none 0 0), (.slice none 0 0), (.int .i64 0), (.int .i64 0), (.int .i64 0), (.slice none 0 0), (.slice none 0 0)], R.own ty_63 F77 v76 l75, R.own ty_3 F80 v79 l78, R.own ty_3 F86 v85 l84, R.own ty_3 F89 v88 l87, R.blk b42 102 [v164, v166, (.int .i64 u163.1.2.2.1), (.int .i64 u163.1.2.2.2), (.int .i64 u163.2.1), v168, v170], R.own ty_219 F71 v70 u63.1] := hS283.take [1] [0, 2, 3, 4, 5, 6, 7, 8, 9, 10, 11, 12, 13] rfl (M := [R.blk b0 131 [v0_0, (.int .i64 u202.2.2.1), (.int .u64 u202.2.2.2)]]) rfl hM292 hB282.size
         have hk295 := box_kept hM292
         have hSW296 := hSW287.wr' hk295.1 hk295.2.1 (fun _ _ h => List.mem_append_left _ (List.mem_append_left _ (h)))
         have hbs297 : ∀ b, b < w228.heap.size → b ∈ [b0] → b ∈ (([b0] ++ F169) ++ [b42]) := fun b hlt hb => (hk295.2.2 b hb).elim ((fun _ _ h => List.mem_append_left _ (List.mem_append_left _ (h))) b hlt) (fun h => absurd hlt (Nat.not_lt.2 (Nat.le_trans hSW287.size h)))
         refine WL.nil (WH.ret hSW296 (WH.one (i := 8) (by kernel_rfl) rfl (wl_lit (vs := [(.int .i64 u289.1)]) (l := [u289.1]) fl_3 Try.underlying29 rfl rfl rfl rfl rfl rfl (Below.self w290) (Sep.nil _ _) ?_)))
         intro v298 F299 w300 hb301 hB304 hM305
         have hB302 := hB293.trans (hb301.mono hB293.size)
         have hS303 := hS294.join hb301 hM305 hB293.size
         have hn306 : ∀ b ∈ F299, w228.heap.size ≤ b := fun b hb => Nat.le_trans hSW296.size ((hM305.1 _ (List.mem_cons_self ..)).2.1 b hb).1
         have hSW307 := hSW296.ext hb301
         refine WL.nil (WH.ret hSW307 (WH.one (i := 9) (by kernel_rfl) rfl ?_))
         obtain ⟨u308, hu308, hF⟩ := bindE hF
         refine wl_append (i := 5) (S := (· < w300.heap.size)) fl_3 Try.underlying29 rfl rfl rfl hB302 hS303 rfl (hS303.own_ro (i := 0) rfl) hu308 ?_
         intro v309 F310 w311 hk312 hB313 hS314
         have hSW315 := hSW307.wr' hk312.1 hk312.2.1 (fun _ _ h => List.mem_append_left _ (List.mem_append_right _ h))
         have hbs316 : ∀ b, b < w228.heap.size → b ∈ F310 → b ∈ (([b0] ++ F169) ++ [b42]) := fun b hlt hb => (hk312.2.2 b hb).elim ((fun _ _ h => List.mem_append_left _ (List.mem_append_right _ h)) b hlt) (fun h => absurd hlt (Nat.not_lt.2 (Nat.le_trans hSW307.size h)))
         refine WL.nil (WH.ret hSW315 (WH.takex (i := 10) rfl (by kernel_rfl) (by kernel_rfl) (by kernel_rfl) hP hSW315 (pr_field (o := 5) (off' := 5) ff_102_2 rfl rfl rfl (WH.one (i := 11) (by kernel_rfl) rfl (wl_store_blk (i := 13) (vs := [v309]) (cs' := [v164, v166, (.int .i64 u163.1.2.2.1), (.int .i64 u163.1.2.2.2), (.int .i64 u163.2.1), v309, v170]) tf_29 rfl rfl (cells_one (hS314.own_ro (i := 5) rfl).one) rfl hB313 hS314 rfl rfl ⟨(hS314.own_ro (i := 5) rfl).one, trivial⟩ rfl ?_)))))
         intro w317 hk320 hB318 hS319
         have hSW321 := hSW315.wr' hk320.1 hk320.2.1 (fun _ _ h => List.mem_append_right _ h)
         have hbs322 : ∀ b, b < w228.heap.size → b ∈ [b42] → b ∈ (([b0] ++ F169) ++ [b42]) := fun b hlt hb => (hk320.2.2 b hb).elim ((fun _ _ h => List.mem_append_right _ h) b hlt) (fun h => absurd hlt (Nat.not_lt.2 (Nat.le_trans hSW315.size h)))
         refine WL.nil (WH.ret hSW321 (WH.done (by kernel_rfl) ?_))
         exact fun a ha => hJ195 (u289.2.2.1) (u289.2.2.2) (u163.2.1) (u308) (u163.2.2.2) (v309) (F310) (v170) (F171) _ hF hB318 (hS319.sel [7, 1, 8, 3, 4, 5, 6, 13] rfl) a (ha.sub ⟨rfl, rfl, trivial⟩)
        ·
         refine wl_lit (vs := [(.int .i64 (-1)), (.int .i64 0), (.int .i64 (List.length u163.2.2.2 : Int))]) (l := [(-1), 0, (List.length u163.2.2.2 : Int)]) fl_3 Try.underlying29 rfl rfl rfl rfl rfl rfl (Below.self w228) (Sep.nil _ _) ?_
         intro v323 F324 w325 hb326 hB329 hM330
         have hB327 := hB230.trans (hb326.mono hB230.size)
         have hS328 := hS231.join hb326 hM330 hB230.size
         have hn331 : ∀ b ∈ F324, w228.heap.size ≤ b := fun b hb => Nat.le_trans hSW232.size ((hM330.1 _ (List.mem_cons_self ..)).2.1 b hb).1
         have hSW332 := hSW232.ext hb326
         have hbS333 : Below w228.heap.size w228 w325 := hb326
         refine WL.nil (WH.ret hSW332 (WH.many (is := [1, 7]) (by kernel_rfl) rfl (List.forall_mem_cons.2 ⟨⟨_, rfl, ?_⟩, List.forall_mem_cons.2 ⟨⟨_, rfl, ?_⟩, fun _ h => by cases h⟩⟩)))
         ·
          refine wl_load_blk (i := 12) (vs := [v168]) (v := v168) tf_29 rfl rfl hS328 rfl rfl rfl (WL.nil (WH.ret hSW332 (WH.one (i := 7) (by kernel_rfl) rfl ?_)))
          obtain ⟨u334, hu334, hF⟩ := bindE hF
          refine wl_call rfl Try.call136 (C_spec_l1Cur__among__mut__box w325 (x0.1, u202.2.2.1, u202.2.2.2) b0 v0_0 (h0_0.rsto (hS328.sel [6, 1] rfl)) [(-1), 0, (List.length u163.2.2.2 : Int)] v323 (own_out (hS328.sel [0, 1] rfl)) (hS328.sel [1] rfl).base0 _ hu334) rfl ?_
          rintro _ w335 ⟨rfl, hE336, hM337⟩
          refine ⟨_, rfl, ?_⟩
          have hB338 := hS328.takeB [1] rfl (M := [R.blk b0 131 [v0_0, (.int .i64 u202.2.2.1), (.int .u64 u202.2.2.2)]]) rfl hB327 hE336 hM337
          have hS339 : Sep (wE w0).heap.size w335 [R.blk b0 131 [v0_0, (.int .i64 u334.2.2.1), (.int .u64 u334.2.2.2)], R.own ty_3 F324 v323 [(-1), 0, (List.length u163.2.2.2 : Int)], R.own ty_63 F165 v164 u163.1.1, R.own ty_3 F167 v166 u163.1.2.1, R.own ty_3 F169 v168 u163.2.2.1, R.own ty_3 F171 v170 u163.2.2.2, R.rest w0 (fps [R.blk b0 131 [v0_0, (.int .i64 x0.2.1), (.int .u64 x0.2.2)]]), R.blk b2 102 [(.slice none 0 0), (.slice none 0 0), (.int .i64 0), (.int .i64 0), (.int .i64 0), (.slice none 0 0), (.slice none 0 0)], R.own ty_63 F77 v76 l75, R.own ty_3 F80 v79 l78, R.own ty_3 F86 v85 l84, R.own ty_3 F89 v88 l87, R.blk b42 102 [v164, v166, (.int .i64 u163.1.2.2.1), (.int .i64 u163.1.2.2.2), (.int .i64 u163.2.1), v168, v170], R.own ty_219 F71 v70 u63.1] := hS328.take [1] [0, 2, 3, 4, 5, 6, 7, 8, 9, 10, 11, 12, 13] rfl (M := [R.blk b0 131 [v0_0, (.int .i64 u202.2.2.1), (.int .u64 u202.2.2.2)]]) rfl hM337 hB327.size
          have hk340 := box_kept hM337
          have hSW341 := hSW332.wr' hk340.1 hk340.2.1 (fun _ _ h => List.mem_append_left _ (List.mem_append_left _ (h)))
          have hbs342 : ∀ b, b < w228.heap.size → b ∈ [b0] → b ∈ (([b0] ++ F169) ++ [b42]) := fun b hlt hb => (hk340.2.2 b hb).elim ((fun _ _ h => List.mem_append_left _ (List.mem_append_left _ (h))) b hlt) (fun h => absurd hlt (Nat.not_lt.2 (Nat.le_trans hSW332.size h)))
          refine WL.nil (WH.ret hSW341 (WH.one (i := 8) (by kernel_rfl) rfl (wl_lit (vs := [(.int .i64 u334.1)]) (l := [u334.1]) fl_3 Try.underlying29 rfl rfl rfl rfl rfl rfl (Below.self w335) (Sep.nil _ _) ?_)))
          intro v343 F344 w345 hb346 hB349 hM350
          have hB347 := hB338.trans (hb346.mono hB338.size)
          have hS348 := hS339.join hb346 hM350 hB338.size
          have hn351 : ∀ b ∈ F344, w228.heap.size ≤ b := fun b hb => Nat.le_trans hSW341.size ((hM350.1 _ (List.mem_cons_self ..)).2.1 b hb).1
          have hSW352 := hSW341.ext hb346
          refine WL.nil (WH.ret hSW352 (WH.one (i := 9) (by kernel_rfl) rfl ?_))
          obtain ⟨u353, hu353, hF⟩ := bindE hF
          refine wl_append (i := 5) (S := (· < w345.heap.size)) fl_3 Try.underlying29 rfl rfl rfl hB347 hS348 rfl (hS348.own_ro (i := 0) rfl) hu353 ?_
          intro v354 F355 w356 hk357 hB358 hS359
          have hSW360 := hSW352.wr' hk357.1 hk357.2.1 (fun _ _ h => List.mem_append_left _ (List.mem_append_right _ h))
          have hbs361 : ∀ b, b < w228.heap.size → b ∈ F355 → b ∈ (([b0] ++ F169) ++ [b42]) := fun b hlt hb => (hk357.2.2 b hb).elim ((fun _ _ h => List.mem_append_left _ (List.mem_append_right _ h)) b hlt) (fun h => absurd hlt (Nat.not_lt.2 (Nat.le_trans hSW352.size h)))
          refine WL.nil (WH.ret hSW360 (WH.takex (i := 10) rfl (by kernel_rfl) (by kernel_rfl) (by kernel_rfl) hP hSW360 (pr_field (o := 5) (off' := 5) ff_102_2 rfl rfl rfl (WH.one (i := 11) (by kernel_rfl) rfl (wl_store_blk (i := 13) (vs := [v354]) (cs' := [v164, v166, (.int .i64 u163.1.2.2.1), (.int .i64 u163.1.2.2.2), (.int .i64 u163.2.1), v354, v170]) tf_29 rfl rfl (cells_one (hS359.own_ro (i := 5) rfl).one) rfl hB358 hS359 rfl rfl ⟨(hS359.own_ro (i := 5) rfl).one, trivial⟩ rfl ?_)))))
          intro w362 hk365 hB363 hS364
          have hSW366 := hSW360.wr' hk365.1 hk365.2.1 (fun _ _ h => List.mem_append_right _ h)
          have hbs367 : ∀ b, b < w228.heap.size → b ∈ [b42] → b ∈ (([b0] ++ F169) ++ [b42]) := fun b hlt hb => (hk365.2.2 b hb).elim ((fun _ _ h => List.mem_append_right _ h) b hlt) (fun h => absurd hlt (Nat.not_lt.2 (Nat.le_trans hSW360.size h)))
          refine WL.nil (WH.ret hSW366 (WH.done (by kernel_rfl) ?_))
          exact fun a ha => hJ195 (u334.2.2.1) (u334.2.2.2) (u163.2.1) (u353) (u163.2.2.2) (v354) (F355) (v170) (F171) _ hF hB363 (hS364.sel [7, 1, 8, 3, 4, 5, 6, 13] rfl) a (ha.sub ⟨rfl, rfl, trivial⟩)
         ·
          obtain ⟨u368, hu368, hF⟩ := bindE hF
          refine wl_call rfl Try.call136 (C_spec_l1Cur__among__mut__box w325 (x0.1, u202.2.2.1, u202.2.2.2) b0 v0_0 (h0_0.rsto (hS328.sel [6, 1] rfl)) [(-1), 0, (List.length u163.2.2.2 : Int)] v323 (own_out (hS328.sel [0, 1] rfl)) (hS328.sel [1] rfl).base0 _ hu368) rfl ?_
          rintro _ w369 ⟨rfl, hE370, hM371⟩
          refine ⟨_, rfl, ?_⟩
          have hB372 := hS328.takeB [1] rfl (M := [R.blk b0 131 [v0_0, (.int .i64 u202.2.2.1), (.int .u64 u202.2.2.2)]]) rfl hB327 hE370 hM371
          have hS373 : Sep (wE w0).heap.size w369 [R.blk b0 131 [v0_0, (.int .i64 u368.2.2.1), (.int .u64 u368.2.2.2)], R.own ty_3 F324 v323 [(-1), 0, (List.length u163.2.2.2 : Int)], R.own ty_63 F165 v164 u163.1.1, R.own ty_3 F167 v166 u163.1.2.1, R.own ty_3 F169 v168 u163.2.2.1, R.own ty_3 F171 v170 u163.2.2.2, R.rest w0 (fps [R.blk b0 131 [v0_0, (.int .i64 x0.2.1), (.int .u64 x0.2.2)]]), R.blk b2 102 [(.slice none 0 0), (.slice none 0 0), (.int .i64 0), (.int .i64 0), (.int .i64 0), (.slice none 0 0), (.slice none 0 0)], R.own ty_63 F77 v76 l75, R.own ty_3 F80 v79 l78, R.own ty_3 F86 v85 l84, R.own ty_3 F89 v88 l87, R.blk b42 102 [v164, v166, (.int .i64 u163.1.2.2.1), (.int .i64 u163.1.2.2.2), (.int .i64 u163.2.1), v168, v170], R.own ty_219 F71 v70 u63.1] := hS328.take [1] [0, 2, 3, 4, 5, 6, 7, 8, 9, 10, 11, 12, 13] rfl (M := [R.blk b0 131 [v0_0, (.int .i64 u202.2.2.1), (.int .u64 u202.2.2.2)]]) rfl hM371 hB327.size
          have hk374 := box_kept hM371
          have hSW375 := hSW332.wr' hk374.1 hk374.2.1 (fun _ _ h => List.mem_append_left _ (List.mem_append_left _ (h)))
          have hbs376 : ∀ b, b < w228.heap.size → b ∈ [b0] → b ∈ (([b0] ++ F169) ++ [b42]) := fun b hlt hb => (hk374.2.2 b hb).elim ((fun _ _ h => List.mem_append_left _ (List.mem_append_left _ (h))) b hlt) (fun h => absurd hlt (Nat.not_lt.2 (Nat.le_trans hSW332.size h)))
          refine WL.nil (WH.ret hSW375 (WH.many (is := [1, 8]) (by kernel_rfl) rfl (List.forall_mem_cons.2 ⟨⟨_, rfl, ?_⟩, List.forall_mem_cons.2 ⟨⟨_, rfl, ?_⟩, fun _ h => by cases h⟩⟩)))
          ·
           refine wl_load_blk (i := 12) (vs := [v168]) (v := v168) tf_29 rfl rfl hS373 rfl rfl rfl (WL.nil (WH.ret hSW375 (WH.one (i := 8) (by kernel_rfl) rfl (wl_lit (vs := [(.int .i64 u368.1)]) (l := [u368.1]) fl_3 Try.underlying29 rfl rfl rfl rfl rfl rfl (Below.self w369) (Sep.nil _ _) ?_))))
           intro v377 F378 w379 hb380 hB383 hM384
           have hB381 := hB372.trans (hb380.mono hB372.size)
           have hS382 := hS373.join hb380 hM384 hB372.size
           have hn385 : ∀ b ∈ F378, w228.heap.size ≤ b := fun b hb => Nat.le_trans hSW375.size ((hM384.1 _ (List.mem_cons_self ..)).2.1 b hb).1
           have hSW386 := hSW375.ext hb380
           refine WL.nil (WH.ret hSW386 (WH.one (i := 9) (by kernel_rfl) rfl ?_))
           obtain ⟨u387, hu387, hF⟩ := bindE hF
           refine wl_append (i := 5) (S := (· < w379.heap.size)) fl_3 Try.underlying29 rfl rfl rfl hB381 hS382 rfl (hS382.own_ro (i := 0) rfl) hu387 ?_
           intro v388 F389 w390 hk391 hB392 hS393
           have hSW394 := hSW386.wr' hk391.1 hk391.2.1 (fun _ _ h => List.mem_append_left _ (List.mem_append_right _ h))
           have hbs395 : ∀ b, b < w228.heap.size → b ∈ F389 → b ∈ (([b0] ++ F169) ++ [b42]) := fun b hlt hb => (hk391.2.2 b hb).elim ((fun _ _ h => List.mem_append_left _ (List.mem_append_right _ h)) b hlt) (fun h => absurd hlt (Nat.not_lt.2 (Nat.le_trans hSW386.size h)))
           refine WL.nil (WH.ret hSW394 (WH.takex (i := 10) rfl (by kernel_rfl) (by kernel_rfl) (by kernel_rfl) hP hSW394 (pr_field (o := 5) (off' := 5) ff_102_2 rfl rfl rfl (WH.one (i := 11) (by kernel_rfl) rfl (wl_store_blk (i := 13) (vs := [v388]) (cs' := [v164, v166, (.int .i64 u163.1.2.2.1), (.int .i64 u163.1.2.2.2), (.int .i64 u163.2.1), v388, v170]) tf_29 rfl rfl (cells_one (hS393.own_ro (i := 5) rfl).one) rfl hB392 hS393 rfl rfl ⟨(hS393.own_ro (i := 5) rfl).one, trivial⟩ rfl ?_)))))
           intro w396 hk399 hB397 hS398
           have hSW400 := hSW394.wr' hk399.1 hk399.2.1 (fun _ _ h => List.mem_append_right _ h)
           have hbs401 : ∀ b, b < w228.heap.size → b ∈ [b42] → b ∈ (([b0] ++ F169) ++ [b42]) := fun b hlt hb => (hk399.2.2 b hb).elim ((fun _ _ h => List.mem_append_right _ h) b hlt) (fun h => absurd hlt (Nat.not_lt.2 (Nat.le_trans hSW394.size h)))
           refine WL.nil (WH.ret hSW400 (WH.done (by kernel_rfl) ?_))
           exact fun a ha => hJ195 (u368.2.2.1) (u368.2.2.2) (u163.2.1) (u387) (u163.2.2.2) (v388) (F389) (v170) (F171) _ hF hB397 (hS398.sel [7, 1, 8, 3, 4, 5, 6, 13] rfl) a (ha.sub ⟨rfl, rfl, trivial⟩)
          ·
           refine wl_lit (vs := [(.int .i64 u368.1)]) (l := [u368.1]) fl_3 Try.underlying29 rfl rfl rfl rfl rfl rfl (Below.self w369) (Sep.nil _ _) ?_
           intro v402 F403 w404 hb405 hB408 hM409
           have hB406 := hB372.trans (hb405.mono hB372.size)
           have hS407 := hS373.join hb405 hM409 hB372.size
           have hn410 : ∀ b ∈ F403, w228.heap.size ≤ b := fun b hb => Nat.le_trans hSW375.size ((hM409.1 _ (List.mem_cons_self ..)).2.1 b hb).1
           have hSW411 := hSW375.ext hb405
           refine WL.nil (WH.ret hSW411 (WH.one (i := 1) (by kernel_rfl) rfl (wl_load_blk (i := 13) (vs := [v168]) (v := v168) tf_29 rfl rfl hS407 rfl rfl rfl (WL.nil (WH.ret hSW411 (WH.one (i := 9) (by kernel_rfl) rfl ?_))))))
           obtain ⟨u412, hu412, hF⟩ := bindE hF
           refine wl_append (i := 5) (S := (· < w404.heap.size)) fl_3 Try.underlying29 rfl rfl rfl hB406 hS407 rfl (hS407.own_ro (i := 0) rfl) hu412 ?_
           intro v413 F414 w415 hk416 hB417 hS418
           have hSW419 := hSW411.wr' hk416.1 hk416.2.1 (fun _ _ h => List.mem_append_left _ (List.mem_append_right _ h))
           have hbs420 : ∀ b, b < w228.heap.size → b ∈ F414 → b ∈ (([b0] ++ F169) ++ [b42]) := fun b hlt hb => (hk416.2.2 b hb).elim ((fun _ _ h => List.mem_append_left _ (List.mem_append_right _ h)) b hlt) (fun h => absurd hlt (Nat.not_lt.2 (Nat.le_trans hSW411.size h)))
           refine WL.nil (WH.ret hSW419 (WH.takex (i := 10) rfl (by kernel_rfl) (by kernel_rfl) (by kernel_rfl) hP hSW419 (pr_field (o := 5) (off' := 5) ff_102_2 rfl rfl rfl (WH.one (i := 11) (by kernel_rfl) rfl (wl_store_blk (i := 13) (vs := [v413]) (cs' := [v164, v166, (.int .i64 u163.1.2.2.1), (.int .i64 u163.1.2.2.2), (.int .i64 u163.2.1), v413, v170]) tf_29 rfl rfl (cells_one (hS418.own_ro (i := 5) rfl).one) rfl hB417 hS418 rfl rfl ⟨(hS418.own_ro (i := 5) rfl).one, trivial⟩ rfl ?_)))))
           intro w421 hk424 hB422 hS423
           have hSW425 := hSW419.wr' hk424.1 hk424.2.1 (fun _ _ h => List.mem_append_right _ h)
           have hbs426 : ∀ b, b < w228.heap.size → b ∈ [b42] → b ∈ (([b0] ++ F169) ++ [b42]) := fun b hlt hb => (hk424.2.2 b hb).elim ((fun _ _ h => List.mem_append_right _ h) b hlt) (fun h => absurd hlt (Nat.not_lt.2 (Nat.le_trans hSW419.size h)))
           refine WL.nil (WH.ret hSW425 (WH.done (by kernel_rfl) ?_))
           exact fun a ha => hJ195 (u368.2.2.1) (u368.2.2.2) (u163.2.1) (u412) (u163.2.2.2) (v413) (F414) (v170) (F171) _ hF hB422 (hS423.sel [7, 1, 8, 3, 4, 5, 6, 13] rfl) a (ha.sub ⟨rfl, rfl, trivial⟩)
      ·replace hF := ifN h227 hF
       refine W.seq fun K427 hK427 => W.region (wl_eql rfl rfl rfl (wl_assign rfl rfl (WL.nil (fun a ha => hK427 _ _ (W.cond rfl (fun h428 => ?_) (fun h428 => ?_)) a ha))))
       ·replace hF := ifP h428 hF
        refine W.regionH mixed_ (([b0] ++ F171) ++ [b42]) hB206 hS207 ?_
        intro w429 hb430 hB431 hS432
        have hSW433 := KeepX.refl w429 (([b0] ++ F171) ++ [b42])
        refine WH.takex (i := 0) rfl (by kernel_rfl) (by kernel_rfl) (by kernel_rfl) hP hSW433 (pr_field (o := 6) (off' := 6) ff_102_3 rfl rfl rfl (WH.takex (i := 2) rfl (by kernel_rfl) (by kernel_rfl) (by kernel_rfl) hP hSW433 (pr_move rfl rfl (WH.takex (i := 3) rfl (by kernel_rfl) (by kernel_rfl) (by kernel_rfl) hP hSW433 (pr_field (o := 4) (off' := 4) ff_102_1 rfl rfl rfl (WH.takex (i := 5) rfl (by kernel_rfl) (by kernel_rfl) (by kernel_rfl) hP hSW433 (pr_field (o := 4) (off' := 4) ff_102_1 rfl rfl rfl (WH.many (is := [1, 4, 6]) (by kernel_rfl) rfl (List.forall_mem_cons.2 ⟨⟨_, rfl, ?_⟩, List.forall_mem_cons.2 ⟨⟨_, rfl, ?_⟩, List.forall_mem_cons.2 ⟨⟨_, rfl, ?_⟩, fun _ h => by cases h⟩⟩⟩)))))))))
        ·
         refine wl_load_blk (i := 11) (vs := [v170]) (v := v170) tf_29 rfl rfl hS432 rfl rfl rfl (WL.nil (WH.ret hSW433 (WH.many (is := [4, 6]) (by kernel_rfl) rfl (List.forall_mem_cons.2 ⟨⟨_, rfl, ?_⟩, List.forall_mem_cons.2 ⟨⟨_, rfl, ?_⟩, fun _ h => by cases h⟩⟩))))
         ·
          refine wl_load_blk (i := 11) (vs := [(.int .i64 u163.2.1)]) (v := (.int .i64 u163.2.1)) tf_3 rfl rfl hS432 rfl rfl rfl (WL.nil (WH.ret hSW433 (WH.one (i := 6) (by kernel_rfl) rfl (wl_load_blk (i := 11) (vs := [(.int .i64 u163.2.1)]) (v := (.int .i64 u163.2.1)) tf_3 rfl rfl hS432 rfl rfl rfl (WL.nil (WH.ret hSW433 (WH.takex (i := 7) rfl (by kernel_rfl) (by kernel_rfl) (by kernel_rfl) hP hSW433 (pr_add rfl rfl rfl (WH.one (i := 8) (by kernel_rfl) rfl (wl_lit (vs := [(.int .i64 (-1)), (.int .i64 u163.2.1), (.int .i64 (w64 (u163.2.1 + 1)))]) (l := [(-1), u163.2.1, (w64 (u163.2.1 + 1))]) fl_3 Try.underlying29 rfl rfl rfl rfl rfl rfl (Below.self w429) (Sep.nil _ _) ?_))))))))))
          intro v434 F435 w436 hb437 hB440 hM441
          have hB438 := hB431.trans (hb437.mono hB431.size)
          have hS439 := hS432.join hb437 hM441 hB431.size
          have hn442 : ∀ b ∈ F435, w429.heap.size ≤ b := fun b hb => Nat.le_trans hSW433.size ((hM441.1 _ (List.mem_cons_self ..)).2.1 b hb).1
          have hSW443 := hSW433.ext hb437
          have hbS444 : Below w429.heap.size w429 w436 := hb437
          refine WL.nil (WH.ret hSW443 (WH.one (i := 9) (by kernel_rfl) rfl ?_))
          obtain ⟨u445, hu445, hF⟩ := bindE hF
          refine wl_call rfl Try.call136 (C_spec_l1Cur__among__mut__box w436 (x0.1, u202.2.2.1, u202.2.2.2) b0 v0_0 (h0_0.rsto (hS439.sel [6, 1] rfl)) [(-1), u163.2.1, (w64 (u163.2.1 + 1))] v434 (own_out (hS439.sel [0, 1] rfl)) (hS439.sel [1] rfl).base0 _ hu445) rfl ?_
          rintro _ w446 ⟨rfl, hE447, hM448⟩
          refine ⟨_, rfl, ?_⟩
          have hB449 := hS439.takeB [1] rfl (M := [R.blk b0 131 [v0_0, (.int .i64 u202.2.2.1), (.int .u64 u202.2.2.2)]]) rfl hB438 hE447 hM448
          have hS450 : Sep (wE w0).heap.size w446 [R.blk b0 131 [v0_0, (.int .i64 u445.2.2.1), (.int .u64 u445.2.2.2)], R.own ty_3 F435 v434 [(-1), u163.2.1, (w64 (u163.2.1 + 1))], R.own ty_63 F165 v164 u163.1.1, R.own ty_3 F167 v166 u163.1.2.1, R.own ty_3 F169 v168 u163.2.2.1, R.own ty_3 F171 v170 u163.2.2.2, R.rest w0 (fps [R.blk b0 131 [v0_0, (.int .i64 x0.2.1), (.int .u64 x0.2.2)]]), R.blk b2 102 [(.slice none 0 0), (.slice none 0 0), (.int .i64 0), (.int .i64 0), (.int .i64 0), (.slice none 0 0), (.slice none 0 0)], R.own ty_63 F77 v76 l75, R.own ty_3 F80 v79 l78, R.own ty_3 F86 v85 l84, R.own ty_3 F89 v88 l87, R.blk b42 102 [v164, v166, (.int .i64 u163.1.2.2.1), (.int .i64 u163.1.2.2.2), (.int .i64 u163.2.1), v168, v170], R.own ty_219 F71 v70 u63.1] := hS439.take [1] [0, 2, 3, 4, 5, 6, 7, 8, 9, 10, 11, 12, 13] rfl (M := [R.blk b0 131 [v0_0, (.int .i64 u202.2.2.1), (.int .u64 u202.2.2.2)]]) rfl hM448 hB438.size
          have hk451 := box_kept hM448
          have hSW452 := hSW443.wr' hk451.1 hk451.2.1 (fun _ _ h => List.mem_append_left _ (List.mem_append_left _ (h)))
          have hbs453 : ∀ b, b < w429.heap.size → b ∈ [b0] → b ∈ (([b0] ++ F171) ++ [b42]) := fun b hlt hb => (hk451.2.2 b hb).elim ((fun _ _ h => List.mem_append_left _ (List.mem_append_left _ (h))) b hlt) (fun h => absurd hlt (Nat.not_lt.2 (Nat.le_trans hSW443.size h)))
          refine WL.nil (WH.ret hSW452 (WH.one (i := 10) (by kernel_rfl) rfl ?_))
          obtain ⟨u454, hu454, hF⟩ := bindE hF
          refine wl_indexoF (e := ty_3) (i := 5) Try.underlying29 rfl rfl rfl hS450 rfl hu454 ?_
          rintro p455 _ rfl hp456 ho457
          refine WL.nil (WH.ret hSW452 (WH.one (i := 11) (by kernel_rfl) rfl (wl_storeo (i := 5) (o := 0) (vs := [(.int .i64 u445.1)]) (u' := u445.1) fl_3 tf_3 rfl rfl rfl rfl ho457 hu454 hB449 hS450 rfl rfl ⟨rfl, trivial⟩ rfl ?_)))
          intro w458 hk461 hB459 hS460
          have hSW462 := hSW452.wr' hk461.1 hk461.2.1 (fun _ _ h => List.mem_append_left _ (List.mem_append_right _ h))
          have hbs463 : ∀ b, b < w429.heap.size → b ∈ F171 → b ∈ (([b0] ++ F171) ++ [b42]) := fun b hlt hb => (hk461.2.2 b hb).elim ((fun _ _ h => List.mem_append_left _ (List.mem_append_right _ h)) b hlt) (fun h => absurd hlt (Nat.not_lt.2 (Nat.le_trans hSW452.size h)))
          refine WL.nil (WH.ret hSW462 (WH.done (by kernel_rfl) ?_))
          exact fun a ha => hJ195 (u445.2.2.1) (u445.2.2.2) (u163.2.1) (u163.2.2.1) ((seti u163.2.2.2 0 u445.1)) (v168) (F169) (v170) (F171) _ hF hB459 (hS460.sel [6, 0, 7, 2, 3, 4, 5, 12] rfl) a (ha.sub ⟨rfl, rfl, trivial⟩)
         ·
          refine wl_load_blk (i := 11) (vs := [(.int .i64 u163.2.1)]) (v := (.int .i64 u163.2.1)) tf_3 rfl rfl hS432 rfl rfl rfl (WL.nil (WH.ret hSW433 (WH.takex (i := 7) rfl (by kernel_rfl) (by kernel_rfl) (by kernel_rfl) hP hSW433 (pr_add rfl rfl rfl (WH.one (i := 4) (by kernel_rfl) rfl (wl_load_blk (i := 11) (vs := [(.int .i64 u163.2.1)]) (v := (.int .i64 u163.2.1)) tf_3 rfl rfl hS432 rfl rfl rfl (WL.nil (WH.ret hSW433 (WH.one (i := 8) (by kernel_rfl) rfl (wl_lit (vs := [(.int .i64 (-1)), (.int .i64 u163.2.1), (.int .i64 (w64 (u163.2.1 + 1)))]) (l := [(-1), u163.2.1, (w64 (u163.2.1 + 1))]) fl_3 Try.underlying29 rfl rfl rfl rfl rfl rfl (Below.self w429) (Sep.nil _ _) ?_))))))))))
          intro v464 F465 w466 hb467 hB470 hM471
          have hB468 := hB431.trans (hb467.mono hB431.size)
          have hS469 := hS432.join hb467 hM471 hB431.size
          have hn472 : ∀ b ∈ F465, w429.heap.size ≤ b := fun b hb => Nat.le_trans hSW433.size ((hM471.1 _ (List.mem_cons_self ..)).2.1 b hb).1
          have hSW473 := hSW433.ext hb467
          have hbS474 : Below w429.heap.size w429 w466 := hb467
          refine WL.nil (WH.ret hSW473 (WH.one (i := 9) (by kernel_rfl) rfl ?_))
          obtain ⟨u475, hu475, hF⟩ := bindE hF
          refine wl_call rfl Try.call136 (C_spec_l1Cur__among__mut__box w466 (x0.1, u202.2.2.1, u202.2.2.2) b0 v0_0 (h0_0.rsto (hS469.sel [6, 1] rfl)) [(-1), u163.2.1, (w64 (u163.2.1 + 1))] v464 (own_out (hS469.sel [0, 1] rfl)) (hS469.sel [1] rfl).base0 _ hu475) rfl ?_
          rintro _ w476 ⟨rfl, hE477, hM478⟩
          refine ⟨_, rfl, ?_⟩
          have hB479 := hS469.takeB [1] rfl (M := [R.blk b0 131 [v0_0, (.int .i64 u202.2.2.1), (.int .u64 u202.2.2.2)]]) rfl hB468 hE477 hM478
          have hS480 : Sep (wE w0).heap.size w476 [R.blk b0 131 [v0_0, (.int .i64 u475.2.2.1), (.int .u64 u475.2.2.2)], R.own ty_3 F465 v464 [(-1), u163.2.1, (w64 (u163.2.1 + 1))], R.own ty_63 F165 v164 u163.1.1, R.own ty_3 F167 v166 u163.1.2.1, R.own ty_3 F169 v168 u163.2.2.1, R.own ty_3 F171 v170 u163.2.2.2, R.rest w0 (fps [R.blk b0 131 [v0_0, (.int .i64 x0.2.1), (.int .u64 x0.2.2)]]), R.blk b2 102 [(.slice none 0 0), (.slice none 0 0), (.int .i64 0), (.int .i64 0), (.int .i64 0), (.slice none 0 0), (.slice none 0 0)], R.own ty_63 F77 v76 l75, R.own ty_3 F80 v79 l78, R.own ty_3 F86 v85 l84, R.own ty_3 F89 v88 l87, R.blk b42 102 [v164, v166, (.int .i64 u163.1.2.2.1), (.int .i64 u163.1.2.2.2), (.int .i64 u163.2.1), v168, v170], R.own ty_219 F71 v70 u63.1] := hS469.take [1] [0, 2, 3, 4, 5, 6, 7, 8, 9, 10, 11, 12, 13] rfl (M := [R.blk b0 131 [v0_0, (.int .i64 u202.2.2.1), (.int .u64 u202.2.2.2)]]) rfl hM478 hB468.size
          have hk481 := box_kept hM478
          have hSW482 := hSW473.wr' hk481.1 hk481.2.1 (fun _ _ h => List.mem_append_left _ (List.mem_append_left _ (h)))
          have hbs483 : ∀ b, b < w429.heap.size → b ∈ [b0] → b ∈ (([b0] ++ F171) ++ [b42]) := fun b hlt hb => (hk481.2.2 b hb).elim ((fun _ _ h => List.mem_append_left _ (List.mem_append_left _ (h))) b hlt) (fun h => absurd hlt (Nat.not_lt.2 (Nat.le_trans hSW473.size h)))
          refine WL.nil (WH.ret hSW482 (WH.one (i := 10) (by kernel_rfl) rfl ?_))
          obtain ⟨u484, hu484, hF⟩ := bindE hF
          refine wl_indexoF (e := ty_3) (i := 5) Try.underlying29 rfl rfl rfl hS480 rfl hu484 ?_
          rintro p485 _ rfl hp486 ho487
          refine WL.nil (WH.ret hSW482 (WH.one (i := 11) (by kernel_rfl) rfl (wl_storeo (i := 5) (o := 0) (vs := [(.int .i64 u475.1)]) (u' := u475.1) fl_3 tf_3 rfl rfl rfl rfl ho487 hu484 hB479 hS480 rfl rfl ⟨rfl, trivial⟩ rfl ?_)))
          intro w488 hk491 hB489 hS490
          have hSW492 := hSW482.wr' hk491.1 hk491.2.1 (fun _ _ h => List.mem_append_left _ (List.mem_append_right _ h))
          have hbs493 : ∀ b, b < w429.heap.size → b ∈ F171 → b ∈ (([b0] ++ F171) ++ [b42]) := fun b hlt hb => (hk491.2.2 b hb).elim ((fun _ _ h => List.mem_append_left _ (List.mem_append_right _ h)) b hlt) (fun h => absurd hlt (Nat.not_lt.2 (Nat.le_trans hSW482.size h)))
          refine WL.nil (WH.ret hSW492 (WH.done (by kernel_rfl) ?_))
          exact fun a ha => hJ195 (u475.2.2.1) (u475.2.2.2) (u163.2.1) (u163.2.2.1) ((seti u163.2.2.2 0 u475.1)) (v168) (F169) (v170) (F171) _ hF hB489 (hS490.sel [6, 0, 7, 2, 3, 4, 5, 12] rfl) a (ha.sub ⟨rfl, rfl, trivial⟩)
        ·
         refine wl_load_blk (i := 11) (vs := [(.int .i64 u163.2.1)]) (v := (.int .i64 u163.2.1)) tf_3 rfl rfl hS432 rfl rfl rfl (WL.nil (WH.ret hSW433 (WH.many (is := [1, 6]) (by kernel_rfl) rfl (List.forall_mem_cons.2 ⟨⟨_, rfl, ?_⟩, List.forall_mem_cons.2 ⟨⟨_, rfl, ?_⟩, fun _ h => by cases h⟩⟩))))
         ·
          refine wl_load_blk (i := 11) (vs := [v170]) (v := v170) tf_29 rfl rfl hS432 rfl rfl rfl (WL.nil (WH.ret hSW433 (WH.one (i := 6) (by kernel_rfl) rfl (wl_load_blk (i := 11) (vs := [(.int .i64 u163.2.1)]) (v := (.int .i64 u163.2.1)) tf_3 rfl rfl hS432 rfl rfl rfl (WL.nil (WH.ret hSW433 (WH.takex (i := 7) rfl (by kernel_rfl) (by kernel_rfl) (by kernel_rfl) hP hSW433 (pr_add rfl rfl rfl (WH.one (i := 8) (by kernel_rfl) rfl (wl_lit (vs := [(.int .i64 (-1)), (.int .i64 u163.2.1), (.int .i64 (w64 (u163.2.1 + 1)))]) (l := [(-1), u163.2.1, (w64 (u163.2.1 + 1))]) fl_3 Try.underlying29 rfl rfl rfl rfl rfl rfl (Below.self w429) (Sep.nil _ _) ?_))))))))))
          intro v494 F495 w496 hb497 hB500 hM501
          have hB498 := hB431.trans (hb497.mono hB431.size)
          have hS499 := hS432.join hb497 hM501 hB431.size
          have hn502 : ∀ b ∈ F495, w429.heap.size ≤ b := fun b hb => Nat.le_trans hSW433.size ((hM501.1 _ (List.mem_cons_self ..)).2.1 b hb).1
          have hSW503 := hSW433.ext hb497
          have hbS504 : Below w429.heap.size w429 w496 := hb497
          refine WL.nil (WH.ret hSW503 (WH.one (i := 9) (by kernel_rfl) rfl ?_))
          obtain ⟨u505, hu505, hF⟩ := bindE hF
          refine wl_call rfl Try.call136 (C_spec_l1Cur__among__mut__box w496 (x0.1, u202.2.2.1, u202.2.2.2) b0 v0_0 (h0_0.rsto (hS499.sel [6, 1] rfl)) [(-1), u163.2.1, (w64 (u163.2.1 + 1))] v494 (own_out (hS499.sel [0, 1] rfl)) (hS499.sel [1] rfl).base0 _ hu505) rfl ?_
          rintro _ w506 ⟨rfl, hE507, hM508⟩
          refine ⟨_, rfl, ?_⟩
          have hB509 := hS499.takeB [1] rfl (M := [R.blk b0 131 [v0_0, (.int .i64 u202.2.2.1), (.int .u64 u202.2.2.2)]]) rfl hB498 hE507 hM508
          have hS510 : Sep (wE w0).heap.size w506 [R.blk b0 131 [v0_0, (.int .i64 u505.2.2.1), (.int .u64 u505.2.2.2)], R.own ty_3 F495 v494 [(-1), u163.2.1, (w64 (u163.2.1 + 1))], R.own ty_63 F165 v164 u163.1.1, R.own ty_3 F167 v166 u163.1.2.1, R.own ty_3 F169 v168 u163.2.2.1, R.own ty_3 F171 v170 u163.2.2.2, R.rest w0 (fps [R.blk b0 131 [v0_0, (.int .i64 x0.2.1), (.int .u64 x0.2.2)]]), R.blk b2 102 [(.slice none 0 0), (.slice none 0 0), (.int .i64 0), (.int .i64 0), (.int .i64 0), (.slice none 0 0), (.slice none 0 0)], R.own ty_63 F77 v76 l75, R.own ty_3 F80 v79 l78, R.own ty_3 F86 v85 l84, R.own ty_3 F89 v88 l87, R.blk b42 102 [v164, v166, (.int .i64 u163.1.2.2.1), (.int .i64 u163.1.2.2.2), (.int .i64 u163.2.1), v168, v170], R.own ty_219 F71 v70 u63.1] := hS499.take [1] [0, 2, 3, 4, 5, 6, 7, 8, 9, 10, 11, 12, 13] rfl (M := [R.blk b0 131 [v0_0, (.int .i64 u202.2.2.1), (.int .u64 u202.2.2.2)]]) rfl hM508 hB498.size
          have hk511 := box_kept hM508
          have hSW512 := hSW503.wr' hk511.1 hk511.2.1 (fun _ _ h => List.mem_append_left _ (List.mem_append_left _ (h)))
          have hbs513 : ∀ b, b < w429.heap.size → b ∈ [b0] → b ∈ (([b0] ++ F171) ++ [b42]) := fun b hlt hb => (hk511.2.2 b hb).elim ((fun _ _ h => List.mem_append_left _ (List.mem_append_left _ (h))) b hlt) (fun h => absurd hlt (Nat.not_lt.2 (Nat.le_trans hSW503.size h)))
          refine WL.nil (WH.ret hSW512 (WH.one (i := 10) (by kernel_rfl) rfl ?_))
          obtain ⟨u514, hu514, hF⟩ := bindE hF
          refine wl_indexoF (e := ty_3) (i := 5) Try.underlying29 rfl rfl rfl hS510 rfl hu514 ?_
          rintro p515 _ rfl hp516 ho517
          refine WL.nil (WH.ret hSW512 (WH.one (i := 11) (by kernel_rfl) rfl (wl_storeo (i := 5) (o := 0) (vs := [(.int .i64 u505.1)]) (u' := u505.1) fl_3 tf_3 rfl rfl rfl rfl ho517 hu514 hB509 hS510 rfl rfl ⟨rfl, trivial⟩ rfl ?_)))
          intro w518 hk521 hB519 hS520
          have hSW522 := hSW512.wr' hk521.1 hk521.2.1 (fun _ _ h => List.mem_append_left _ (List.mem_append_right _ h))
          have hbs523 : ∀ b, b < w429.heap.size → b ∈ F171 → b ∈ (([b0] ++ F171) ++ [b42]) := fun b hlt hb => (hk521.2.2 b hb).elim ((fun _ _ h => List.mem_append_left _ (List.mem_append_right _ h)) b hlt) (fun h => absurd hlt (Nat.not_lt.2 (Nat.le_trans hSW512.size h)))
          refine WL.nil (WH.ret hSW522 (WH.done (by kernel_rfl) ?_))
          exact fun a ha => hJ195 (u505.2.2.1) (u505.2.2.2) (u163.2.1) (u163.2.2.1) ((seti u163.2.2.2 0 u505.1)) (v168) (F169) (v170) (F171) _ hF hB519 (hS520.sel [6, 0, 7, 2, 3, 4, 5, 12] rfl) a (ha.sub ⟨rfl, rfl, trivial⟩)
         ·
          refine wl_load_blk (i := 11) (vs := [(.int .i64 u163.2.1)]) (v := (.int .i64 u163.2.1)) tf_3 rfl rfl hS432 rfl rfl rfl (WL.nil (WH.ret hSW433 (WH.takex (i := 7) rfl (by kernel_rfl) (by kernel_rfl) (by kernel_rfl) hP hSW433 (pr_add rfl rfl rfl (WH.many (is := [1, 8]) (by kernel_rfl) rfl (List.forall_mem_cons.2 ⟨⟨_, rfl, ?_⟩, List.forall_mem_cons.2 ⟨⟨_, rfl, ?_⟩, fun _ h => by cases h⟩⟩))))))
          ·
           refine wl_load_blk (i := 11) (vs := [v170]) (v := v170) tf_29 rfl rfl hS432 rfl rfl rfl (WL.nil (WH.ret hSW433 (WH.one (i := 8) (by kernel_rfl) rfl (wl_lit (vs := [(.int .i64 (-1)), (.int .i64 u163.2.1), (.int .i64 (w64 (u163.2.1 + 1)))]) (l := [(-1), u163.2.1, (w64 (u163.2.1 + 1))]) fl_3 Try.underlying29 rfl rfl rfl rfl rfl rfl (Below.self w429) (Sep.nil _ _) ?_))))
           intro v524 F525 w526 hb527 hB530 hM531
           have hB528 := hB431.trans (hb527.mono hB431.size)
           have hS529 := hS432.join hb527 hM531 hB431.size
           have hn532 : ∀ b ∈ F525, w429.heap.size ≤ b := fun b hb => Nat.le_trans hSW433.size ((hM531.1 _ (List.mem_cons_self ..)).2.1 b hb).1
           have hSW533 := hSW433.ext hb527
           have hbS534 : Below w429.heap.size w429 w526 := hb527
           refine WL.nil (WH.ret hSW533 (WH.one (i := 9) (by kernel_rfl) rfl ?_))
           obtain ⟨u535, hu535, hF⟩ := bindE hF
           refine wl_call rfl Try.call136 (C_spec_l1Cur__among__mut__box w526 (x0.1, u202.2.2.1, u202.2.2.2) b0 v0_0 (h0_0.rsto (hS529.sel [6, 1] rfl)) [(-1), u163.2.1, (w64 (u163.2.1 + 1))] v524 (own_out (hS529.sel [0, 1] rfl)) (hS529.sel [1] rfl).base0 _ hu535) rfl ?_
           rintro _ w536 ⟨rfl, hE537, hM538⟩
           refine ⟨_, rfl, ?_⟩
           have hB539 := hS529.takeB [1] rfl (M := [R.blk b0 131 [v0_0, (.int .i64 u202.2.2.1), (.int .u64 u202.2.2.2)]]) rfl hB528 hE537 hM538
           have hS540 : Sep (wE w0).heap.size w536 [R.blk b0 131 [v0_0, (.int .i64 u535.2.2.1), (.int .u64 u535.2.2.2)], R.own ty_3 F525 v524 [(-1), u163.2.1, (w64 (u163.2.1 + 1))], R.own ty_63 F165 v164 u163.1.1, R.own ty_3 F167 v166 u163.1.2.1, R.own ty_3 F169 v168 u163.2.2.1, R.own ty_3 F171 v170 u163.2.2.2, R.rest w0 (fps [R.blk b0 131 [v0_0, (.int .i64 x0.2.1), (.int .u64 x0.2.2)]]), R.blk b2 102 [(.slice none 0 0), (.slice none 0 0), (.int .i64 0), (.int .i64 0), (.int .i64 0), (.slice none 0 0), (.slice none 0 0)], R.own ty_63 F77 v76 l75, R.own ty_3 F80 v79 l78, R.own ty_3 F86 v85 l84, R.own ty_3 F89 v88 l87, R.blk b42 102 [v164, v166, (.int .i64 u163.1.2.2.1), (.int .i64 u163.1.2.2.2), (.int .i64 u163.2.1), v168, v170], R.own ty_219 F71 v70 u63.1] := hS529.take [1] [0, 2, 3, 4, 5, 6, 7, 8, 9, 10, 11, 12, 13] rfl (M := [R.blk b0 131 [v0_0, (.int .i64 u202.2.2.1), (.int .u64 u202.2.2.2)]]) rfl hM538 hB528.size
           have hk541 := box_kept hM538
           have hSW542 := hSW533.wr' hk541.1 hk541.2.1 (fun _ _ h => List.mem_append_left _ (List.mem_append_left _ (h)))
           have hbs543 : ∀ b, b < w429.heap.size → b ∈ [b0] → b ∈ (([b0] ++ F171) ++ [b42]) := fun b hlt hb => (hk541.2.2 b hb).elim ((fun _ _ h => List.mem_append_left _ (List.mem_append_left _ (h))) b hlt) (fun h => absurd hlt (Nat.not_lt.2 (Nat.le_trans hSW533.size h)))
           refine WL.nil (WH.ret hSW542 (WH.one (i := 10) (by kernel_rfl) rfl ?_))
           obtain ⟨u544, hu544, hF⟩ := bindE hF
           refine wl_indexoF (e := ty_3) (i := 5) Try.underlying29 rfl rfl rfl hS540 rfl hu544 ?_
           rintro p545 _ rfl hp546 ho547
           refine WL.nil (WH.ret hSW542 (WH.one (i := 11) (by kernel_rfl) rfl (wl_storeo (i := 5) (o := 0) (vs := [(.int .i64 u535.1)]) (u' := u535.1) fl_3 tf_3 rfl rfl rfl rfl ho547 hu544 hB539 hS540 rfl rfl ⟨rfl, trivial⟩ rfl ?_)))
           intro w548 hk551 hB549 hS550
           have hSW552 := hSW542.wr' hk551.1 hk551.2.1 (fun _ _ h => List.mem_append_left _ (List.mem_append_right _ h))
           have hbs553 : ∀ b, b < w429.heap.size → b ∈ F171 → b ∈ (([b0] ++ F171) ++ [b42]) := fun b hlt hb => (hk551.2.2 b hb).elim ((fun _ _ h => List.mem_append_left _ (List.mem_append_right _ h)) b hlt) (fun h => absurd hlt (Nat.not_lt.2 (Nat.le_trans hSW542.size h)))
           refine WL.nil (WH.ret hSW552 (WH.done (by kernel_rfl) ?_))
           exact fun a ha => hJ195 (u535.2.2.1) (u535.2.2.2) (u163.2.1) (u163.2.2.1) ((seti u163.2.2.2 0 u535.1)) (v168) (F169) (v170) (F171) _ hF hB549 (hS550.sel [6, 0, 7, 2, 3, 4, 5, 12] rfl) a (ha.sub ⟨rfl, rfl, trivial⟩)
          ·
           refine wl_lit (vs := [(.int .i64 (-1)), (.int .i64 u163.2.1), (.int .i64 (w64 (u163.2.1 + 1)))]) (l := [(-1), u163.2.1, (w64 (u163.2.1 + 1))]) fl_3 Try.underlying29 rfl rfl rfl rfl rfl rfl (Below.self w429) (Sep.nil _ _) ?_
           intro v554 F555 w556 hb557 hB560 hM561
           have hB558 := hB431.trans (hb557.mono hB431.size)
           have hS559 := hS432.join hb557 hM561 hB431.size
           have hn562 : ∀ b ∈ F555, w429.heap.size ≤ b := fun b hb => Nat.le_trans hSW433.size ((hM561.1 _ (List.mem_cons_self ..)).2.1 b hb).1
           have hSW563 := hSW433.ext hb557
           have hbS564 : Below w429.heap.size w429 w556 := hb557
           refine WL.nil (WH.ret hSW563 (WH.many (is := [1, 9]) (by kernel_rfl) rfl (List.forall_mem_cons.2 ⟨⟨_, rfl, ?_⟩, List.forall_mem_cons.2 ⟨⟨_, rfl, ?_⟩, fun _ h => by cases h⟩⟩)))
           ·
            refine wl_load_blk (i := 12) (vs := [v170]) (v := v170) tf_29 rfl rfl hS559 rfl rfl rfl (WL.nil (WH.ret hSW563 (WH.one (i := 9) (by kernel_rfl) rfl ?_)))
            obtain ⟨u565, hu565, hF⟩ := bindE hF
            refine wl_call rfl Try.call136 (C_spec_l1Cur__among__mut__box w556 (x0.1, u202.2.2.1, u202.2.2.2) b0 v0_0 (h0_0.rsto (hS559.sel [6, 1] rfl)) [(-1), u163.2.1, (w64 (u163.2.1 + 1))] v554 (own_out (hS559.sel [0, 1] rfl)) (hS559.sel [1] rfl).base0 _ hu565) rfl ?_
            rintro _ w566 ⟨rfl, hE567, hM568⟩
            refine ⟨_, rfl, ?_⟩
            have hB569 := hS559.takeB [1] rfl (M := [R.blk b0 131 [v0_0, (.int .i64 u202.2.2.1), (.int .u64 u202.2.2.2)]]) rfl hB558 hE567 hM568
            have hS570 : Sep (wE w0).heap.size w566 [R.blk b0 131 [v0_0, (.int .i64 u565.2.2.1), (.int .u64 u565.2.2.2)], R.own ty_3 F555 v554 [(-1), u163.2.1, (w64 (u163.2.1 + 1))], R.own ty_63 F165 v164 u163.1.1, R.own ty_3 F167 v166 u163.1.2.1, R.own ty_3 F169 v168 u163.2.2.1, R.own ty_3 F171 v170 u163.2.2.2, R.rest w0 (fps [R.blk b0 131 [v0_0, (.int .i64 x0.2.1), (.int .u64 x0.2.2)]]), R.blk b2 102 [(.slice none 0 0), (.slice none 0 0), (.int .i64 0), (.int .i64 0), (.int .i64 0), (.slice none 0 0), (.slice none 0 0)], R.own ty_63 F77 v76 l75, R.own ty_3 F80 v79 l78, R.own ty_3 F86 v85 l84, R.own ty_3 F89 v88 l87, R.blk b42 102 [v164, v166, (.int .i64 u163.1.2.2.1), (.int .i64 u163.1.2.2.2), (.int .i64 u163.2.1), v168, v170], R.own ty_219 F71 v70 u63.1] := hS559.take [1] [0, 2, 3, 4, 5, 6, 7, 8, 9, 10, 11, 12, 13] rfl (M := [R.blk b0 131 [v0_0, (.int .i64 u202.2.2.1), (.int .u64 u202.2.2.2)]]) rfl hM568 hB558.size
            have hk571 := box_kept hM568
            have hSW572 := hSW563.wr' hk571.1 hk571.2.1 (fun _ _ h => List.mem_append_left _ (List.mem_append_left _ (h)))
            have hbs573 : ∀ b, b < w429.heap.size → b ∈ [b0] → b ∈ (([b0] ++ F171) ++ [b42]) := fun b hlt hb => (hk571.2.2 b hb).elim ((fun _ _ h => List.mem_append_left _ (List.mem_append_left _ (h))) b hlt) (fun h => absurd hlt (Nat.not_lt.2 (Nat.le_trans hSW563.size h)))
            refine WL.nil (WH.ret hSW572 (WH.one (i := 10) (by kernel_rfl) rfl ?_))
            obtain ⟨u574, hu574, hF⟩ := bindE hF
            refine wl_indexoF (e := ty_3) (i := 5) Try.underlying29 rfl rfl rfl hS570 rfl hu574 ?_
            rintro p575 _ rfl hp576 ho577
            refine WL.nil (WH.ret hSW572 (WH.one (i := 11) (by kernel_rfl) rfl (wl_storeo (i := 5) (o := 0) (vs := [(.int .i64 u565.1)]) (u' := u565.1) fl_3 tf_3 rfl rfl rfl rfl ho577 hu574 hB569 hS570 rfl rfl ⟨rfl, trivial⟩ rfl ?_)))
            intro w578 hk581 hB579 hS580
            have hSW582 := hSW572.wr' hk581.1 hk581.2.1 (fun _ _ h => List.mem_append_left _ (List.mem_append_right _ h))
            have hbs583 : ∀ b, b < w429.heap.size → b ∈ F171 → b ∈ (([b0] ++ F171) ++ [b42]) := fun b hlt hb => (hk581.2.2 b hb).elim ((fun _ _ h => List.mem_append_left _ (List.mem_append_right _ h)) b hlt) (fun h => absurd hlt (Nat.not_lt.2 (Nat.le_trans hSW572.size h)))
            refine WL.nil (WH.ret hSW582 (WH.done (by kernel_rfl) ?_))
            exact fun a ha => hJ195 (u565.2.2.1) (u565.2.2.2) (u163.2.1) (u163.2.2.1) ((seti u163.2.2.2 0 u565.1)) (v168) (F169) (v170) (F171) _ hF hB579 (hS580.sel [6, 0, 7, 2, 3, 4, 5, 12] rfl) a (ha.sub ⟨rfl, rfl, trivial⟩)
           ·
            obtain ⟨u584, hu584, hF⟩ := bindE hF
            refine wl_call rfl Try.call136 (C_spec_l1Cur__among__mut__box w556 (x0.1, u202.2.2.1, u202.2.2.2) b0 v0_0 (h0_0.rsto (hS559.sel [6, 1] rfl)) [(-1), u163.2.1, (w64 (u163.2.1 + 1))] v554 (own_out (hS559.sel [0, 1] rfl)) (hS559.sel [1] rfl).base0 _ hu584) rfl ?_
            rintro _ w585 ⟨rfl, hE586, hM587⟩
            refine ⟨_, rfl, ?_⟩
            have hB588 := hS559.takeB [1] rfl (M := [R.blk b0 131 [v0_0, (.int .i64 u202.2.2.1), (.int .u64 u202.2.2.2)]]) rfl hB558 hE586 hM587
            have hS589 : Sep (wE w0).heap.size w585 [R.blk b0 131 [v0_0, (.int .i64 u584.2.2.1), (.int .u64 u584.2.2.2)], R.own ty_3 F555 v554 [(-1), u163.2.1, (w64 (u163.2.1 + 1))], R.own ty_63 F165 v164 u163.1.1, R.own ty_3 F167 v166 u163.1.2.1, R.own ty_3 F169 v168 u163.2.2.1, R.own ty_3 F171 v170 u163.2.2.2, R.rest w0 (fps [R.blk b0 131 [v0_0, (.int .i64 x0.2.1), (.int .u64 x0.2.2)]]), R.blk b2 102 [(.slice none 0 0), (.slice none 0 0), (.int .i64 0), (.int .i64 0), (.int .i64 0), (.slice none 0 0), (.slice none 0 0)], R.own ty_63 F77 v76 l75, R.own ty_3 F80 v79 l78, R.own ty_3 F86 v85 l84, R.own ty_3 F89 v88 l87, R.blk b42 102 [v164, v166, (.int .i64 u163.1.2.2.1), (.int .i64 u163.1.2.2.2), (.int .i64 u163.2.1), v168, v170], R.own ty_219 F71 v70 u63.1] := hS559.take [1] [0, 2, 3, 4, 5, 6, 7, 8, 9, 10, 11, 12, 13] rfl (M := [R.blk b0 131 [v0_0, (.int .i64 u202.2.2.1), (.int .u64 u202.2.2.2)]]) rfl hM587 hB558.size
            have hk590 := box_kept hM587
            have hSW591 := hSW563.wr' hk590.1 hk590.2.1 (fun _ _ h => List.mem_append_left _ (List.mem_append_left _ (h)))
            have hbs592 : ∀ b, b < w429.heap.size → b ∈ [b0] → b ∈ (([b0] ++ F171) ++ [b42]) := fun b hlt hb => (hk590.2.2 b hb).elim ((fun _ _ h => List.mem_append_left _ (List.mem_append_left _ (h))) b hlt) (fun h => absurd hlt (Nat.not_lt.2 (Nat.le_trans hSW563.size h)))
            refine WL.nil (WH.ret hSW591 (WH.one (i := 1) (by kernel_rfl) rfl (wl_load_blk (i := 12) (vs := [v170]) (v := v170) tf_29 rfl rfl hS589 rfl rfl rfl (WL.nil (WH.ret hSW591 (WH.one (i := 10) (by kernel_rfl) rfl ?_))))))
            obtain ⟨u593, hu593, hF⟩ := bindE hF
            refine wl_indexoF (e := ty_3) (i := 5) Try.underlying29 rfl rfl rfl hS589 rfl hu593 ?_
            rintro p594 _ rfl hp595 ho596
            refine WL.nil (WH.ret hSW591 (WH.one (i := 11) (by kernel_rfl) rfl (wl_storeo (i := 5) (o := 0) (vs := [(.int .i64 u584.1)]) (u' := u584.1) fl_3 tf_3 rfl rfl rfl rfl ho596 hu593 hB588 hS589 rfl rfl ⟨rfl, trivial⟩ rfl ?_)))
            intro w597 hk600 hB598 hS599
            have hSW601 := hSW591.wr' hk600.1 hk600.2.1 (fun _ _ h => List.mem_append_left _ (List.mem_append_right _ h))
            have hbs602 : ∀ b, b < w429.heap.size → b ∈ F171 → b ∈ (([b0] ++ F171) ++ [b42]) := fun b hlt hb => (hk600.2.2 b hb).elim ((fun _ _ h => List.mem_append_left _ (List.mem_append_right _ h)) b hlt) (fun h => absurd hlt (Nat.not_lt.2 (Nat.le_trans hSW591.size h)))
            refine WL.nil (WH.ret hSW601 (WH.done (by kernel_rfl) ?_))
            exact fun a ha => hJ195 (u584.2.2.1) (u584.2.2.2) (u163.2.1) (u163.2.2.1) ((seti u163.2.2.2 0 u584.1)) (v168) (F169) (v170) (F171) _ hF hB598 (hS599.sel [6, 0, 7, 2, 3, 4, 5, 12] rfl) a (ha.sub ⟨rfl, rfl, trivial⟩)
        ·
         refine wl_load_blk (i := 11) (vs := [(.int .i64 u163.2.1)]) (v := (.int .i64 u163.2.1)) tf_3 rfl rfl hS432 rfl rfl rfl (WL.nil (WH.ret hSW433 (WH.takex (i := 7) rfl (by kernel_rfl) (by kernel_rfl) (by kernel_rfl) hP hSW433 (pr_add rfl rfl rfl (WH.many (is := [1, 4]) (by kernel_rfl) rfl (List.forall_mem_cons.2 ⟨⟨_, rfl, ?_⟩, List.forall_mem_cons.2 ⟨⟨_, rfl, ?_⟩, fun _ h => by cases h⟩⟩))))))
         ·
          refine wl_load_blk (i := 11) (vs := [v170]) (v := v170) tf_29 rfl rfl hS432 rfl rfl rfl (WL.nil (WH.ret hSW433 (WH.one (i := 4) (by kernel_rfl) rfl (wl_load_blk (i := 11) (vs := [(.int .i64 u163.2.1)]) (v := (.int .i64 u163.2.1)) tf_3 rfl rfl hS432 rfl rfl rfl (WL.nil (WH.ret hSW433 (WH.one (i := 8) (by kernel_rfl) rfl (wl_lit (vs := [(.int .i64 (-1)), (.int .i64 u163.2.1), (.int .i64 (w64 (u163.2.1 + 1)))]) (l := [(-1), u163.2.1, (w64 (u163.2.1 + 1))]) fl_3 Try.underlying29 rfl rfl rfl rfl rfl rfl (Below.self w429) (Sep.nil _ _) ?_))))))))
          intro v603 F604 w605 hb606 hB609 hM610
          have hB607 := hB431.trans (hb606.mono hB431.size)
          have hS608 := hS432.join hb606 hM610 hB431.size
          have hn611 : ∀ b ∈ F604, w429.heap.size ≤ b := fun b hb => Nat.le_trans hSW433.size ((hM610.1 _ (List.mem_cons_self ..)).2.1 b hb).1
          have hSW612 := hSW433.ext hb606
          have hbS613 : Below w429.heap.size w429 w605 := hb606
          refine WL.nil (WH.ret hSW612 (WH.one (i := 9) (by kernel_rfl) rfl ?_))
          obtain ⟨u614, hu614, hF⟩ := bindE hF
          refine wl_call rfl Try.call136 (C_spec_l1Cur__among__mut__box w605 (x0.1, u202.2.2.1, u202.2.2.2) b0 v0_0 (h0_0.rsto (hS608.sel [6, 1] rfl)) [(-1), u163.2.1, (w64 (u163.2.1 + 1))] v603 (own_out (hS608.sel [0, 1] rfl)) (hS608.sel [1] rfl).base0 _ hu614) rfl ?_
          rintro _ w615 ⟨rfl, hE616, hM617⟩
          refine ⟨_, rfl, ?_⟩
          have hB618 := hS608.takeB [1] rfl (M := [R.blk b0 131 [v0_0, (.int .i64 u202.2.2.1), (.int .u64 u202.2.2.2)]]) rfl hB607 hE616 hM617
          have hS619 : Sep (wE w0).heap.size w615 [R.blk b0 131 [v0_0, (.int .i64 u614.2.2.1), (.int .u64 u614.2.2.2)], R.own ty_3 F604 v603 [(-1), u163.2.1, (w64 (u163.2.1 + 1))], R.own ty_63 F165 v164 u163.1.1, R.own ty_3 F167 v166 u163.1.2.1, R.own ty_3 F169 v168 u163.2.2.1, R.own ty_3 F171 v170 u163.2.2.2, R.rest w0 (fps [R.blk b0 131 [v0_0, (.int .i64 x0.2.1), (.int .u64 x0.2.2)]]), R.blk b2 102 [(.slice none 0 0), (.slice none 0 0), (.int .i64 0), (.int .i64 0), (.int .i64 0), (.slice none 0 0), (.slice none 0 0)], R.own ty_63 F77 v76 l75, R.own ty_3 F80 v79 l78, R.own ty_3 F86 v85 l84, R.own ty_3 F89 v88 l87, R.blk b42 102 [v164, v166, (.int .i64 u163.1.2.2.1), (.int .i64 u163.1.2.2.2), (.int .i64 u163.2.1), v168, v170], R.own ty_219 F71 v70 u63.1] := hS608.take [1] [0, 2, 3, 4, 5, 6, 7, 8, 9, 10, 11, 12, 13] rfl (M := [R.blk b0 131 [v0_0, (.int .i64 u202.2.2.1), (.int .u64 u202.2.2.2)]]) rfl hM617 hB607.size
          have hk620 := box_kept hM617
          have hSW621 := hSW612.wr' hk620.1 hk620.2.1 (fun _ _ h => List.mem_append_left _ (List.mem_append_left _ (h)))
          have hbs622 : ∀ b, b < w429.heap.size → b ∈ [b0] → b ∈ (([b0] ++ F171) ++ [b42]) := fun b hlt hb => (hk620.2.2 b hb).elim ((fun _ _ h => List.mem_append_left _ (List.mem_append_left _ (h))) b hlt) (fun h => absurd hlt (Nat.not_lt.2 (Nat.le_trans hSW612.size h)))
          refine WL.nil (WH.ret hSW621 (WH.one (i := 10) (by kernel_rfl) rfl ?_))
          obtain ⟨u623, hu623, hF⟩ := bindE hF
          refine wl_indexoF (e := ty_3) (i := 5) Try.underlying29 rfl rfl rfl hS619 rfl hu623 ?_
          rintro p624 _ rfl hp625 ho626
          refine WL.nil (WH.ret hSW621 (WH.one (i := 11) (by kernel_rfl) rfl (wl_storeo (i := 5) (o := 0) (vs := [(.int .i64 u614.1)]) (u' := u614.1) fl_3 tf_3 rfl rfl rfl rfl ho626 hu623 hB618 hS619 rfl rfl ⟨rfl, trivial⟩ rfl ?_)))
          intro w627 hk630 hB628 hS629
          have hSW631 := hSW621.wr' hk630.1 hk630.2.1 (fun _ _ h => List.mem_append_left _ (List.mem_append_right _ h))
          have hbs632 : ∀ b, b < w429.heap.size → b ∈ F171 → b ∈ (([b0] ++ F171) ++ [b42]) := fun b hlt hb => (hk630.2.2 b hb).elim ((fun _ _ h => List.mem_append_left _ (List.mem_append_right _ h)) b hlt) (fun h => absurd hlt (Nat.not_lt.2 (Nat.le_trans hSW621.size h)))
          refine WL.nil (WH.ret hSW631 (WH.done (by kernel_rfl) ?_))
          exact fun a ha => hJ195 (u614.2.2.1) (u614.2.2.2) (u163.2.1) (u163.2.2.1) ((seti u163.2.2.2 0 u614.1)) (v168) (F169) (v170) (F171) _ hF hB628 (hS629.sel [6, 0, 7, 2, 3, 4, 5, 12] rfl) a (ha.sub ⟨rfl, rfl, trivial⟩)
         ·
          refine wl_load_blk (i := 11) (vs := [(.int .i64 u163.2.1)]) (v := (.int .i64 u163.2.1)) tf_3 rfl rfl hS432 rfl rfl rfl (WL.nil (WH.ret hSW433 (WH.many (is := [1, 8]) (by kernel_rfl) rfl (List.forall_mem_cons.2 ⟨⟨_, rfl, ?_⟩, List.forall_mem_cons.2 ⟨⟨_, rfl, ?_⟩, fun _ h => by cases h⟩⟩))))
          ·
           refine wl_load_blk (i := 11) (vs := [v170]) (v := v170) tf_29 rfl rfl hS432 rfl rfl rfl (WL.nil (WH.ret hSW433 (WH.one (i := 8) (by kernel_rfl) rfl (wl_lit (vs := [(.int .i64 (-1)), (.int .i64 u163.2.1), (.int .i64 (w64 (u163.2.1 + 1)))]) (l := [(-1), u163.2.1, (w64 (u163.2.1 + 1))]) fl_3 Try.underlying29 rfl rfl rfl rfl rfl rfl (Below.self w429) (Sep.nil _ _) ?_))))
           intro v633 F634 w635 hb636 hB639 hM640
           have hB637 := hB431.trans (hb636.mono hB431.size)
           have hS638 := hS432.join hb636 hM640 hB431.size
           have hn641 : ∀ b ∈ F634, w429.heap.size ≤ b := fun b hb => Nat.le_trans hSW433.size ((hM640.1 _ (List.mem_cons_self ..)).2.1 b hb).1
           have hSW642 := hSW433.ext hb636
           have hbS643 : Below w429.heap.size w429 w635 := hb636
           refine WL.nil (WH.ret hSW642 (WH.one (i := 9) (by kernel_rfl) rfl ?_))
           obtain ⟨u644, hu644, hF⟩ := bindE hF
           refine wl_call rfl Try.call136 (C_spec_l1Cur__among__mut__box w635 (x0.1, u202.2.2.1, u202.2.2.2) b0 v0_0 (h0_0.rsto (hS638.sel [6, 1] rfl)) [(-1), u163.2.1, (w64 (u163.2.1 + 1))] v633 (own_out (hS638.sel [0, 1] rfl)) (hS638.sel [1] rfl).base0 _ hu644) rfl ?_
           rintro _ w645 ⟨rfl, hE646, hM647⟩
           refine ⟨_, rfl, ?_⟩
           have hB648 := hS638.takeB [1] rfl (M := [R.blk b0 131 [v0_0, (.int .i64 u202.2.2.1), (.int .u64 u202.2.2.2)]]) rfl hB637 hE646 hM647
           have hS649 : Sep (wE w0).heap.size w645 [R.blk b0 131 [v0_0, (.int .i64 u644.2.2.1), (.int .u64 u644.2.2.2)], R.own ty_3 F634 v633 [(-1), u163.2.1, (w64 (u163.2.1 + 1))], R.own ty_63 F165 v164 u163.1.1, R.own ty_3 F167 v166 u163.1.2.1, R.own ty_3 F169 v168 u163.2.2.1, R.own ty_3 F171 v170 u163.2.2.2, R.rest w0 (fps [R.blk b0 131 [v0_0, (.int .i64 x0.2.1), (.int .u64 x0.2.2)]]), R.blk b2 102 [(.slice none 0 0), (.slice none 0 0), (.int .i64 0), (.int .i64 0), (.int .i64 0), (.slice none 0 0), (.slice none 0 0)], R.own ty_63 F77 v76 l75, R.own ty_3 F80 v79 l78, R.own ty_3 F86 v85 l84, R.own ty_3 F89 v88 l87, R.blk b42 102 [v164, v166, (.int .i64 u163.1.2.2.1), (.int .i64 u163.1.2.2.2), (.int .i64 u163.2.1), v168, v170], R.own ty_219 F71 v70 u63.1] := hS638.take [1] [0, 2, 3, 4, 5, 6, 7, 8, 9, 10, 11, 12, 13] rfl (M := [R.blk b0 131 [v0_0, (.int .i64 u202.2.2.1), (.int .u64 u202.2.2.2)]]) rfl hM647 hB637.size
           have hk650 := box_kept hM647
           have hSW651 := hSW642.wr' hk650.1 hk650.2.1 (fun _ _ h => List.mem_append_left _ (List.mem_append_left _ (h)))
           have hbs652 : ∀ b, b < w429.heap.size → b ∈ [b0] → b ∈ (([b0] ++ F171) ++ [b42]) := fun b hlt hb => (hk650.2.2 b hb).elim ((fun _ _ h => List.mem_append_left _ (List.mem_append_left _ (h))) b hlt) (fun h => absurd hlt (Nat.not_lt.2 (Nat.le_trans hSW642.size h)))
           refine WL.nil (WH.ret hSW651 (WH.one (i := 10) (by kernel_rfl) rfl ?_))
           obtain ⟨u653, hu653, hF⟩ := bindE hF
           refine wl_indexoF (e := ty_3) (i := 5) Try.underlying29 rfl rfl rfl hS649 rfl hu653 ?_
           rintro p654 _ rfl hp655 ho656
           refine WL.nil (WH.ret hSW651 (WH.one (i := 11) (by kernel_rfl) rfl (wl_storeo (i := 5) (o := 0) (vs := [(.int .i64 u644.1)]) (u' := u644.1) fl_3 tf_3 rfl rfl rfl rfl ho656 hu653 hB648 hS649 rfl rfl ⟨rfl, trivial⟩ rfl ?_)))
           intro w657 hk660 hB658 hS659
           have hSW661 := hSW651.wr' hk660.1 hk660.2.1 (fun _ _ h => List.mem_append_left _ (List.mem_append_right _ h))
           have hbs662 : ∀ b, b < w429.heap.size → b ∈ F171 → b ∈ (([b0] ++ F171) ++ [b42]) := fun b hlt hb => (hk660.2.2 b hb).elim ((fun _ _ h => List.mem_append_left _ (List.mem_append_right _ h)) b hlt) (fun h => absurd hlt (Nat.not_lt.2 (Nat.le_trans hSW651.size h)))
           refine WL.nil (WH.ret hSW661 (WH.done (by kernel_rfl) ?_))
           exact fun a ha => hJ195 (u644.2.2.1) (u644.2.2.2) (u163.2.1) (u163.2.2.1) ((seti u163.2.2.2 0 u644.1)) (v168) (F169) (v170) (F171) _ hF hB658 (hS659.sel [6, 0, 7, 2, 3, 4, 5, 12] rfl) a (ha.sub ⟨rfl, rfl, trivial⟩)
          ·
           refine wl_lit (vs := [(.int .i64 (-1)), (.int .i64 u163.2.1), (.int .i64 (w64 (u163.2.1 + 1)))]) (l := [(-1), u163.2.1, (w64 (u163.2.1 + 1))]) fl_3 Try.underlying29 rfl rfl rfl rfl rfl rfl (Below.self w429) (Sep.nil _ _) ?_
           intro v663 F664 w665 hb666 hB669 hM670
           have hB667 := hB431.trans (hb666.mono hB431.size)
           have hS668 := hS432.join hb666 hM670 hB431.size
           have hn671 : ∀ b ∈ F664, w429.heap.size ≤ b := fun b hb => Nat.le_trans hSW433.size ((hM670.1 _ (List.mem_cons_self ..)).2.1 b hb).1
           have hSW672 := hSW433.ext hb666
           have hbS673 : Below w429.heap.size w429 w665 := hb666
           refine WL.nil (WH.ret hSW672 (WH.many (is := [1, 9]) (by kernel_rfl) rfl (List.forall_mem_cons.2 ⟨⟨_, rfl, ?_⟩, List.forall_mem_cons.2 ⟨⟨_, rfl, ?_⟩, fun _ h => by cases h⟩⟩)))
           ·
            refine wl_load_blk (i := 12) (vs := [v170]) (v := v170) tf_29 rfl rfl hS668 rfl rfl rfl (WL.nil (WH.ret hSW672 (WH.one (i := 9) (by kernel_rfl) rfl ?_)))
            obtain ⟨u674, hu674, hF⟩ := bindE hF
            refine wl_call rfl Try.call136 (C_spec_l1Cur__among__mut__box w665 (x0.1, u202.2.2.1, u202.2.2.2) b0 v0_0 (h0_0.rsto (hS668.sel [6, 1] rfl)) [(-1), u163.2.1, (w64 (u163.2.1 + 1))] v663 (own_out (hS668.sel [0, 1] rfl)) (hS668.sel [1] rfl).base0 _ hu674) rfl ?_
            rintro _ w675 ⟨rfl, hE676, hM677⟩
            refine ⟨_, rfl, ?_⟩
            have hB678 := hS668.takeB [1] rfl (M := [R.blk b0 131 [v0_0, (.int .i64 u202.2.2.1), (.int .u64 u202.2.2.2)]]) rfl hB667 hE676 hM677
            have hS679 : Sep (wE w0).heap.size w675 [R.blk b0 131 [v0_0, (.int .i64 u674.2.2.1), (.int .u64 u674.2.2.2)], R.own ty_3 F664 v663 [(-1), u163.2.1, (w64 (u163.2.1 + 1))], R.own ty_63 F165 v164 u163.1.1, R.own ty_3 F167 v166 u163.1.2.1, R.own ty_3 F169 v168 u163.2.2.1, R.own ty_3 F171 v170 u163.2.2.2, R.rest w0 (fps [R.blk b0 131 [v0_0, (.int .i64 x0.2.1), (.int .u64 x0.2.2)]]), R.blk b2 102 [(.slice none 0 0), (.slice none 0 0), (.int .i64 0), (.int .i64 0), (.int .i64 0), (.slice none 0 0), (.slice none 0 0)], R.own ty_63 F77 v76 l75, R.own ty_3 F80 v79 l78, R.own ty_3 F86 v85 l84, R.own ty_3 F89 v88 l87, R.blk b42 102 [v164, v166, (.int .i64 u163.1.2.2.1), (.int .i64 u163.1.2.2.2), (.int .i64 u163.2.1), v168, v170], R.own ty_219 F71 v70 u63.1] := hS668.take [1] [0, 2, 3, 4, 5, 6, 7, 8, 9, 10, 11, 12, 13] rfl (M := [R.blk b0 131 [v0_0, (.int .i64 u202.2.2.1), (.int .u64 u202.2.2.2)]]) rfl hM677 hB667.size
            have hk680 := box_kept hM677
            have hSW681 := hSW672.wr' hk680.1 hk680.2.1 (fun _ _ h => List.mem_append_left _ (List.mem_append_left _ (h)))
            have hbs682 : ∀ b, b < w429.heap.size → b ∈ [b0] → b ∈ (([b0] ++ F171) ++ [b42]) := fun b hlt hb => (hk680.2.2 b hb).elim ((fun _ _ h => List.mem_append_left _ (List.mem_append_left _ (h))) b hlt) (fun h => absurd hlt (Nat.not_lt.2 (Nat.le_trans hSW672.size h)))
            refine WL.nil (WH.ret hSW681 (WH.one (i := 10) (by kernel_rfl) rfl ?_))
            obtain ⟨u683, hu683, hF⟩ := bindE hF
            refine wl_indexoF (e := ty_3) (i := 5) Try.underlying29 rfl rfl rfl hS679 rfl hu683 ?_
            rintro p684 _ rfl hp685 ho686
            refine WL.nil (WH.ret hSW681 (WH.one (i := 11) (by kernel_rfl) rfl (wl_storeo (i := 5) (o := 0) (vs := [(.int .i64 u674.1)]) (u' := u674.1) fl_3 tf_3 rfl rfl rfl rfl ho686 hu683 hB678 hS679 rfl rfl ⟨rfl, trivial⟩ rfl ?_)))
            intro w687 hk690 hB688 hS689
            have hSW691 := hSW681.wr' hk690.1 hk690.2.1 (fun _ _ h => List.mem_append_left _ (List.mem_append_right _ h))
            have hbs692 : ∀ b, b < w429.heap.size → b ∈ F171 → b ∈ (([b0] ++ F171) ++ [b42]) := fun b hlt hb => (hk690.2.2 b hb).elim ((fun _ _ h => List.mem_append_left _ (List.mem_append_right _ h)) b hlt) (fun h => absurd hlt (Nat.not_lt.2 (Nat.le_trans hSW681.size h)))
            refine WL.nil (WH.ret hSW691 (WH.done (by kernel_rfl) ?_))
            exact fun a ha => hJ195 (u674.2.2.1) (u674.2.2.2) (u163.2.1) (u163.2.2.1) ((seti u163.2.2.2 0 u674.1)) (v168) (F169) (v170) (F171) _ hF hB688 (hS689.sel [6, 0, 7, 2, 3, 4, 5, 12] rfl) a (ha.sub ⟨rfl, rfl, trivial⟩)
           ·
            obtain ⟨u693, hu693, hF⟩ := bindE hF
            refine wl_call rfl Try.call136 (C_spec_l1Cur__among__mut__box w665 (x0.1, u202.2.2.1, u202.2.2.2) b0 v0_0 (h0_0.rsto (hS668.sel [6, 1] rfl)) [(-1), u163.2.1, (w64 (u163.2.1 + 1))] v663 (own_out (hS668.sel [0, 1] rfl)) (hS668.sel [1] rfl).base0 _ hu693) rfl ?_
            rintro _ w694 ⟨rfl, hE695, hM696⟩
            refine ⟨_, rfl, ?_⟩
            have hB697 := hS668.takeB [1] rfl (M := [R.blk b0 131 [v0_0, (.int .i64 u202.2.2.1), (.int .u64 u202.2.2.2)]]) rfl hB667 hE695 hM696
            have hS698 : Sep (wE w0).heap.size w694 [R.blk b0 131 [v0_0, (.int .i64 u693.2.2.1), (.int .u64 u693.2.2.2)], R.own ty_3 F664 v663 [(-1), u163.2.1, (w64 (u163.2.1 + 1))], R.own ty_63 F165 v164 u163.1.1, R.own ty_3 F167 v166 u163.1.2.1, R.own ty_3 F169 v168 u163.2.2.1, R.own ty_3 F171 v170 u163.2.2.2, R.rest w0 (fps [R.blk b0 131 [v0_0, (.int .i64 x0.2.1), (.int .u64 x0.2.2)]]), R.blk b2 102 [(.slice none 0 0), (.slice none 0 0), (.int .i64 0), (.int .i64 0), (.int .i64 0), (.slice none 0 0), (.slice none 0 0)], R.own ty_63 F77 v76 l75, R.own ty_3 F80 v79 l78, R.own ty_3 F86 v85 l84, R.own ty_3 F89 v88 l87, R.blk b42 102 [v164, v166, (.int .i64 u163.1.2.2.1), (.int .i64 u163.1.2.2.2), (.int .i64 u163.2.1), v168, v170], R.own ty_219 F71 v70 u63.1] := hS668.take [1] [0, 2, 3, 4, 5, 6, 7, 8, 9, 10, 11, 12, 13] rfl (M := [R.blk b0 131 [v0_0, (.int .i64 u202.2.2.1), (.int .u64 u202.2.2.2)]]) rfl hM696 hB667.size
            have hk699 := box_kept hM696
            have hSW700 := hSW672.wr' hk699.1 hk699.2.1 (fun _ _ h => List.mem_append_left _ (List.mem_append_left _ (h)))
            have hbs701 : ∀ b, b < w429.heap.size → b ∈ [b0] → b ∈ (([b0] ++ F171) ++ [b42]) := fun b hlt hb => (hk699.2.2 b hb).elim ((fun _ _ h => List.mem_append_left _ (List.mem_append_left _ (h))) b hlt) (fun h => absurd hlt (Nat.not_lt.2 (Nat.le_trans hSW672.size h)))
            refine WL.nil (WH.ret hSW700 (WH.one (i := 1) (by kernel_rfl) rfl (wl_load_blk (i := 12) (vs := [v170]) (v := v170) tf_29 rfl rfl hS698 rfl rfl rfl (WL.nil (WH.ret hSW700 (WH.one (i := 10) (by kernel_rfl) rfl ?_))))))
            obtain ⟨u702, hu702, hF⟩ := bindE hF
            refine wl_indexoF (e := ty_3) (i := 5) Try.underlying29 rfl rfl rfl hS698 rfl hu702 ?_
            rintro p703 _ rfl hp704 ho705
            refine WL.nil (WH.ret hSW700 (WH.one (i := 11) (by kernel_rfl) rfl (wl_storeo (i := 5) (o := 0) (vs := [(.int .i64 u693.1)]) (u' := u693.1) fl_3 tf_3 rfl rfl rfl rfl ho705 hu702 hB697 hS698 rfl rfl ⟨rfl, trivial⟩ rfl ?_)))
            intro w706 hk709 hB707 hS708
            have hSW710 := hSW700.wr' hk709.1 hk709.2.1 (fun _ _ h => List.mem_append_left _ (List.mem_append_right _ h))
            have hbs711 : ∀ b, b < w429.heap.size → b ∈ F171 → b ∈ (([b0] ++ F171) ++ [b42]) := fun b hlt hb => (hk709.2.2 b hb).elim ((fun _ _ h => List.mem_append_left _ (List.mem_append_right _ h)) b hlt) (fun h => absurd hlt (Nat.not_lt.2 (Nat.le_trans hSW700.size h)))
            refine WL.nil (WH.ret hSW710 (WH.done (by kernel_rfl) ?_))
            exact fun a ha => hJ195 (u693.2.2.1) (u693.2.2.2) (u163.2.1) (u163.2.2.1) ((seti u163.2.2.2 0 u693.1)) (v168) (F169) (v170) (F171) _ hF hB707 (hS708.sel [6, 0, 7, 2, 3, 4, 5, 12] rfl) a (ha.sub ⟨rfl, rfl, trivial⟩)
       ·replace hF := ifN h428 hF
        refine W.seq fun K712 hK712 => W.region (wl_eql rfl rfl rfl (wl_assign rfl rfl (WL.nil (fun a ha => hK712 _ _ (W.cond rfl (fun h713 => ?_) (fun h713 => ?_)) a ha))))
        ·replace hF := ifP h713 hF
         refine W.region (wl_field (o := 6) (off' := 6) ff_102_3 rfl rfl rfl (wl_load_blk (i := 11) (vs := [v170]) (v := v170) tf_29 rfl rfl hS207 rfl rfl rfl (wl_lit (vs := [(.int .i64 0)]) (l := [0]) fl_3 Try.underlying29 rfl rfl rfl rfl rfl rfl hB206 hS207 ?_)))
         intro v714 F715 w716 hb717 hB718 hS719
         obtain ⟨u720, hu720, hF⟩ := bindE hF
         refine wl_append (i := 5) (S := (· < w716.heap.size)) fl_3 Try.underlying29 rfl rfl rfl hB718 hS719 rfl (hS719.own_ro (i := 0) rfl) hu720 ?_
         intro v721 F722 w723 hk724 hB725 hS726
         refine wl_field (o := 6) (off' := 6) ff_102_3 rfl rfl rfl (wl_store_blk (i := 12) (vs := [v721]) (cs' := [v164, v166, (.int .i64 u163.1.2.2.1), (.int .i64 u163.1.2.2.2), (.int .i64 u163.2.1), v168, v721]) tf_29 rfl rfl (cells_one (hS726.own_ro (i := 5) rfl).one) rfl hB725 hS726 rfl rfl ⟨(hS726.own_ro (i := 5) rfl).one, trivial⟩ rfl ?_)
         intro w727 hk730 hB728 hS729
         refine WL.nil ?_
         exact fun a ha => hJ195 (u202.2.2.1) (u202.2.2.2) (u163.2.1) (u163.2.2.1) (u720) (v168) (F169) (v721) (F722) _ hF hB728 (hS729.sel [6, 1, 7, 2, 3, 4, 5, 12] rfl) a (ha.sub ⟨rfl, rfl, trivial⟩)
        ·replace hF := ifN h713 hF
         refine W.seq fun K731 hK731 => ?_
         obtain ⟨k736, hk736, hF⟩ := jE1 hF
         have hJ737 : ∀ (y735 : Bool) (w732 : World) (_ : k736 y735 = some r) (_ : Below (wE w0).heap.size (wE w0) w732) (_ : Sep (wE w0).heap.size w732 [R.rest w0 (fps [R.blk b0 131 [v0_0, (.int .i64 x0.2.1), (.int .u64 x0.2.2)]]), R.blk b0 131 [v0_0, (.int .i64 u202.2.2.1), (.int .u64 u202.2.2.2)], R.blk b2 102 [(.slice none 0 0), (.slice none 0 0), (.int .i64 0), (.int .i64 0), (.int .i64 0), (.slice none 0 0), (.slice none 0 0)], R.own ty_63 F165 v164 u163.1.1, R.own ty_3 F167 v166 u163.1.2.1, R.own ty_3 F169 v168 u163.2.2.1, R.own ty_3 F171 v170 u163.2.2.2, R.blk b42 102 [v164, v166, (.int .i64 u163.1.2.2.1), (.int .i64 u163.1.2.2.2), (.int .i64 u163.2.1), v168, v170]]), ∀ a, St 91 [(2, (.pointer (some ⟨b2, 0, none⟩))), (4, (.pointer (some ⟨b42, 0, none⟩))), (83, (.bool y735))] a → K731 a w732 := by
          intro y735 w732 hF hB733 hS734
          subst hk736
          refine fun a ha => hK731 _ _ (W.cond rfl (fun h738 => ?_) (fun h738 => ?_)) a ha
          ·replace hF := ifP h738 hF
           refine W.region (wl_field (o := 4) (off' := 4) ff_102_1 rfl rfl rfl (wl_load_blk (i := 7) (vs := [(.int .i64 u163.2.1)]) (v := (.int .i64 u163.2.1)) tf_3 rfl rfl hS734 rfl rfl rfl (wl_add rfl rfl rfl (wl_field (o := 4) (off' := 4) ff_102_1 rfl rfl rfl (wl_store_blk (i := 7) (vs := [(.int .i64 (w64 (u163.2.1 + 30)))]) (cs' := [v164, v166, (.int .i64 u163.1.2.2.1), (.int .i64 u163.1.2.2.2), (.int .i64 (w64 (u163.2.1 + 30))), v168, v170]) tf_3 rfl rfl rfl rfl hB733 hS734 rfl rfl ⟨rfl, trivial⟩ rfl ?_)))))
           intro w739 hk742 hB740 hS741
           refine WL.nil ?_
           exact fun a ha => hJ195 (u202.2.2.1) (u202.2.2.2) ((w64 (u163.2.1 + 30))) (u163.2.2.1) (u163.2.2.2) (v168) (F169) (v170) (F171) _ hF hB740 (hS741.sel [0, 1, 2, 3, 4, 5, 6, 7] rfl) a (ha.sub ⟨rfl, rfl, trivial⟩)
          ·replace hF := ifN h738 hF
           refine W.skip ?_
           exact fun a ha => hJ195 (u202.2.2.1) (u202.2.2.2) (u163.2.1) (u163.2.2.1) (u163.2.2.2) (v168) (F169) (v170) (F171) _ hF hB733 (hS734.sel [0, 1, 2, 3, 4, 5, 6, 7] rfl) a (ha.sub ⟨rfl, rfl, trivial⟩)
         refine W.seq fun K743 hK743 => W.region (wl_eql rfl rfl rfl (wl_assign rfl rfl (WL.nil (fun a ha => hK743 _ _ (W.cond rfl (fun h744 => ?_) (fun h744 => ?_)) a ha))))
         ·replace hF := ifP h744 hF
          refine W.skip ?_
          exact fun a ha => hJ737 ((u202.1 == 4)) _ hF hB206 (hS207.sel [5, 0, 6, 1, 2, 3, 4, 11] rfl) a (ha.sub ⟨rfl, rfl, rfl, trivial⟩)
         ·replace hF := ifN h744 hF
          refine W.region (wl_eql rfl rfl rfl (wl_assign rfl rfl (WL.nil ?_)))
          exact fun a ha => hJ737 ((u202.1 == 5)) _ hF hB206 (hS207.sel [5, 0, 6, 1, 2, 3, 4, 11] rfl) a (ha.sub ⟨rfl, rfl, rfl, trivial⟩)
theorem C_spec_DrawIsMarch (w0 : World) (x0 : (List Int)) (v0_0 : Value) (h0_0 : rdS ty_5 (· < w0.heap.size) w0 v0_0 x0) (r : (((List (List (Int × Int))) × (List Int) × Int × Int) × Int × (List Int) × (List Int))) (hF : F_spec_DrawIsMarch x0 = some r) :
  Calls Try.prog 193 [v0_0].toArray w0 fun e w' => ∃ (q0 : Value) (G0 : List Nat) (q1 : Value) (G1 : List Nat) (q2 : Value) (G2 : List Nat) (q3 : Value) (G3 : List Nat), e = .returned (.agg #[q0, q1, (.int .i64 r.1.2.2.1), (.int .i64 r.1.2.2.2), (.int .i64 r.2.1), q2, q3]) ∧ Below w0.heap.size w0 w' ∧ Sep w0.heap.size w' [R.own ty_63 G0 q0 r.1.1, R.own ty_3 G1 q1 r.1.2.1, R.own ty_3 G2 q2 r.2.2.1, R.own ty_3 G3 q3 r.2.2.2] := by
 refine calls_mk' Try.func193 rfl Try.ntmps193 rfl rfl fun Q hQ hP => ?_
 have hB : Below w0.heap.size w0 w0 := Below.refl _ _
 have hS : Sep w0.heap.size w0 [] := Sep.nil _ _
 unfold F_spec_DrawIsMarch at hF
 refine W.seq fun K1 hK1 => W.region (wl_alloc (cs := [(.slice none 0 0), (.slice none 0 0), (.int .i64 0), (.int .i64 0), (.int .i64 0), (.slice none 0 0), (.slice none 0 0)]) tf_102 rfl rfl hB hS ?_)
 intro b2 w3 hb4 hB5 hS6
 refine WL.nil fun a ha => hK1 _ _ (W.seq fun K7 hK7 => (W.region (wl_move rfl rfl (wl_build (zs := [(.slice none 0 0), (.int .i64 0), (.int .u64 0)]) (out := [v0_0, (.int .i64 0), (.int .u64 0)]) (vs := [v0_0]) (css := [[v0_0]]) tf_131 pl_131 rfl rfl (by simp only [List.map_cons, List.map_nil, cells_one ((h0_0.ro hB5).one)] <;> rfl) rfl rfl (wl_box (cs := [v0_0, (.int .i64 0), (.int .u64 0)]) rfl rfl rfl hB5 hS6 ?_))))) a ha
 intro b8 w9 hb10 hB11 hS12
 refine wl_assign rfl rfl (WL.nil (fun a ha => hK7 _ _ (W.seq fun K13 hK13 => (W.region (wl_move rfl rfl ?_))) a ha))
 obtain ⟨u14, hu14, hF⟩ := bindE hF
 refine wl_call rfl Try.call245 (C_spec_l1Cur__march__mut__box w9 (x0, 0, 0) b8 v0_0 (h0_0.oldo hB11 (hS12.sel [0] rfl)) (hS12.sel [0] rfl).base0 _ hu14) rfl ?_
 rintro _ w15 ⟨v20, F21, v22, F23, v24, F25, v26, F27, rfl, hE16, hM17⟩
 refine ⟨_, rfl, ?_⟩
 have hB18 := hS12.takeB [0] rfl (M := [R.blk b8 131 [v0_0, (.int .i64 0), (.int .u64 0)]]) rfl hB11 hE16 hM17
 have hS19 : Sep w0.heap.size w15 [R.blk b8 131 [v0_0, (.int .i64 u14.2.2.1), (.int .u64 u14.2.2.2)], R.own ty_63 F21 v20 u14.1.1.1, R.own ty_3 F23 v22 u14.1.1.2.1, R.own ty_3 F25 v24 u14.1.2.2.1, R.own ty_3 F27 v26 u14.1.2.2.2, R.blk b2 102 [(.slice none 0 0), (.slice none 0 0), (.int .i64 0), (.int .i64 0), (.int .i64 0), (.slice none 0 0), (.slice none 0 0)]] := hS12.take [0] [1] rfl (M := [R.blk b8 131 [v0_0, (.int .i64 0), (.int .u64 0)]]) rfl hM17 hB11.size
 refine wl_store_blk (i := 5) (vs := [v20, v22, (.int .i64 u14.1.1.2.2.1), (.int .i64 u14.1.1.2.2.2), (.int .i64 u14.1.2.1), v24, v26]) (cs' := [v20, v22, (.int .i64 u14.1.1.2.2.1), (.int .i64 u14.1.1.2.2.2), (.int .i64 u14.1.2.1), v24, v26]) tf_102 rfl rfl rfl rfl hB18 hS19 rfl rfl ⟨(hS19.own_ro (i := 1) rfl).one, (hS19.own_ro (i := 2) rfl).one, rfl, rfl, rfl, (hS19.own_ro (i := 3) rfl).one, (hS19.own_ro (i := 4) rfl).one, trivial⟩ rfl ?_
 intro w28 hk31 hB29 hS30
 refine WL.nil fun a ha => hK13 _ _ (W.ret ?_) a ha
 have hr := Option.some.inj hF
 subst hr
 exact rets (vs := [(.agg #[v20, v22, (.int .i64 u14.1.1.2.2.1), (.int .i64 u14.1.1.2.2.2), (.int .i64 u14.1.2.1), v24, v26])]) hQ rfl ⟨rv_cell (i := 5) tf_102 rfl hS30 rfl rfl rfl, trivial⟩ ⟨v20, F21, v22, F23, v24, F25, v26, F27, rfl, hB29, hS30.sel [1, 2, 3, 4] rfl⟩
theorem C_spec_DrawPlacesNow (w0 : World) (x0 : (List Int)) (v0_0 : Value) (h0_0 : rdS ty_5 (· < w0.heap.size) w0 v0_0 x0) (r : (((List (List (Int × Int))) × (List Int) × Int × Int) × Int × (List Int) × (List Int))) (hF : F_spec_DrawPlacesNow x0 = some r) :
  Calls Try.prog 90 [v0_0].toArray w0 fun e w' => ∃ (q0 : Value) (G0 : List Nat) (q1 : Value) (G1 : List Nat) (q2 : Value) (G2 : List Nat) (q3 : Value) (G3 : List Nat), e = .returned (.agg #[q0, q1, (.int .i64 r.1.2.2.1), (.int .i64 r.1.2.2.2), (.int .i64 r.2.1), q2, q3]) ∧ Below w0.heap.size w0 w' ∧ Sep w0.heap.size w' [R.own ty_63 G0 q0 r.1.1, R.own ty_3 G1 q1 r.1.2.1, R.own ty_3 G2 q2 r.2.2.1, R.own ty_3 G3 q3 r.2.2.2] := by
 refine calls_mk' Try.func90 rfl Try.ntmps90 rfl rfl fun Q hQ hP => ?_
 have hB : Below w0.heap.size w0 w0 := Below.refl _ _
 have hS : Sep w0.heap.size w0 [] := Sep.nil _ _
 unfold F_spec_DrawPlacesNow at hF
 refine W.seq fun K1 hK1 => W.region (wl_alloc (cs := [(.slice none 0 0), (.slice none 0 0), (.int .i64 0), (.int .i64 0), (.int .i64 0), (.slice none 0 0), (.slice none 0 0)]) tf_102 rfl rfl hB hS ?_)
 intro b2 w3 hb4 hB5 hS6
 refine WL.nil fun a ha => hK1 _ _ (W.seq fun K7 hK7 => (W.region (wl_move rfl rfl ?_))) a ha
 obtain ⟨u8, hu8, hF⟩ := bindE hF
 refine wl_call rfl Try.call193 (C_spec_DrawIsMarch w3 x0 v0_0 (h0_0.ro hB5) _ hu8) rfl ?_
 rintro _ w17 ⟨v9, F10, v11, F12, v13, F14, v15, F16, rfl, hb18, hM21⟩
 refine ⟨_, rfl, ?_⟩
 have hB19 := hB5.trans (hb18.mono hB5.size)
 have hS20 := hS6.join hb18 hM21 hB5.size
 refine wl_store_blk (i := 4) (vs := [v9, v11, (.int .i64 u8.1.2.2.1), (.int .i64 u8.1.2.2.2), (.int .i64 u8.2.1), v13, v15]) (cs' := [v9, v11, (.int .i64 u8.1.2.2.1), (.int .i64 u8.1.2.2.2), (.int .i64 u8.2.1), v13, v15]) tf_102 rfl rfl rfl rfl hB19 hS20 rfl rfl ⟨(hS20.own_ro (i := 0) rfl).one, (hS20.own_ro (i := 1) rfl).one, rfl, rfl, rfl, (hS20.own_ro (i := 2) rfl).one, (hS20.own_ro (i := 3) rfl).one, trivial⟩ rfl ?_
 intro w22 hk25 hB23 hS24
 refine WL.nil fun a ha => hK7 _ _ (W.ret ?_) a ha
 have hr := Option.some.inj hF
 subst hr
 exact rets (vs := [(.agg #[v9, v11, (.int .i64 u8.1.2.2.1), (.int .i64 u8.1.2.2.2), (.int .i64 u8.2.1), v13, v15])]) hQ rfl ⟨rv_cell (i := 4) tf_102 rfl hS24 rfl rfl rfl, trivial⟩ ⟨v9, F10, v11, F12, v13, F14, v15, F16, rfl, hB23, hS24.sel [0, 1, 2, 3] rfl⟩
theorem C_impl_arePerformers (w0 : World) (x0 : (List Int)) (v0_0 : Value) (h0_0 : rdS ty_3 (· < w0.heap.size) w0 v0_0 x0) (x1 : Int) (r : Bool) (hF : F_impl_arePerformers x0 x1 = some r) :
  Calls Try.prog 200 [v0_0, (.int .i64 x1)].toArray w0 fun e w' => e = .returned (.bool r) ∧ Below w0.heap.size w0 w' := by
 refine calls_mk' Try.func200 rfl Try.ntmps200 rfl rfl fun Q hQ hP => ?_
 have hB : Below w0.heap.size w0 w0 := Below.refl _ _
 have hS : Sep w0.heap.size w0 [] := Sep.nil _ _
 unfold F_impl_arePerformers at hF
 refine W.seq fun K1 hK1 => W.region (wl_assign rfl rfl (WL.nil (fun a ha => hK1 _ _ (W.seq fun K2 hK2 => (W.seq fun K3 hK3 => (W.region (wl_move rfl rfl (wl_lenr (e := ty_3) (l := x0) Try.underlying29 rfl rfl h0_0 (wl_move rfl rfl (WL.nil (fun a ha => hK3 _ _ (W.block ?_) a ha)))))))) a ha)))
 refine W.loopk (fun m a w4 => ∃ (y7 : Int), St 33 [(0, v0_0), (1, (.int .i64 x1)), (7, v0_0), (8, (.int .i64 (List.length x0 : Int))), (9, (.int .i64 y7))] a ∧ Below w0.heap.size w0 w4 ∧ Sep w0.heap.size w4 [] ∧ F_impl_arePerformers_L1 x0 x1 m y7 = some r) FU ?_ ?_
 ·
  exact fun a ha => ⟨0, ha.sub ⟨rfl, rfl, rfl, rfl, rfl, trivial⟩, hB, (hS.sel [] rfl), hF⟩
 ·
  rintro m10 a w4 ⟨y7, ha, hB5, hS6, hF⟩ KL9 hKL9
  refine W.at ?_ ha
  cases m10 with
  | zero => exact noneE hF
  | succ m10 =>
   obtain ⟨nx8, hnx8⟩ : ∃ k, k = F_impl_arePerformers_L1 x0 x1 m10 := ⟨_, rfl⟩
   rw [F_impl_arePerformers_L1, ← hnx8] at hF
   refine W.seq fun K11 hK11 => W.region (wl_lss rfl rfl rfl (WL.nil (fun a ha => hK11 _ _ (W.seq fun K12 hK12 => (W.cond rfl (fun h13 => ?_) (fun h13 => ?_))) a ha)))
   ·replace hF := ifP h13 hF
    refine W.skip fun a ha => hK12 _ _ (W.seq fun K14 hK14 => (W.block (W.seq fun K15 hK15 => (W.region (wl_move rfl rfl ?_))))) a ha
    obtain ⟨u16, hu16, hF⟩ := bindE hF
    refine wl_index (e := ty_3) Try.underlying29 rfl rfl rfl h0_0 hu16 ?_
    rintro p17 _ rfl hp18
    refine wl_load_p (vs := [(.int .i64 u16)]) (v := (.int .i64 u16)) tf_3 rfl rfl (hp18.ro hB5) rfl rfl (wl_assign rfl rfl (wl_assign rfl rfl (WL.nil (fun a ha => hK15 _ _ (W.seq fun K19 hK19 => ?_) a ha))))
    obtain ⟨k24, hk24, hF⟩ := jE1 hF
    have hJ25 : ∀ (y23 : Bool) (w20 : World) (_ : k24 y23 = some r) (_ : Below w0.heap.size w0 w20) (_ : Sep w0.heap.size w20 []), ∀ a, St 33 [(0, v0_0), (1, (.int .i64 x1)), (7, v0_0), (8, (.int .i64 (List.length x0 : Int))), (9, (.int .i64 y7)), (31, (.bool y23))] a → K19 a w20 := by
     intro y23 w20 hF hB21 hS22
     subst hk24
     refine fun a ha => hK19 _ _ (W.cond rfl (fun h26 => ?_) (fun h26 => ?_)) a ha
     ·replace hF := ifP h26 hF
      refine W.seq fun K27 hK27 => W.region (wl_assign rfl rfl (WL.nil (fun a ha => hK27 _ _ (W.ret ?_) a ha)))
      have hr := Option.some.inj hF
      subst hr
      exact rets (vs := [(.bool false)]) hQ rfl ⟨rv_tmp rfl, trivial⟩ ⟨rfl, hB21⟩
     ·replace hF := ifN h26 hF
      refine W.skip fun a ha => hK14 _ _ (W.region (wl_add rfl rfl rfl (wl_move rfl rfl (WL.nil ?_)))) a ha
      rw [hnx8] at hF
      exact fun a ha => hKL9 a _ m10 (Nat.lt_succ_self m10) ⟨(w64 (y7 + 1)), ha.sub ⟨rfl, rfl, rfl, rfl, rfl, trivial⟩, hB21, (hS22.sel [] rfl), hF⟩
    refine W.region (wl_move rfl rfl (wl_move rfl rfl (wl_sub rfl rfl rfl ?_)))
    obtain ⟨u28, hu28, hF⟩ := bindE hF
    refine wl_call rfl Try.call128 (C_impl_within w4 u16 0 (w64 (x1 - 1)) _ hu28) rfl ?_
    rintro _ w29 ⟨rfl, hb30⟩
    refine ⟨_, rfl, ?_⟩
    have hB31 := hB5.trans (hb30.mono hB5.size)
    have hS32 := hS6.below hb30
    refine wl_not rfl rfl (wl_move rfl rfl ?_)
    rcases bE (!u28) with h34 | h34
    ·replace hF := ifP h34 hF
     refine wl_off rfl rfl rfl h34 (wl_off rfl rfl rfl h34 (wl_off rfl rfl rfl h34 (wl_offu rfl rfl rfl (wl_offu rfl rfl rfl (wl_offu rfl rfl rfl (wl_offu rfl rfl rfl (wl_offu rfl rfl rfl (wl_offu rfl rfl rfl (wl_offu rfl rfl rfl (wl_off rfl rfl rfl h34 (wl_pick_t rfl rfl h34 rfl (WL.nil ?_))))))))))))
     exact fun a ha => hJ25 (true) _ hF hB31 (hS32.sel [] rfl) a (ha.sub ⟨rfl, rfl, rfl, rfl, rfl, rfl, trivial⟩)
    ·replace hF := ifN h34 hF
     refine wl_on rfl rfl h34 (wl_move rfl rfl (wl_on rfl rfl h34 (wl_gtr rfl rfl rfl (wl_on rfl rfl h34 (wl_move rfl rfl ?_)))))
     rcases bE (decide (0 < y7)) with h35 | h35
     ·replace hF := ifP h35 hF
      refine wl_on rfl rfl h35 (wl_move rfl rfl (wl_on rfl rfl h35 (wl_move rfl rfl (wl_on rfl rfl h35 (wl_sub rfl rfl rfl (wl_on rfl rfl h35 ?_))))))
      obtain ⟨u36, hu36, hF⟩ := bindE hF
      refine wl_index (e := ty_3) Try.underlying29 rfl rfl rfl h0_0 hu36 ?_
      rintro p37 _ rfl hp38
      refine wl_on rfl rfl h35 (wl_load_p (vs := [(.int .i64 u36)]) (v := (.int .i64 u36)) tf_3 rfl rfl (hp38.ro hB31) rfl rfl (wl_on rfl rfl h35 (wl_move rfl rfl (wl_on rfl rfl h35 (wl_geq rfl rfl rfl (wl_on rfl rfl h34 (wl_pick_t rfl rfl h35 rfl (wl_pick_f rfl rfl h34 rfl (WL.nil ?_)))))))))
      exact fun a ha => hJ25 ((decide (u16 ≤ u36))) _ hF hB31 (hS32.sel [] rfl) a (ha.sub ⟨rfl, rfl, rfl, rfl, rfl, rfl, trivial⟩)
     ·replace hF := ifN h35 hF
      refine wl_off rfl rfl rfl h35 (wl_off rfl rfl rfl h35 (wl_off rfl rfl rfl h35 (wl_off rfl rfl rfl h35 (wl_off rfl rfl rfl h35 (wl_off rfl rfl rfl h35 (wl_off rfl rfl rfl h35 (wl_on rfl rfl h34 (wl_pick_f rfl rfl h35 rfl (wl_pick_f rfl rfl h34 rfl (WL.nil ?_))))))))))
      exact fun a ha => hJ25 (false) _ hF hB31 (hS32.sel [] rfl) a (ha.sub ⟨rfl, rfl, rfl, rfl, rfl, rfl, trivial⟩)
   ·replace hF := ifN h13 hF
    refine W.exit fun a ha => hK2 _ _ (W.seq fun K39 hK39 => (W.region (wl_assign rfl rfl (WL.nil (fun a ha => hK39 _ _ (W.ret ?_) a ha))))) a ha
    have hr := Option.some.inj hF
    subst hr
    exact rets (vs := [(.bool true)]) hQ rfl ⟨rv_tmp rfl, trivial⟩ ⟨rfl, hB5⟩
theorem C_impl_totalCounts (w0 : World) (x0 : ((List (List (Int × Int))) × (List Int) × Int × Int)) (v0_0 : Value) (h0_0 : rdS ty_63 (· < w0.heap.size) w0 v0_0 x0.1) (v0_1 : Value) (h0_1 : rdS ty_3 (· < w0.heap.size) w0 v0_1 x0.2.1) (r : Int) (hF : F_impl_totalCounts x0 = some r) :
  Calls Try.prog 177 [(.agg #[v0_0, v0_1, (.int .i64 x0.2.2.1), (.int .i64 x0.2.2.2)])].toArray w0 fun e w' => e = .returned (.int .i64 r) ∧ Below w0.heap.size w0 w' := by
 refine calls_mk' Try.func177 rfl Try.ntmps177 rfl rfl fun Q hQ hP => ?_
 have hB : Below w0.heap.size w0 w0 := Below.refl _ _
 have hS : Sep w0.heap.size w0 [] := Sep.nil _ _
 unfold F_impl_totalCounts at hF
 refine W.seq fun K1 hK1 => W.region (wl_box (cs := [v0_0, v0_1, (.int .i64 x0.2.2.1), (.int .i64 x0.2.2.2)]) rfl rfl rfl hB hS ?_)
 intro b2 w3 hb4 hB5 hS6
 refine wl_assign rfl rfl (WL.nil (fun a ha => hK1 _ _ (W.seq fun K7 hK7 => (W.region (wl_assign rfl rfl (WL.nil (fun a ha => hK7 _ _ (W.seq fun K8 hK8 => (W.seq fun K9 hK9 => (W.region (wl_field (o := 1) (off' := 1) ff_53_1 rfl rfl rfl (wl_load_blk (i := 0) (vs := [v0_1]) (v := v0_1) tf_29 rfl rfl hS6 rfl rfl rfl (wl_lenr (e := ty_3) (l := x0.2.1) Try.underlying29 rfl rfl h0_1 ?_)))))) a ha))))) a ha))
 refine wl_move rfl rfl (WL.nil (fun a ha => hK9 _ _ (W.block (W.loopk (fun m a w10 => ∃ (y13 : Int) (y14 : Int), St 18 [(3, (.int .i64 y13)), (7, v0_1), (8, (.int .i64 (List.length x0.2.1 : Int))), (9, (.int .i64 y14))] a ∧ Below w0.heap.size w0 w10 ∧ Sep w0.heap.size w10 [] ∧ F_impl_totalCounts_L1 x0 m y13 y14 = some r) FU ?_ ?_)) a ha))
 ·
  exact fun a ha => ⟨0, 0, ha.sub ⟨rfl, rfl, rfl, rfl, trivial⟩, hB5, (hS6.sel [] rfl), hF⟩
 ·
  rintro m17 a w10 ⟨y13, y14, ha, hB11, hS12, hF⟩ KL16 hKL16
  refine W.at ?_ ha
  cases m17 with
  | zero => exact noneE hF
  | succ m17 =>
   obtain ⟨nx15, hnx15⟩ : ∃ k, k = F_impl_totalCounts_L1 x0 m17 := ⟨_, rfl⟩
   rw [F_impl_totalCounts_L1, ← hnx15] at hF
   refine W.seq fun K18 hK18 => W.region (wl_lss rfl rfl rfl (WL.nil (fun a ha => hK18 _ _ (W.seq fun K19 hK19 => (W.cond rfl (fun h20 => ?_) (fun h20 => ?_))) a ha)))
   ·replace hF := ifP h20 hF
    refine W.skip fun a ha => hK19 _ _ (W.seq fun K21 hK21 => (W.block (W.seq fun K22 hK22 => (W.region ?_)))) a ha
    obtain ⟨u23, hu23, hF⟩ := bindE hF
    refine wl_index (e := ty_3) Try.underlying29 rfl rfl rfl h0_1 hu23 ?_
    rintro p24 _ rfl hp25
    refine wl_load_p (vs := [(.int .i64 u23)]) (v := (.int .i64 u23)) tf_3 rfl rfl (hp25.ro hB11) rfl rfl (wl_assign rfl rfl (WL.nil (fun a ha => hK22 _ _ (W.region (wl_move rfl rfl (wl_move rfl rfl (wl_add rfl rfl rfl (wl_assign rfl rfl (WL.nil (fun a ha => hK21 _ _ (W.region (wl_add rfl rfl rfl (wl_move rfl rfl ?_))) a ha))))))) a ha)))
    refine WL.nil ?_
    rw [hnx15] at hF
    exact fun a ha => hKL16 a _ m17 (Nat.lt_succ_self m17) ⟨(w64 (y13 + u23)), (w64 (y14 + 1)), ha.sub ⟨rfl, rfl, rfl, rfl, trivial⟩, hB11, (hS12.sel [] rfl), hF⟩
   ·replace hF := ifN h20 hF
    refine W.exit fun a ha => hK8 _ _ (W.seq fun K26 hK26 => (W.region (wl_move rfl rfl (wl_assign rfl rfl (WL.nil (fun a ha => hK26 _ _ (W.ret ?_) a ha)))))) a ha
    have hr := Option.some.inj hF
    subst hr
    exact rets (vs := [(.int .i64 y13)]) hQ rfl ⟨rv_tmp rfl, trivial⟩ ⟨rfl, hB11⟩
theorem C_impl_TotalCounts (w0 : World) (x0 : ((List (List (Int × Int))) × (List Int) × Int × Int)) (v0_0 : Value) (h0_0 : rdS ty_63 (· < w0.heap.size) w0 v0_0 x0.1) (v0_1 : Value) (h0_1 : rdS ty_3 (· < w0.heap.size) w0 v0_1 x0.2.1) (r : (Int × Bool)) (hF : F_impl_TotalCounts x0 = some r) :
  Calls Try.prog 63 [(.agg #[v0_0, v0_1, (.int .i64 x0.2.2.1), (.int .i64 x0.2.2.2)])].toArray w0 fun e w' => e = .returned (.tuple #[(.int .i64 r.1), (.bool r.2)]) ∧ Below w0.heap.size w0 w' := by
 refine calls_mk' Try.func63 rfl Try.ntmps63 rfl rfl fun Q hQ hP => ?_
 have hB : Below w0.heap.size w0 w0 := Below.refl _ _
 have hS : Sep w0.heap.size w0 [] := Sep.nil _ _
 unfold F_impl_TotalCounts at hF
 refine W.seq fun K1 hK1 => W.region (wl_box (cs := [v0_0, v0_1, (.int .i64 x0.2.2.1), (.int .i64 x0.2.2.2)]) rfl rfl rfl hB hS ?_)
 intro b2 w3 hb4 hB5 hS6
 refine wl_assign rfl rfl (wl_assign rfl rfl (WL.nil (fun a ha => hK1 _ _ (W.seq fun K7 hK7 => (W.seq fun K8 hK8 => (W.region (wl_load_blk (i := 0) (vs := [v0_0, v0_1, (.int .i64 x0.2.2.1), (.int .i64 x0.2.2.2)]) (v := (.agg #[v0_0, v0_1, (.int .i64 x0.2.2.1), (.int .i64 x0.2.2.2)])) tf_53 rfl rfl hS6 rfl rfl rfl ?_)))) a ha)))
 obtain ⟨u9, hu9, hF⟩ := bindE hF
 refine wl_call rfl Try.call60 (C_impl_IsShow w3 x0 v0_0 (h0_0.ro hB5) v0_1 (h0_1.ro hB5) _ hu9) rfl ?_
 rintro _ w10 ⟨rfl, hb11⟩
 refine ⟨_, rfl, ?_⟩
 have hB12 := hB5.trans (hb11.mono hB5.size)
 have hS13 := hS6.below hb11
 refine wl_not rfl rfl (WL.nil (fun a ha => hK8 _ _ (W.cond rfl (fun h15 => ?_) (fun h15 => ?_)) a ha))
 ·replace hF := ifP h15 hF
  refine W.seq fun K16 hK16 => W.region (wl_assign rfl rfl (wl_assign rfl rfl (WL.nil (fun a ha => hK16 _ _ (W.ret ?_) a ha))))
  have hr := Option.some.inj hF
  subst hr
  exact rets (vs := [(.int .i64 0), (.bool false)]) hQ rfl ⟨rv_tmp rfl, rv_tmp rfl, trivial⟩ ⟨rfl, hB12⟩
 ·replace hF := ifN h15 hF
  refine W.skip fun a ha => hK7 _ _ (W.seq fun K17 hK17 => (W.region (wl_load_blk (i := 0) (vs := [v0_0, v0_1, (.int .i64 x0.2.2.1), (.int .i64 x0.2.2.2)]) (v := (.agg #[v0_0, v0_1, (.int .i64 x0.2.2.1), (.int .i64 x0.2.2.2)])) tf_53 rfl rfl hS13 rfl rfl rfl ?_))) a ha
  obtain ⟨u18, hu18, hF⟩ := bindE hF
  refine wl_call rfl Try.call177 (C_impl_totalCounts w10 x0 v0_0 (h0_0.ro hB12) v0_1 (h0_1.ro hB12) _ hu18) rfl ?_
  rintro _ w19 ⟨rfl, hb20⟩
  refine ⟨_, rfl, ?_⟩
  have hB21 := hB12.trans (hb20.mono hB12.size)
  have hS22 := hS13.below hb20
  refine wl_assign rfl rfl (wl_assign rfl rfl (WL.nil (fun a ha => hK17 _ _ (W.ret ?_) a ha)))
  have hr := Option.some.inj hF
  subst hr
  exact rets (vs := [(.int .i64 u18), (.bool true)]) hQ rfl ⟨rv_tmp rfl, rv_tmp rfl, trivial⟩ ⟨rfl, hB21⟩
theorem C_laws_sameLists (w0 : World) (x0 : (List (List Int))) (v0_0 : Value) (h0_0 : rdS ty_29 (· < w0.heap.size) w0 v0_0 x0) (x1 : (List (List Int))) (v1_0 : Value) (h1_0 : rdS ty_29 (· < w0.heap.size) w0 v1_0 x1) (r : Bool) (hF : F_laws_sameLists x0 x1 = some r) :
  Calls Try.prog 68 [v0_0, v1_0].toArray w0 fun e w' => e = .returned (.bool r) ∧ Below w0.heap.size w0 w' := by
 refine calls_mk' Try.func68 rfl Try.ntmps68 rfl rfl fun Q hQ hP => ?_
 have hB : Below w0.heap.size w0 w0 := Below.refl _ _
 have hS : Sep w0.heap.size w0 [] := Sep.nil _ _
 unfold F_laws_sameLists at hF
 refine W.seq fun K1 hK1 => W.region (wl_assign rfl rfl (WL.nil (fun a ha => hK1 _ _ (W.seq fun K2 hK2 => (W.seq fun K3 hK3 => (W.region (wl_move rfl rfl (wl_lenr (e := ty_29) (l := x0) Try.underlying72 rfl rfl h0_0 (wl_move rfl rfl (wl_lenr (e := ty_29) (l := x1) Try.underlying72 rfl rfl h1_0 (wl_neq rfl rfl rfl (WL.nil ?_))))))))) a ha)))
 refine fun a ha => hK3 _ _ (W.cond rfl (fun h4 => ?_) (fun h4 => ?_)) a ha
 ·replace hF := ifP h4 hF
  refine W.seq fun K5 hK5 => W.region (wl_assign rfl rfl (WL.nil (fun a ha => hK5 _ _ (W.ret ?_) a ha)))
  have hr := Option.some.inj hF
  subst hr
  exact rets (vs := [(.bool false)]) hQ rfl ⟨rv_tmp rfl, trivial⟩ ⟨rfl, hB⟩
 ·replace hF := ifN h4 hF
  refine W.skip fun a ha => hK2 _ _ (W.seq fun K6 hK6 => (W.seq fun K7 hK7 => (W.region (wl_move rfl rfl (wl_lenr (e := ty_29) (l := x0) Try.underlying72 rfl rfl h0_0 (wl_move rfl rfl (WL.nil (fun a ha => hK7 _ _ (W.block (W.loopk (fun m a w8 => ∃ (y11 : Int), St 27 [(0, v0_0), (1, v1_0), (12, (.int .i64 (List.length x0 : Int))), (13, (.int .i64 y11))] a ∧ Below w0.heap.size w0 w8 ∧ Sep w0.heap.size w8 [] ∧ F_laws_sameLists_L1 x0 x1 m y11 = some r) FU ?_ ?_)) a ha)))))))) a ha
  ·
   exact fun a ha => ⟨0, ha.sub ⟨rfl, rfl, rfl, rfl, trivial⟩, hB, (hS.sel [] rfl), hF⟩
  ·
   rintro m14 a w8 ⟨y11, ha, hB9, hS10, hF⟩ KL13 hKL13
   refine W.at ?_ ha
   cases m14 with
   | zero => exact noneE hF
   | succ m14 =>
    obtain ⟨nx12, hnx12⟩ : ∃ k, k = F_laws_sameLists_L1 x0 x1 m14 := ⟨_, rfl⟩
    rw [F_laws_sameLists_L1, ← hnx12] at hF
    refine W.seq fun K15 hK15 => W.region (wl_lss rfl rfl rfl (WL.nil (fun a ha => hK15 _ _ (W.seq fun K16 hK16 => (W.cond rfl (fun h17 => ?_) (fun h17 => ?_))) a ha)))
    ·replace hF := ifP h17 hF
     refine W.skip fun a ha => hK16 _ _ (W.seq fun K18 hK18 => (W.block (W.seq fun K19 hK19 => (W.region (wl_move rfl rfl (wl_assign rfl rfl (WL.nil (fun a ha => hK19 _ _ (W.seq fun K20 hK20 => (W.regionH mixed_ [] hB9 hS10 ?_)) a ha)))))))) a ha
     intro w21 hb22 hB23 hS24
     have hSW25 := KeepX.refl w21 []
     refine WH.takex (i := 0) rfl (by kernel_rfl) (by kernel_rfl) (by kernel_rfl) hP hSW25 (pr_move rfl rfl (WH.takex (i := 1) rfl (by kernel_rfl) (by kernel_rfl) (by kernel_rfl) hP hSW25 (pr_move rfl rfl ?_)))
     obtain ⟨u26, hu26, hF⟩ := bindE hF
     refine WH.takex (i := 2) rfl (by kernel_rfl) (by kernel_rfl) (by kernel_rfl) hP hSW25 (pr_index (e := ty_29) Try.underlying72 rfl rfl rfl h0_0 hu26 ?_)
     rintro p27 _ ⟨v29, rfl, hv30⟩ hp28
     refine WH.takex (i := 3) rfl (by kernel_rfl) (by kernel_rfl) (by kernel_rfl) hP hSW25 (pr_load_p (vs := [v29]) (v := v29) tf_29 rfl rfl (hp28.kx hB23 (by simp)) rfl rfl (WH.takex (i := 4) rfl (by kernel_rfl) (by kernel_rfl) (by kernel_rfl) hP hSW25 (pr_move rfl rfl (WH.takex (i := 5) rfl (by kernel_rfl) (by kernel_rfl) (by kernel_rfl) hP hSW25 (pr_move rfl rfl ?_)))))
     obtain ⟨u31, hu31, hF⟩ := bindE hF
     refine WH.takex (i := 6) rfl (by kernel_rfl) (by kernel_rfl) (by kernel_rfl) hP hSW25 (pr_index (e := ty_29) Try.underlying72 rfl rfl rfl h1_0 hu31 ?_)
     rintro p32 _ ⟨v34, rfl, hv35⟩ hp33
     refine WH.takex (i := 7) rfl (by kernel_rfl) (by kernel_rfl) (by kernel_rfl) hP hSW25 (pr_load_p (vs := [v34]) (v := v34) tf_29 rfl rfl (hp33.kx hB23 (by simp)) rfl rfl (WH.one (i := 8) (by kernel_rfl) rfl ?_))
     obtain ⟨u36, hu36, hF⟩ := bindE hF
     refine wl_call rfl Try.call71 (C_laws_sameInts w21 u26 v29 (hv30.ro hB23) u31 v34 (hv35.ro hB23) _ hu36) rfl ?_
     rintro _ w37 ⟨rfl, hb38⟩
     refine ⟨_, rfl, ?_⟩
     have hB39 := hB23.trans (hb38.mono hB23.size)
     have hS40 := hS24.below hb38
     have hSW42 := hSW25.ext hb38
     refine WL.nil (WH.ret hSW42 (WH.takex (i := 9) rfl (by kernel_rfl) (by kernel_rfl) (by kernel_rfl) hP hSW42 (pr_not rfl rfl (WH.done (by kernel_rfl) (fun a ha => hK20 _ _ (W.cond rfl (fun h43 => ?_) (fun h43 => ?_)) a ha)))))
     ·replace hF := ifP h43 hF
      refine W.seq fun K44 hK44 => W.region (wl_assign rfl rfl (WL.nil (fun a ha => hK44 _ _ (W.ret ?_) a ha)))
      have hr := Option.some.inj hF
      subst hr
      exact rets (vs := [(.bool false)]) hQ rfl ⟨rv_tmp rfl, trivial⟩ ⟨rfl, hB39⟩
     ·replace hF := ifN h43 hF
      refine W.skip fun a ha => hK18 _ _ (W.region (wl_add rfl rfl rfl (wl_move rfl rfl (WL.nil ?_)))) a ha
      rw [hnx12] at hF
      exact fun a ha => hKL13 a _ m14 (Nat.lt_succ_self m14) ⟨(w64 (y11 + 1)), ha.sub ⟨rfl, rfl, rfl, rfl, trivial⟩, hB39, (hS40.sel [] rfl), hF⟩
    ·replace hF := ifN h17 hF
     refine W.exit fun a ha => hK6 _ _ (W.seq fun K45 hK45 => (W.region (wl_assign rfl rfl (WL.nil (fun a ha => hK45 _ _ (W.ret ?_) a ha))))) a ha
     have hr := Option.some.inj hF
     subst hr
     exact rets (vs := [(.bool true)]) hQ rfl ⟨rv_tmp rfl, trivial⟩ ⟨rfl, hB9⟩
theorem C_laws_pIn (w0 : World) (x0 : (List Int)) (v0_0 : Value) (h0_0 : rdS ty_3 (· < w0.heap.size) w0 v0_0 x0) (x1 : Int) (r : Bool) (hF : F_laws_pIn x0 x1 = some r) :
  Calls Try.prog 72 [v0_0, (.int .i64 x1)].toArray w0 fun e w' => e = .returned (.bool r) ∧ Below w0.heap.size w0 w' := by
 refine calls_mk' Try.func72 rfl Try.ntmps72 rfl rfl fun Q hQ hP => ?_
 have hB : Below w0.heap.size w0 w0 := Below.refl _ _
 have hS : Sep w0.heap.size w0 [] := Sep.nil _ _
 unfold F_laws_pIn at hF
 refine W.seq fun K1 hK1 => W.region (wl_assign rfl rfl (WL.nil (fun a ha => hK1 _ _ (W.seq fun K2 hK2 => (W.seq fun K3 hK3 => (W.region (wl_move rfl rfl (wl_lenr (e := ty_3) (l := x0) Try.underlying29 rfl rfl h0_0 (wl_move rfl rfl (WL.nil (fun a ha => hK3 _ _ (W.block ?_) a ha)))))))) a ha)))
 refine W.loopk (fun m a w4 => ∃ (y7 : Int), St 17 [(1, (.int .i64 x1)), (7, v0_0), (8, (.int .i64 (List.length x0 : Int))), (9, (.int .i64 y7))] a ∧ Below w0.heap.size w0 w4 ∧ Sep w0.heap.size w4 [] ∧ F_laws_pIn_L1 x0 x1 m y7 = some r) FU ?_ ?_
 ·
  exact fun a ha => ⟨0, ha.sub ⟨rfl, rfl, rfl, rfl, trivial⟩, hB, (hS.sel [] rfl), hF⟩
 ·
  rintro m10 a w4 ⟨y7, ha, hB5, hS6, hF⟩ KL9 hKL9
  refine W.at ?_ ha
  cases m10 with
  | zero => exact noneE hF
  | succ m10 =>
   obtain ⟨nx8, hnx8⟩ : ∃ k, k = F_laws_pIn_L1 x0 x1 m10 := ⟨_, rfl⟩
   rw [F_laws_pIn_L1, ← hnx8] at hF
   refine W.seq fun K11 hK11 => W.region (wl_lss rfl rfl rfl (WL.nil (fun a ha => hK11 _ _ (W.seq fun K12 hK12 => (W.cond rfl (fun h13 => ?_) (fun h13 => ?_))) a ha)))
   ·replace hF := ifP h13 hF
    refine W.skip fun a ha => hK12 _ _ (W.seq fun K14 hK14 => (W.block (W.seq fun K15 hK15 => (W.region ?_)))) a ha
    obtain ⟨u16, hu16, hF⟩ := bindE hF
    refine wl_index (e := ty_3) Try.underlying29 rfl rfl rfl h0_0 hu16 ?_
    rintro p17 _ rfl hp18
    refine wl_load_p (vs := [(.int .i64 u16)]) (v := (.int .i64 u16)) tf_3 rfl rfl (hp18.ro hB5) rfl rfl (wl_assign rfl rfl (WL.nil (fun a ha => hK15 _ _ (W.seq fun K19 hK19 => (W.region (wl_move rfl rfl (wl_move rfl rfl (wl_eql rfl rfl rfl (WL.nil (fun a ha => hK19 _ _ (W.cond rfl (fun h20 => ?_) (fun h20 => ?_)) a ha))))))) a ha)))
    ·replace hF := ifP h20 hF
     refine W.seq fun K21 hK21 => W.region (wl_assign rfl rfl (WL.nil (fun a ha => hK21 _ _ (W.ret ?_) a ha)))
     have hr := Option.some.inj hF
     subst hr
     exact rets (vs := [(.bool true)]) hQ rfl ⟨rv_tmp rfl, trivial⟩ ⟨rfl, hB5⟩
    ·replace hF := ifN h20 hF
     refine W.skip fun a ha => hK14 _ _ (W.region (wl_add rfl rfl rfl (wl_move rfl rfl (WL.nil ?_)))) a ha
     rw [hnx8] at hF
     exact fun a ha => hKL9 a _ m10 (Nat.lt_succ_self m10) ⟨(w64 (y7 + 1)), ha.sub ⟨rfl, rfl, rfl, rfl, trivial⟩, hB5, (hS6.sel [] rfl), hF⟩
   ·replace hF := ifN h13 hF
    refine W.exit fun a ha => hK2 _ _ (W.seq fun K22 hK22 => (W.region (wl_assign rfl rfl (WL.nil (fun a ha => hK22 _ _ (W.ret ?_) a ha))))) a ha
    have hr := Option.some.inj hF
    subst hr
    exact rets (vs := [(.bool false)]) hQ rfl ⟨rv_tmp rfl, trivial⟩ ⟨rfl, hB5⟩
theorem C_impl_IsMarch (w0 : World) (x0 : (((List (List (Int × Int))) × (List Int) × Int × Int) × Int × (List Int) × (List Int))) (v0_0 : Value) (h0_0 : rdS ty_63 (· < w0.heap.size) w0 v0_0 x0.1.1) (v0_1 : Value) (h0_1 : rdS ty_3 (· < w0.heap.size) w0 v0_1 x0.1.2.1) (v0_2 : Value) (h0_2 : rdS ty_3 (· < w0.heap.size) w0 v0_2 x0.2.2.1) (v0_3 : Value) (h0_3 : rdS ty_3 (· < w0.heap.size) w0 v0_3 x0.2.2.2) (r : Bool) (hF : F_impl_IsMarch x0 = some r) :
  Calls Try.prog 100 [(.agg #[v0_0, v0_1, (.int .i64 x0.1.2.2.1), (.int .i64 x0.1.2.2.2), (.int .i64 x0.2.1), v0_2, v0_3])].toArray w0 fun e w' => e = .returned (.bool r) ∧ Below w0.heap.size w0 w' := by
 refine calls_mk' Try.func100 rfl Try.ntmps100 rfl rfl fun Q hQ hP => ?_
 have hB : Below w0.heap.size w0 w0 := Below.refl _ _
 have hS : Sep w0.heap.size w0 [] := Sep.nil _ _
 unfold F_impl_IsMarch at hF
 refine W.seq fun K1 hK1 => W.region (wl_box (cs := [v0_0, v0_1, (.int .i64 x0.1.2.2.1), (.int .i64 x0.1.2.2.2), (.int .i64 x0.2.1), v0_2, v0_3]) rfl rfl rfl hB hS ?_)
 intro b2 w3 hb4 hB5 hS6
 refine wl_assign rfl rfl (WL.nil (fun a ha => hK1 _ _ (W.seq fun K7 hK7 => (W.seq fun K8 hK8 => ?_)) a ha))
 obtain ⟨k13, hk13, hF⟩ := jE1 hF
 have hJ14 : ∀ (y12 : Bool) (w9 : World) (_ : k13 y12 = some r) (_ : Below w0.heap.size w0 w9) (_ : Sep w0.heap.size w9 [R.blk b2 102 [v0_0, v0_1, (.int .i64 x0.1.2.2.1), (.int .i64 x0.1.2.2.2), (.int .i64 x0.2.1), v0_2, v0_3]]), ∀ a, St 52 [(1, (.pointer (some ⟨b2, 0, none⟩))), (38, (.bool y12))] a → K8 a w9 := by
  intro y12 w9 hF hB10 hS11
  subst hk13
  refine fun a ha => hK8 _ _ (W.cond rfl (fun h15 => ?_) (fun h15 => ?_)) a ha
  ·replace hF := ifP h15 hF
   refine W.seq fun K16 hK16 => W.region (wl_assign rfl rfl (WL.nil (fun a ha => hK16 _ _ (W.ret ?_) a ha)))
   have hr := Option.some.inj hF
   subst hr
   exact rets (vs := [(.bool false)]) hQ rfl ⟨rv_tmp rfl, trivial⟩ ⟨rfl, hB10⟩
  ·replace hF := ifN h15 hF
   refine W.skip fun a ha => hK7 _ _ (W.seq fun K17 hK17 => (W.seq fun K18 hK18 => (W.region (wl_field (o := 6) (off' := 6) ff_102_3 rfl rfl rfl (wl_load_blk (i := 0) (vs := [v0_3]) (v := v0_3) tf_29 rfl rfl hS11 rfl rfl rfl (wl_lenr (e := ty_3) (l := x0.2.2.2) Try.underlying29 rfl rfl h0_3 (wl_move rfl rfl (WL.nil (fun a ha => hK18 _ _ (W.block (W.loopk (fun m a w19 => ∃ (y22 : Int), St 52 [(1, (.pointer (some ⟨b2, 0, none⟩))), (40, v0_3), (41, (.int .i64 (List.length x0.2.2.2 : Int))), (42, (.int .i64 y22))] a ∧ Below w0.heap.size w0 w19 ∧ Sep w0.heap.size w19 [R.blk b2 102 [v0_0, v0_1, (.int .i64 x0.1.2.2.1), (.int .i64 x0.1.2.2.2), (.int .i64 x0.2.1), v0_2, v0_3]] ∧ F_impl_IsMarch_L1 x0 m y22 = some r) FU ?_ ?_)) a ha))))))))) a ha
   ·
    exact fun a ha => ⟨0, ha.sub ⟨rfl, rfl, rfl, rfl, trivial⟩, hB10, (hS11.sel [0] rfl), hF⟩
   ·
    rintro m25 a w19 ⟨y22, ha, hB20, hS21, hF⟩ KL24 hKL24
    refine W.at ?_ ha
    cases m25 with
    | zero => exact noneE hF
    | succ m25 =>
     obtain ⟨nx23, hnx23⟩ : ∃ k, k = F_impl_IsMarch_L1 x0 m25 := ⟨_, rfl⟩
     rw [F_impl_IsMarch_L1, ← hnx23] at hF
     refine W.seq fun K26 hK26 => W.region (wl_lss rfl rfl rfl (WL.nil (fun a ha => hK26 _ _ (W.seq fun K27 hK27 => (W.cond rfl (fun h28 => ?_) (fun h28 => ?_))) a ha)))
     ·replace hF := ifP h28 hF
      refine W.skip fun a ha => hK27 _ _ (W.seq fun K29 hK29 => (W.block (W.seq fun K30 hK30 => (W.region ?_)))) a ha
      obtain ⟨u31, hu31, hF⟩ := bindE hF
      refine wl_index (e := ty_3) Try.underlying29 rfl rfl rfl h0_3 hu31 ?_
      rintro p32 _ rfl hp33
      refine wl_load_p (vs := [(.int .i64 u31)]) (v := (.int .i64 u31)) tf_3 rfl rfl (hp33.ro hB20) rfl rfl (wl_assign rfl rfl (WL.nil (fun a ha => hK30 _ _ (W.seq fun K34 hK34 => (W.region (wl_move rfl rfl (wl_field (o := 4) (off' := 4) ff_102_1 rfl rfl rfl (wl_load_blk (i := 0) (vs := [(.int .i64 x0.2.1)]) (v := (.int .i64 x0.2.1)) tf_3 rfl rfl hS21 rfl rfl rfl ?_))))) a ha)))
      obtain ⟨u35, hu35, hF⟩ := bindE hF
      refine wl_call rfl Try.call128 (C_impl_within w19 u31 0 x0.2.1 _ hu35) rfl ?_
      rintro _ w36 ⟨rfl, hb37⟩
      refine ⟨_, rfl, ?_⟩
      have hB38 := hB20.trans (hb37.mono hB20.size)
      have hS39 := hS21.below hb37
      refine wl_not rfl rfl (WL.nil (fun a ha => hK34 _ _ (W.cond rfl (fun h41 => ?_) (fun h41 => ?_)) a ha))
      ·replace hF := ifP h41 hF
       refine W.seq fun K42 hK42 => W.region (wl_assign rfl rfl (WL.nil (fun a ha => hK42 _ _ (W.ret ?_) a ha)))
       have hr := Option.some.inj hF
       subst hr
       exact rets (vs := [(.bool false)]) hQ rfl ⟨rv_tmp rfl, trivial⟩ ⟨rfl, hB38⟩
      ·replace hF := ifN h41 hF
       refine W.skip fun a ha => hK29 _ _ (W.region (wl_add rfl rfl rfl (wl_move rfl rfl (WL.nil ?_)))) a ha
       rw [hnx23] at hF
       exact fun a ha => hKL24 a _ m25 (Nat.lt_succ_self m25) ⟨(w64 (y22 + 1)), ha.sub ⟨rfl, rfl, rfl, rfl, trivial⟩, hB38, (hS39.sel [0] rfl), hF⟩
     ·replace hF := ifN h28 hF
      refine W.exit fun a ha => hK17 _ _ (W.seq fun K43 hK43 => (W.region (wl_assign rfl rfl (WL.nil (fun a ha => hK43 _ _ (W.ret ?_) a ha))))) a ha
      have hr := Option.some.inj hF
      subst hr
      exact rets (vs := [(.bool true)]) hQ rfl ⟨rv_tmp rfl, trivial⟩ ⟨rfl, hB20⟩
 refine W.regionH mixed_ [] hB5 hS6 ?_
 intro w44 hb45 hB46 hS47
 have hSW48 := KeepX.refl w44 []
 refine WH.takex (i := 0) rfl (by kernel_rfl) (by kernel_rfl) (by kernel_rfl) hP hSW48 (pr_field (o := 0) (off' := 0) ff_102_0 rfl rfl rfl (WH.takex (i := 1) rfl (by kernel_rfl) (by kernel_rfl) (by kernel_rfl) hP hSW48 (pr_load_blk (i := 0) (vs := [v0_0, v0_1, (.int .i64 x0.1.2.2.1), (.int .i64 x0.1.2.2.2)]) (v := (.agg #[v0_0, v0_1, (.int .i64 x0.1.2.2.1), (.int .i64 x0.1.2.2.2)])) tf_53 rfl rfl hS47 rfl rfl rfl (by simp) (WH.one (i := 2) (by kernel_rfl) rfl ?_))))
 obtain ⟨u49, hu49, hF⟩ := bindE hF
 refine wl_call rfl Try.call60 (C_impl_IsShow w44 x0.1 v0_0 (h0_0.ro hB46) v0_1 (h0_1.ro hB46) _ hu49) rfl ?_
 rintro _ w50 ⟨rfl, hb51⟩
 refine ⟨_, rfl, ?_⟩
 have hB52 := hB46.trans (hb51.mono hB46.size)
 have hS53 := hS47.below hb51
 have hSW55 := hSW48.ext hb51
 refine WL.nil (WH.ret hSW55 (WH.takex (i := 3) rfl (by kernel_rfl) (by kernel_rfl) (by kernel_rfl) hP hSW55 (pr_not rfl rfl (WH.takex (i := 4) rfl (by kernel_rfl) (by kernel_rfl) (by kernel_rfl) hP hSW55 (pr_move rfl rfl ?_)))))
 rcases bE (!u49) with h56 | h56
 ·replace hF := ifP h56 hF
  refine WH.off (i := 5) rfl (by kernel_rfl) (by kernel_rfl) (by kernel_rfl) hP rfl rfl h56 rfl hSW55 (WH.off (i := 6) rfl (by kernel_rfl) (by kernel_rfl) (by kernel_rfl) hP rfl rfl h56 rfl hSW55 (WH.off (i := 7) rfl (by kernel_rfl) (by kernel_rfl) (by kernel_rfl) hP rfl rfl h56 rfl hSW55 (WH.off (i := 8) rfl (by kernel_rfl) (by kernel_rfl) (by kernel_rfl) hP rfl rfl h56 rfl hSW55 (WH.takex (i := 9) rfl (by kernel_rfl) (by kernel_rfl) (by kernel_rfl) hP hSW55 (pr_pick_t rfl rfl h56 rfl (WH.takex (i := 10) rfl (by kernel_rfl) (by kernel_rfl) (by kernel_rfl) hP hSW55 (pr_move rfl rfl (WH.off (i := 11) rfl (by kernel_rfl) (by kernel_rfl) (by kernel_rfl) hP rfl rfl rfl rfl hSW55 (WH.off (i := 12) rfl (by kernel_rfl) (by kernel_rfl) (by kernel_rfl) hP rfl rfl rfl rfl hSW55 (WH.off (i := 13) rfl (by kernel_rfl) (by kernel_rfl) (by kernel_rfl) hP rfl rfl rfl rfl hSW55 ?_))))))))))
  refine WH.off (i := 14) rfl (by kernel_rfl) (by kernel_rfl) (by kernel_rfl) hP rfl rfl rfl rfl hSW55 (WH.off (i := 15) rfl (by kernel_rfl) (by kernel_rfl) (by kernel_rfl) hP rfl rfl rfl rfl hSW55 (WH.off (i := 16) rfl (by kernel_rfl) (by kernel_rfl) (by kernel_rfl) hP rfl rfl rfl rfl hSW55 (WH.off (i := 17) rfl (by kernel_rfl) (by kernel_rfl) (by kernel_rfl) hP rfl rfl rfl rfl hSW55 (WH.off (i := 18) rfl (by kernel_rfl) (by kernel_rfl) (by kernel_rfl) hP rfl rfl rfl rfl hSW55 (WH.off (i := 19) rfl (by kernel_rfl) (by kernel_rfl) (by kernel_rfl) hP rfl rfl rfl rfl hSW55 (WH.off (i := 20) rfl (by kernel_rfl) (by kernel_rfl) (by kernel_rfl) hP rfl rfl rfl rfl hSW55 (WH.takex (i := 21) rfl (by kernel_rfl) (by kernel_rfl) (by kernel_rfl) hP hSW55 (pr_pick_t rfl rfl rfl rfl (WH.takex (i := 22) rfl (by kernel_rfl) (by kernel_rfl) (by kernel_rfl) hP hSW55 (pr_move rfl rfl ?_))))))))))
  refine WH.off (i := 23) rfl (by kernel_rfl) (by kernel_rfl) (by kernel_rfl) hP rfl rfl rfl rfl hSW55 (WH.off (i := 24) rfl (by kernel_rfl) (by kernel_rfl) (by kernel_rfl) hP rfl rfl rfl rfl hSW55 (WH.off (i := 25) rfl (by kernel_rfl) (by kernel_rfl) (by kernel_rfl) hP rfl rfl rfl rfl hSW55 (WH.off (i := 26) rfl (by kernel_rfl) (by kernel_rfl) (by kernel_rfl) hP rfl rfl rfl rfl hSW55 (WH.off (i := 27) rfl (by kernel_rfl) (by kernel_rfl) (by kernel_rfl) hP rfl rfl rfl rfl hSW55 (WH.off (i := 28) rfl (by kernel_rfl) (by kernel_rfl) (by kernel_rfl) hP rfl rfl rfl rfl hSW55 (WH.off (i := 29) rfl (by kernel_rfl) (by kernel_rfl) (by kernel_rfl) hP rfl rfl rfl rfl hSW55 (WH.off (i := 30) rfl (by kernel_rfl) (by kernel_rfl) (by kernel_rfl) hP rfl rfl rfl rfl hSW55 (WH.off (i := 31) rfl (by kernel_rfl) (by kernel_rfl) (by kernel_rfl) hP rfl rfl rfl rfl hSW55 ?_))))))))
  refine WH.off (i := 32) rfl (by kernel_rfl) (by kernel_rfl) (by kernel_rfl) hP rfl rfl rfl rfl hSW55 (WH.takex (i := 33) rfl (by kernel_rfl) (by kernel_rfl) (by kernel_rfl) hP hSW55 (pr_pick_t rfl rfl rfl rfl (WH.done (by kernel_rfl) ?_)))
  exact fun a ha => hJ14 (true) _ hF hB52 (hS53.sel [0] rfl) a (ha.sub ⟨rfl, rfl, trivial⟩)
 ·replace hF := ifN h56 hF
  refine WH.takexg (i := 5) rfl (by kernel_rfl) (by kernel_rfl) (by kernel_rfl) hP rfl rfl h56 hSW55 (pr_field (o := 4) (off' := 4) ff_102_1 rfl rfl rfl (WH.takexg (i := 6) rfl (by kernel_rfl) (by kernel_rfl) (by kernel_rfl) hP rfl rfl h56 hSW55 (pr_load_blk (i := 0) (vs := [(.int .i64 x0.2.1)]) (v := (.int .i64 x0.2.1)) tf_3 rfl rfl hS47 rfl rfl rfl (by simp) (WH.one (i := 7) (by kernel_rfl) rfl (wl_on rfl rfl h56 ?_)))))
  obtain ⟨u57, hu57, hF⟩ := bindE hF
  refine wl_call rfl Try.call128 (C_impl_within w50 x0.2.1 0 1000 _ hu57) rfl ?_
  rintro _ w58 ⟨rfl, hb59⟩
  refine ⟨_, rfl, ?_⟩
  have hB60 := hB52.trans (hb59.mono hB52.size)
  have hS61 := hS53.below hb59
  have hSW63 := hSW55.ext hb59
  refine WL.nil (WH.ret hSW63 (WH.takexg (i := 8) rfl (by kernel_rfl) (by kernel_rfl) (by kernel_rfl) hP rfl rfl h56 hSW63 (pr_not rfl rfl (WH.takex (i := 9) rfl (by kernel_rfl) (by kernel_rfl) (by kernel_rfl) hP hSW63 (pr_pick_f rfl rfl h56 rfl (WH.takex (i := 10) rfl (by kernel_rfl) (by kernel_rfl) (by kernel_rfl) hP hSW63 (pr_move rfl rfl ?_)))))))
  rcases bE (!u57) with h64 | h64
  ·replace hF := ifP h64 hF
   refine WH.off (i := 11) rfl (by kernel_rfl) (by kernel_rfl) (by kernel_rfl) hP rfl rfl h64 rfl hSW63 (WH.off (i := 12) rfl (by kernel_rfl) (by kernel_rfl) (by kernel_rfl) hP rfl rfl h64 rfl hSW63 (WH.off (i := 13) rfl (by kernel_rfl) (by kernel_rfl) (by kernel_rfl) hP rfl rfl h64 rfl hSW63 (WH.off (i := 14) rfl (by kernel_rfl) (by kernel_rfl) (by kernel_rfl) hP rfl rfl h64 rfl hSW63 (WH.off (i := 15) rfl (by kernel_rfl) (by kernel_rfl) (by kernel_rfl) hP rfl rfl h64 rfl hSW63 (WH.off (i := 16) rfl (by kernel_rfl) (by kernel_rfl) (by kernel_rfl) hP rfl rfl h64 rfl hSW63 (WH.off (i := 17) rfl (by kernel_rfl) (by kernel_rfl) (by kernel_rfl) hP rfl rfl h64 rfl hSW63 (WH.off (i := 18) rfl (by kernel_rfl) (by kernel_rfl) (by kernel_rfl) hP rfl rfl h64 rfl hSW63 (WH.off (i := 19) rfl (by kernel_rfl) (by kernel_rfl) (by kernel_rfl) hP rfl rfl h64 rfl hSW63 ?_))))))))
   refine WH.off (i := 20) rfl (by kernel_rfl) (by kernel_rfl) (by kernel_rfl) hP rfl rfl h64 rfl hSW63 (WH.takex (i := 21) rfl (by kernel_rfl) (by kernel_rfl) (by kernel_rfl) hP hSW63 (pr_pick_t rfl rfl h64 rfl (WH.takex (i := 22) rfl (by kernel_rfl) (by kernel_rfl) (by kernel_rfl) hP hSW63 (pr_move rfl rfl (WH.off (i := 23) rfl (by kernel_rfl) (by kernel_rfl) (by kernel_rfl) hP rfl rfl rfl rfl hSW63 (WH.off (i := 24) rfl (by kernel_rfl) (by kernel_rfl) (by kernel_rfl) hP rfl rfl rfl rfl hSW63 (WH.off (i := 25) rfl (by kernel_rfl) (by kernel_rfl) (by kernel_rfl) hP rfl rfl rfl rfl hSW63 (WH.off (i := 26) rfl (by kernel_rfl) (by kernel_rfl) (by kernel_rfl) hP rfl rfl rfl rfl hSW63 (WH.off (i := 27) rfl (by kernel_rfl) (by kernel_rfl) (by kernel_rfl) hP rfl rfl rfl rfl hSW63 (WH.off (i := 28) rfl (by kernel_rfl) (by kernel_rfl) (by kernel_rfl) hP rfl rfl rfl rfl hSW63 ?_))))))))))
   refine WH.off (i := 29) rfl (by kernel_rfl) (by kernel_rfl) (by kernel_rfl) hP rfl rfl rfl rfl hSW63 (WH.off (i := 30) rfl (by kernel_rfl) (by kernel_rfl) (by kernel_rfl) hP rfl rfl rfl rfl hSW63 (WH.off (i := 31) rfl (by kernel_rfl) (by kernel_rfl) (by kernel_rfl) hP rfl rfl rfl rfl hSW63 (WH.off (i := 32) rfl (by kernel_rfl) (by kernel_rfl) (by kernel_rfl) hP rfl rfl rfl rfl hSW63 (WH.takex (i := 33) rfl (by kernel_rfl) (by kernel_rfl) (by kernel_rfl) hP hSW63 (pr_pick_t rfl rfl rfl rfl (WH.done (by kernel_rfl) ?_))))))
   exact fun a ha => hJ14 (true) _ hF hB60 (hS61.sel [0] rfl) a (ha.sub ⟨rfl, rfl, trivial⟩)
  ·replace hF := ifN h64 hF
   refine WH.takexg (i := 11) rfl (by kernel_rfl) (by kernel_rfl) (by kernel_rfl) hP rfl rfl h64 hSW63 (pr_field (o := 5) (off' := 5) ff_102_2 rfl rfl rfl (WH.takexg (i := 12) rfl (by kernel_rfl) (by kernel_rfl) (by kernel_rfl) hP rfl rfl h64 hSW63 (pr_load_blk (i := 0) (vs := [v0_2]) (v := v0_2) tf_29 rfl rfl hS47 rfl rfl rfl (by simp) (WH.takexg (i := 13) rfl (by kernel_rfl) (by kernel_rfl) (by kernel_rfl) hP rfl rfl h64 hSW63 (pr_field (o := 0) (off' := 0) ff_102_0 rfl rfl rfl (WH.takexg (i := 14) rfl (by kernel_rfl) (by kernel_rfl) (by kernel_rfl) hP rfl rfl h64 hSW63 (pr_field (o := 0) (off' := 0) ff_53_0 rfl rfl rfl (WH.takexg (i := 15) rfl (by kernel_rfl) (by kernel_rfl) (by kernel_rfl) hP rfl rfl h64 hSW63 (pr_load_blk (i := 0) (vs := [v0_0]) (v := v0_0) tf_51 rfl rfl hS47 rfl rfl rfl (by simp) ?_)))))))))
   obtain ⟨u65, hu65, hF⟩ := bindE hF
   refine WH.takexg (i := 16) rfl (by kernel_rfl) (by kernel_rfl) (by kernel_rfl) hP rfl rfl h64 hSW63 (pr_index (e := ty_63) Try.underlying51 rfl rfl rfl h0_0 hu65 ?_)
   rintro p66 _ ⟨v68, rfl, hv69⟩ hp67
   refine WH.takexg (i := 17) rfl (by kernel_rfl) (by kernel_rfl) (by kernel_rfl) hP rfl rfl h64 hSW63 (pr_load_p (vs := [v68]) (v := v68) tf_63 rfl rfl (hp67.kx hB46 (by simp)) rfl rfl (WH.takexg (i := 18) rfl (by kernel_rfl) (by kernel_rfl) (by kernel_rfl) hP rfl rfl h64 hSW63 (pr_lenr (e := ty_68) (l := u65) Try.underlying63 rfl rfl hv69 (WH.one (i := 19) (by kernel_rfl) rfl (wl_on rfl rfl h64 ?_)))))
   obtain ⟨u70, hu70, hF⟩ := bindE hF
   refine wl_call rfl Try.call200 (C_impl_arePerformers w58 x0.2.2.1 v0_2 (h0_2.ro hB60) (List.length u65 : Int) _ hu70) rfl ?_
   rintro _ w71 ⟨rfl, hb72⟩
   refine ⟨_, rfl, ?_⟩
   have hB73 := hB60.trans (hb72.mono hB60.size)
   have hS74 := hS61.below hb72
   have hSW76 := hSW63.ext hb72
   refine WL.nil (WH.ret hSW76 (WH.takexg (i := 20) rfl (by kernel_rfl) (by kernel_rfl) (by kernel_rfl) hP rfl rfl h64 hSW76 (pr_not rfl rfl (WH.takex (i := 21) rfl (by kernel_rfl) (by kernel_rfl) (by kernel_rfl) hP hSW76 (pr_pick_f rfl rfl h64 rfl (WH.takex (i := 22) rfl (by kernel_rfl) (by kernel_rfl) (by kernel_rfl) hP hSW76 (pr_move rfl rfl ?_)))))))
   rcases bE (!u70) with h77 | h77
   ·replace hF := ifP h77 hF
    refine WH.off (i := 23) rfl (by kernel_rfl) (by kernel_rfl) (by kernel_rfl) hP rfl rfl h77 rfl hSW76 (WH.off (i := 24) rfl (by kernel_rfl) (by kernel_rfl) (by kernel_rfl) hP rfl rfl h77 rfl hSW76 (WH.off (i := 25) rfl (by kernel_rfl) (by kernel_rfl) (by kernel_rfl) hP rfl rfl h77 rfl hSW76 (WH.off (i := 26) rfl (by kernel_rfl) (by kernel_rfl) (by kernel_rfl) hP rfl rfl h77 rfl hSW76 (WH.off (i := 27) rfl (by kernel_rfl) (by kernel_rfl) (by kernel_rfl) hP rfl rfl h77 rfl hSW76 (WH.off (i := 28) rfl (by kernel_rfl) (by kernel_rfl) (by kernel_rfl) hP rfl rfl h77 rfl hSW76 (WH.off (i := 29) rfl (by kernel_rfl) (by kernel_rfl) (by kernel_rfl) hP rfl rfl h77 rfl hSW76 (WH.off (i := 30) rfl (by kernel_rfl) (by kernel_rfl) (by kernel_rfl) hP rfl rfl h77 rfl hSW76 (WH.off (i := 31) rfl (by kernel_rfl) (by kernel_rfl) (by kernel_rfl) hP rfl rfl h77 rfl hSW76 ?_))))))))
    refine WH.off (i := 32) rfl (by kernel_rfl) (by kernel_rfl) (by kernel_rfl) hP rfl rfl h77 rfl hSW76 (WH.takex (i := 33) rfl (by kernel_rfl) (by kernel_rfl) (by kernel_rfl) hP hSW76 (pr_pick_t rfl rfl h77 rfl (WH.done (by kernel_rfl) ?_)))
    exact fun a ha => hJ14 (true) _ hF hB73 (hS74.sel [0] rfl) a (ha.sub ⟨rfl, rfl, trivial⟩)
   ·replace hF := ifN h77 hF
    refine WH.takexg (i := 23) rfl (by kernel_rfl) (by kernel_rfl) (by kernel_rfl) hP rfl rfl h77 hSW76 (pr_field (o := 6) (off' := 6) ff_102_3 rfl rfl rfl (WH.takexg (i := 24) rfl (by kernel_rfl) (by kernel_rfl) (by kernel_rfl) hP rfl rfl h77 hSW76 (pr_load_blk (i := 0) (vs := [v0_3]) (v := v0_3) tf_29 rfl rfl hS47 rfl rfl rfl (by simp) (WH.takexg (i := 25) rfl (by kernel_rfl) (by kernel_rfl) (by kernel_rfl) hP rfl rfl h77 hSW76 (pr_lenr (e := ty_3) (l := x0.2.2.2) Try.underlying29 rfl rfl h0_3 (WH.takexg (i := 26) rfl (by kernel_rfl) (by kernel_rfl) (by kernel_rfl) hP rfl rfl h77 hSW76 (pr_field (o := 0) (off' := 0) ff_102_0 rfl rfl rfl (WH.takexg (i := 27) rfl (by kernel_rfl) (by kernel_rfl) (by kernel_rfl) hP rfl rfl h77 hSW76 (pr_field (o := 0) (off' := 0) ff_53_0 rfl rfl rfl (WH.takexg (i := 28) rfl (by kernel_rfl) (by kernel_rfl) (by kernel_rfl) hP rfl rfl h77 hSW76 ?_))))))))))
    refine pr_load_blk (i := 0) (vs := [v0_0]) (v := v0_0) tf_51 rfl rfl hS47 rfl rfl rfl (by simp) ?_
    obtain ⟨u78, hu78, hF⟩ := bindE hF
    refine WH.takexg (i := 29) rfl (by kernel_rfl) (by kernel_rfl) (by kernel_rfl) hP rfl rfl h77 hSW76 (pr_index (e := ty_63) Try.underlying51 rfl rfl rfl h0_0 hu78 ?_)
    rintro p79 _ ⟨v81, rfl, hv82⟩ hp80
    refine WH.takexg (i := 30) rfl (by kernel_rfl) (by kernel_rfl) (by kernel_rfl) hP rfl rfl h77 hSW76 (pr_load_p (vs := [v81]) (v := v81) tf_63 rfl rfl (hp80.kx hB46 (by simp)) rfl rfl (WH.takexg (i := 31) rfl (by kernel_rfl) (by kernel_rfl) (by kernel_rfl) hP rfl rfl h77 hSW76 (pr_lenr (e := ty_68) (l := u78) Try.underlying63 rfl rfl hv82 (WH.takexg (i := 32) rfl (by kernel_rfl) (by kernel_rfl) (by kernel_rfl) hP rfl rfl h77 hSW76 (pr_neq rfl rfl rfl (WH.takex (i := 33) rfl (by kernel_rfl) (by kernel_rfl) (by kernel_rfl) hP hSW76 (pr_pick_f rfl rfl h77 rfl (WH.done (by kernel_rfl) ?_))))))))
    exact fun a ha => hJ14 (((List.length x0.2.2.2 : Int) != (List.length u78 : Int))) _ hF hB73 (hS74.sel [0] rfl) a (ha.sub ⟨rfl, rfl, trivial⟩)
theorem C_impl_ownCount (w0 : World) (x0 : (((List (List (Int × Int))) × (List Int) × Int × Int) × Int × (List Int) × (List Int))) (v0_0 : Value) (h0_0 : rdS ty_63 (· < w0.heap.size) w0 v0_0 x0.1.1) (v0_1 : Value) (h0_1 : rdS ty_3 (· < w0.heap.size) w0 v0_1 x0.1.2.1) (v0_2 : Value) (h0_2 : rdS ty_3 (· < w0.heap.size) w0 v0_2 x0.2.2.1) (v0_3 : Value) (h0_3 : rdS ty_3 (· < w0.heap.size) w0 v0_3 x0.2.2.2) (x1 : Int) (r : Int) (hF : F_impl_ownCount x0 x1 = some r) :
  Calls Try.prog 198 [(.agg #[v0_0, v0_1, (.int .i64 x0.1.2.2.1), (.int .i64 x0.1.2.2.2), (.int .i64 x0.2.1), v0_2, v0_3]), (.int .i64 x1)].toArray w0 fun e w' => e = .returned (.int .i64 r) ∧ Below w0.heap.size w0 w' := by
 refine calls_mk' Try.func198 rfl Try.ntmps198 rfl rfl fun Q hQ hP => ?_
 have hB : Below w0.heap.size w0 w0 := Below.refl _ _
 have hS : Sep w0.heap.size w0 [] := Sep.nil _ _
 unfold F_impl_ownCount at hF
 refine W.seq fun K1 hK1 => W.region (wl_box (cs := [v0_0, v0_1, (.int .i64 x0.1.2.2.1), (.int .i64 x0.1.2.2.2), (.int .i64 x0.2.1), v0_2, v0_3]) rfl rfl rfl hB hS ?_)
 intro b2 w3 hb4 hB5 hS6
 refine wl_assign rfl rfl (WL.nil (fun a ha => hK1 _ _ (W.seq fun K7 hK7 => (W.regionH mixed_ [] hB5 hS6 ?_)) a ha))
 intro w8 hb9 hB10 hS11
 have hSW12 := KeepX.refl w8 []
 refine WH.takex (i := 0) rfl (by kernel_rfl) (by kernel_rfl) (by kernel_rfl) hP hSW12 (pr_field (o := 4) (off' := 4) ff_102_1 rfl rfl rfl (WH.takex (i := 1) rfl (by kernel_rfl) (by kernel_rfl) (by kernel_rfl) hP hSW12 (pr_load_blk (i := 0) (vs := [(.int .i64 x0.2.1)]) (v := (.int .i64 x0.2.1)) tf_3 rfl rfl hS11 rfl rfl rfl (by simp) (WH.takex (i := 2) rfl (by kernel_rfl) (by kernel_rfl) (by kernel_rfl) hP hSW12 (pr_field (o := 6) (off' := 6) ff_102_3 rfl rfl rfl (WH.takex (i := 3) rfl (by kernel_rfl) (by kernel_rfl) (by kernel_rfl) hP hSW12 (pr_load_blk (i := 0) (vs := [v0_3]) (v := v0_3) tf_29 rfl rfl hS11 rfl rfl rfl (by simp) (WH.takex (i := 4) rfl (by kernel_rfl) (by kernel_rfl) (by kernel_rfl) hP hSW12 (pr_move rfl rfl ?_)))))))))
 obtain ⟨u13, hu13, hF⟩ := bindE hF
 refine WH.takex (i := 5) rfl (by kernel_rfl) (by kernel_rfl) (by kernel_rfl) hP hSW12 (pr_index (e := ty_3) Try.underlying29 rfl rfl rfl h0_3 hu13 ?_)
 rintro p14 _ rfl hp15
 refine WH.takex (i := 6) rfl (by kernel_rfl) (by kernel_rfl) (by kernel_rfl) hP hSW12 (pr_load_p (vs := [(.int .i64 u13)]) (v := (.int .i64 u13)) tf_3 rfl rfl (hp15.kx hB10 (by simp)) rfl rfl (WH.takex (i := 7) rfl (by kernel_rfl) (by kernel_rfl) (by kernel_rfl) hP hSW12 (pr_sub rfl rfl rfl (WH.takex (i := 8) rfl (by kernel_rfl) (by kernel_rfl) (by kernel_rfl) hP hSW12 (pr_field (o := 0) (off' := 0) ff_102_0 rfl rfl rfl (WH.takex (i := 9) rfl (by kernel_rfl) (by kernel_rfl) (by kernel_rfl) hP hSW12 (pr_load_blk (i := 0) (vs := [v0_0, v0_1, (.int .i64 x0.1.2.2.1), (.int .i64 x0.1.2.2.2)]) (v := (.agg #[v0_0, v0_1, (.int .i64 x0.1.2.2.1), (.int .i64 x0.1.2.2.2)])) tf_53 rfl rfl hS11 rfl rfl rfl (by simp) (WH.one (i := 10) (by kernel_rfl) rfl ?_))))))))
 obtain ⟨u16, hu16, hF⟩ := bindE hF
 refine wl_call rfl Try.call177 (C_impl_totalCounts w8 x0.1 v0_0 (h0_0.ro hB10) v0_1 (h0_1.ro hB10) _ hu16) rfl ?_
 rintro _ w17 ⟨rfl, hb18⟩
 refine ⟨_, rfl, ?_⟩
 have hB19 := hB10.trans (hb18.mono hB10.size)
 have hS20 := hS11.below hb18
 have hSW22 := hSW12.ext hb18
 refine WL.nil (WH.ret hSW22 (WH.takex (i := 11) rfl (by kernel_rfl) (by kernel_rfl) (by kernel_rfl) hP hSW22 (pr_min rfl rfl rfl (WH.takex (i := 12) rfl (by kernel_rfl) (by kernel_rfl) (by kernel_rfl) hP hSW22 (pr_assign rfl rfl (WH.done (by kernel_rfl) (fun a ha => hK7 _ _ (W.ret ?_) a ha)))))))
 have hr := Option.some.inj hF
 subst hr
 exact rets (vs := [(.int .i64 (minI (w64 (x0.2.1 - u13)) u16))]) hQ rfl ⟨rv_tmp rfl, trivial⟩ ⟨rfl, hB19⟩
theorem C_impl_sheetMoves (w0 : World) (x0 : (Int × (Int × Int) × (List (Int × (Int × Int))))) (v0_0 : Value) (h0_0 : rdS ty_169 (· < w0.heap.size) w0 v0_0 x0.2.2) (r : (List ((Int × Int) × (Int × Int) × Int))) (hF : F_impl_sheetMoves x0 = some r) :
  Calls Try.prog 203 [(.agg #[(.int .i64 x0.1), (.int .i64 x0.2.1.1), (.int .i64 x0.2.1.2), v0_0])].toArray w0 fun e w' => ∃ (q0 : Value) (G0 : List Nat), e = .returned q0 ∧ Below w0.heap.size w0 w' ∧ Sep w0.heap.size w' [R.own ty_70 G0 q0 r] := by
 refine calls_mk' Try.func203 rfl Try.ntmps203 rfl rfl fun Q hQ hP => ?_
 have hB : Below w0.heap.size w0 w0 := Below.refl _ _
 have hS : Sep w0.heap.size w0 [] := Sep.nil _ _
 unfold F_impl_sheetMoves at hF
 refine W.seq fun K1 hK1 => W.region (wl_box (cs := [(.int .i64 x0.1), (.int .i64 x0.2.1.1), (.int .i64 x0.2.1.2), v0_0]) rfl rfl rfl hB hS ?_)
 intro b2 w3 hb4 hB5 hS6
 refine wl_assign rfl rfl (WL.nil (fun a ha => hK1 _ _ (W.seq fun K7 hK7 => ?_) a ha))
 obtain ⟨k17, hk17, hF⟩ := jE3 hF
 have hJ18 : ∀ (l11 : (List ((Int × Int) × (Int × Int) × Int))) (y15 : Int) (y16 : Int) (v12 : Value) (F13 : List Nat) (b14 : Nat) (w8 : World) (_ : k17 l11 y15 y16 = some r) (_ : Below w0.heap.size w0 w8) (_ : Sep w0.heap.size w8 [R.blk b2 114 [(.int .i64 x0.1), (.int .i64 x0.2.1.1), (.int .i64 x0.2.1.2), v0_0], R.own ty_70 F13 v12 l11, R.blk b14 68 [(.int .i64 y15), (.int .i64 y16)]]), ∀ a, St 30 [(1, (.pointer (some ⟨b2, 0, none⟩))), (3, v12), (4, (.pointer (some ⟨b14, 0, none⟩)))] a → K7 a w8 := by
  intro l11 y15 y16 v12 F13 b14 w8 hF hB9 hS10
  subst hk17
  refine fun a ha => hK7 _ _ (W.seq fun K19 hK19 => (W.seq fun K20 hK20 => (W.region (wl_field (o := 3) (off' := 3) ff_114_2 rfl rfl rfl (wl_load_blk (i := 0) (vs := [v0_0]) (v := v0_0) tf_112 rfl rfl hS10 rfl rfl rfl (wl_lenr (e := ty_169) (l := x0.2.2) Try.underlying112 rfl rfl h0_0 (wl_move rfl rfl (WL.nil (fun a ha => hK20 _ _ (W.block (W.loopk (fun m a w21 => ∃ (l24 : (List ((Int × Int) × (Int × Int) × Int))) (y27 : Int) (y28 : Int) (y29 : Int) (v25 : Value) (F26 : List Nat), St 30 [(3, v25), (4, (.pointer (some ⟨b14, 0, none⟩))), (11, v0_0), (12, (.int .i64 (List.length x0.2.2 : Int))), (13, (.int .i64 y29))] a ∧ Below w0.heap.size w0 w21 ∧ Sep w0.heap.size w21 [R.own ty_70 F26 v25 l24, R.blk b14 68 [(.int .i64 y27), (.int .i64 y28)]] ∧ F_impl_sheetMoves_L1 x0 m l24 y27 y28 y29 = some r) FU ?_ ?_)) a ha))))))))) a ha
  ·
   exact fun a ha => ⟨l11, y15, y16, 0, v12, F13, ha.sub ⟨rfl, rfl, rfl, rfl, rfl, trivial⟩, hB9, (hS10.sel [1, 2] rfl), hF⟩
  ·
   rintro m32 a w21 ⟨l24, y27, y28, y29, v25, F26, ha, hB22, hS23, hF⟩ KL31 hKL31
   refine W.at ?_ ha
   cases m32 with
   | zero => exact noneE hF
   | succ m32 =>
    obtain ⟨nx30, hnx30⟩ : ∃ k, k = F_impl_sheetMoves_L1 x0 m32 := ⟨_, rfl⟩
    rw [F_impl_sheetMoves_L1, ← hnx30] at hF
    refine W.seq fun K33 hK33 => W.region (wl_lss rfl rfl rfl (WL.nil (fun a ha => hK33 _ _ (W.seq fun K34 hK34 => (W.cond rfl (fun h35 => ?_) (fun h35 => ?_))) a ha)))
    ·replace hF := ifP h35 hF
     refine W.skip fun a ha => hK34 _ _ (W.seq fun K36 hK36 => (W.block (W.seq fun K37 hK37 => (W.region ?_)))) a ha
     obtain ⟨u38, hu38, hF⟩ := bindE hF
     refine wl_index (e := ty_169) Try.underlying112 rfl rfl rfl h0_0 hu38 ?_
     rintro p39 _ rfl hp40
     refine wl_load_p (vs := [(.int .i64 u38.1), (.int .i64 u38.2.1), (.int .i64 u38.2.2)]) (v := (.agg #[(.int .i64 u38.1), (.int .i64 u38.2.1), (.int .i64 u38.2.2)])) tf_169 rfl rfl (hp40.ro hB22) rfl rfl (wl_alloc (cs := [(.int .i64 0), (.int .i64 0), (.int .i64 0)]) tf_169 rfl rfl hB22 hS23 ?_)
     intro b41 w42 hb43 hB44 hS45
     refine wl_store_blk (i := 0) (vs := [(.int .i64 u38.1), (.int .i64 u38.2.1), (.int .i64 u38.2.2)]) (cs' := [(.int .i64 u38.1), (.int .i64 u38.2.1), (.int .i64 u38.2.2)]) tf_169 rfl rfl rfl rfl hB44 hS45 rfl rfl ⟨rfl, rfl, rfl, trivial⟩ rfl ?_
     intro w46 hk49 hB47 hS48
     refine WL.nil fun a ha => hK37 _ _ (W.seq fun K50 hK50 => (W.region (wl_move rfl rfl (wl_load_blk (i := 2) (vs := [(.int .i64 y27), (.int .i64 y28)]) (v := (.agg #[(.int .i64 y27), (.int .i64 y28)])) tf_68 rfl rfl hS48 rfl rfl rfl (wl_field (o := 1) (off' := 1) ff_169_1 rfl rfl rfl (wl_load_blk (i := 0) (vs := [(.int .i64 u38.2.1), (.int .i64 u38.2.2)]) (v := (.agg #[(.int .i64 u38.2.1), (.int .i64 u38.2.2)])) tf_68 rfl rfl hS48 rfl rfl rfl (wl_field (o := 0) (off' := 0) ff_169_0 rfl rfl rfl (wl_load_blk (i := 0) (vs := [(.int .i64 u38.1)]) (v := (.int .i64 u38.1)) tf_3 rfl rfl hS48 rfl rfl rfl ?_)))))))) a ha
     refine wl_build (zs := [(.int .i64 0), (.int .i64 0), (.int .i64 0), (.int .i64 0), (.int .i64 0)]) (out := [(.int .i64 y27), (.int .i64 y28), (.int .i64 u38.2.1), (.int .i64 u38.2.2), (.int .i64 u38.1)]) (vs := [(.agg #[(.int .i64 y27), (.int .i64 y28)]), (.agg #[(.int .i64 u38.2.1), (.int .i64 u38.2.2)]), (.int .i64 u38.1)]) (css := [[(.int .i64 y27), (.int .i64 y28)], [(.int .i64 u38.2.1), (.int .i64 u38.2.2)], [(.int .i64 u38.1)]]) tf_70 pl_70 rfl rfl rfl rfl rfl (wl_lit (vs := [(.agg #[(.int .i64 y27), (.int .i64 y28), (.int .i64 u38.2.1), (.int .i64 u38.2.2), (.int .i64 u38.1)])]) (l := [((y27, y28), u38.2, u38.1)]) fl_70 Try.underlying64 rfl rfl rfl rfl rfl rfl hB47 hS48 ?_)
     intro v51 F52 w53 hb54 hB55 hS56
     obtain ⟨u57, hu57, hF⟩ := bindE hF
     refine wl_append (i := 2) (S := (· < w53.heap.size)) fl_70 Try.underlying64 rfl rfl rfl hB55 hS56 rfl (hS56.own_ro (i := 0) rfl) hu57 ?_
     intro v58 F59 w60 hk61 hB62 hS63
     refine wl_assign rfl rfl (WL.nil (fun a ha => hK50 _ _ (W.region (wl_field (o := 1) (off' := 1) ff_169_1 rfl rfl rfl (wl_load_blk (i := 1) (vs := [(.int .i64 u38.2.1), (.int .i64 u38.2.2)]) (v := (.agg #[(.int .i64 u38.2.1), (.int .i64 u38.2.2)])) tf_68 rfl rfl hS63 rfl rfl rfl (wl_store_blk (i := 3) (vs := [(.int .i64 u38.2.1), (.int .i64 u38.2.2)]) (cs' := [(.int .i64 u38.2.1), (.int .i64 u38.2.2)]) tf_68 rfl rfl rfl rfl hB62 hS63 rfl rfl ⟨rfl, rfl, trivial⟩ rfl ?_)))) a ha))
     intro w65 hk68 hB66 hS67
     refine WL.nil fun a ha => hK36 _ _ (W.region (wl_add rfl rfl rfl (wl_move rfl rfl (WL.nil ?_)))) a ha
     rw [hnx30] at hF
     exact fun a ha => hKL31 a _ m32 (Nat.lt_succ_self m32) ⟨u57, u38.2.1, u38.2.2, (w64 (y29 + 1)), v58, F59, ha.sub ⟨rfl, rfl, rfl, rfl, rfl, trivial⟩, hB66, (hS67.sel [2, 3] rfl), hF⟩
    ·replace hF := ifN h35 hF
     refine W.exit fun a ha => hK19 _ _ (W.seq fun K69 hK69 => (W.region (wl_move rfl rfl (wl_assign rfl rfl (WL.nil (fun a ha => hK69 _ _ (W.ret ?_) a ha)))))) a ha
     have hr := Option.some.inj hF
     subst hr
     exact rets (vs := [v25]) hQ rfl ⟨rv_tmp rfl, trivial⟩ ⟨v25, F26, rfl, hB22, hS23.sel [0] rfl⟩
 refine W.regionH mixed_ [] hB5 hS6 ?_
 intro w70 hb71 hB72 hS73
 have hSW74 := KeepX.refl w70 []
 refine WH.takex (i := 1) rfl (by kernel_rfl) (by kernel_rfl) (by kernel_rfl) hP hSW74 (pr_field (o := 1) (off' := 1) ff_114_1 rfl rfl rfl (WH.takex (i := 2) rfl (by kernel_rfl) (by kernel_rfl) (by kernel_rfl) hP hSW74 (pr_load_blk (i := 0) (vs := [(.int .i64 x0.2.1.1), (.int .i64 x0.2.1.2)]) (v := (.agg #[(.int .i64 x0.2.1.1), (.int .i64 x0.2.1.2)])) tf_68 rfl rfl hS73 rfl rfl rfl (by simp) (WH.many (is := [0, 3]) (by kernel_rfl) rfl (List.forall_mem_cons.2 ⟨⟨_, rfl, ?_⟩, List.forall_mem_cons.2 ⟨⟨_, rfl, ?_⟩, fun _ h => by cases h⟩⟩)))))
 ·
  refine wl_lit (vs := []) (l := []) fl_70 Try.underlying64 rfl rfl rfl rfl rfl rfl (Below.self w70) (Sep.nil _ _) ?_
  intro v75 F76 w77 hb78 hB81 hM82
  have hB79 := hB72.trans (hb78.mono hB72.size)
  have hS80 := hS73.join hb78 hM82 hB72.size
  have hn83 : ∀ b ∈ F76, w70.heap.size ≤ b := fun b hb => Nat.le_trans hSW74.size ((hM82.1 _ (List.mem_cons_self ..)).2.1 b hb).1
  have hSW84 := hSW74.ext hb78
  refine WL.nil (WH.ret hSW84 (WH.one (i := 3) (by kernel_rfl) rfl (wl_alloc (cs := [(.int .i64 0), (.int .i64 0)]) tf_68 rfl rfl (Below.self w77) (Sep.nil _ _) ?_)))
  intro b85 w86 hb87 hB90 hM91
  have hB88 := hB79.trans (hb87.mono hB79.size)
  have hS89 := hS80.join hb87 hM91 hB79.size
  have hn92 : ∀ b ∈ [b85], w70.heap.size ≤ b := fun b hb => Nat.le_trans hSW84.size ((hM91.1 _ (List.mem_cons_self ..)).2.1 b hb).1
  have hSW93 := hSW84.ext hb87
  refine WL.nil (WH.ret hSW93 (WH.takex (i := 4) rfl (by kernel_rfl) (by kernel_rfl) (by kernel_rfl) hP hSW93 (pr_assign rfl rfl (WH.one (i := 5) (by kernel_rfl) rfl (wl_store_blk (i := 0) (vs := [(.int .i64 x0.2.1.1), (.int .i64 x0.2.1.2)]) (cs' := [(.int .i64 x0.2.1.1), (.int .i64 x0.2.1.2)]) tf_68 rfl rfl rfl rfl hB88 hS89 rfl rfl ⟨rfl, rfl, trivial⟩ rfl ?_)))))
  intro w94 hk97 hB95 hS96
  have hSW98 := hSW93.wr' hk97.1 hk97.2.1 (fun b hlt hb => absurd hlt (Nat.not_lt.2 (hn92 b hb)))
  have hn99 : ∀ b ∈ [b85], w70.heap.size ≤ b := fun b hb => (hk97.2.2 b hb).elim (hn92 b) fun h => Nat.le_trans hSW93.size h
  refine WL.nil (WH.ret hSW98 (WH.done (by kernel_rfl) ?_))
  exact fun a ha => hJ18 ([]) (x0.2.1.1) (x0.2.1.2) (v75) (F76) (b85) _ hF hB95 (hS96.sel [2, 1, 0] rfl) a (ha.sub ⟨rfl, rfl, rfl, trivial⟩)
 ·
  refine wl_alloc (cs := [(.int .i64 0), (.int .i64 0)]) tf_68 rfl rfl (Below.self w70) (Sep.nil _ _) ?_
  intro b100 w101 hb102 hB105 hM106
  have hB103 := hB72.trans (hb102.mono hB72.size)
  have hS104 := hS73.join hb102 hM106 hB72.size
  have hn107 : ∀ b ∈ [b100], w70.heap.size ≤ b := fun b hb => Nat.le_trans hSW74.size ((hM106.1 _ (List.mem_cons_self ..)).2.1 b hb).1
  have hSW108 := hSW74.ext hb102
  refine WL.nil (WH.ret hSW108 (WH.one (i := 0) (by kernel_rfl) rfl (wl_lit (vs := []) (l := []) fl_70 Try.underlying64 rfl rfl rfl rfl rfl rfl (Below.self w101) (Sep.nil _ _) ?_)))
  intro v109 F110 w111 hb112 hB115 hM116
  have hB113 := hB103.trans (hb112.mono hB103.size)
  have hS114 := hS104.join hb112 hM116 hB103.size
  have hn117 : ∀ b ∈ F110, w70.heap.size ≤ b := fun b hb => Nat.le_trans hSW108.size ((hM116.1 _ (List.mem_cons_self ..)).2.1 b hb).1
  have hSW118 := hSW108.ext hb112
  refine WL.nil (WH.ret hSW118 (WH.takex (i := 4) rfl (by kernel_rfl) (by kernel_rfl) (by kernel_rfl) hP hSW118 (pr_assign rfl rfl (WH.one (i := 5) (by kernel_rfl) rfl (wl_store_blk (i := 1) (vs := [(.int .i64 x0.2.1.1), (.int .i64 x0.2.1.2)]) (cs' := [(.int .i64 x0.2.1.1), (.int .i64 x0.2.1.2)]) tf_68 rfl rfl rfl rfl hB113 hS114 rfl rfl ⟨rfl, rfl, trivial⟩ rfl ?_)))))
  intro w119 hk122 hB120 hS121
  have hSW123 := hSW118.wr' hk122.1 hk122.2.1 (fun b hlt hb => absurd hlt (Nat.not_lt.2 (hn107 b hb)))
  have hn124 : ∀ b ∈ [b100], w70.heap.size ≤ b := fun b hb => (hk122.2.2 b hb).elim (hn107 b) fun h => Nat.le_trans hSW118.size h
  refine WL.nil (WH.ret hSW123 (WH.done (by kernel_rfl) ?_))
  exact fun a ha => hJ18 ([]) (x0.2.1.1) (x0.2.1.2) (v109) (F110) (b100) _ hF hB120 (hS121.sel [2, 0, 1] rfl) a (ha.sub ⟨rfl, rfl, rfl, trivial⟩)
theorem C_impl_placeAt (w0 : World) (x0 : ((Int × Int) × (Int × Int) × Int)) (x1 : Int) (r : (Int × Int)) (hF : F_impl_placeAt x0 x1 = some r) :
  Calls Try.prog 247 [(.agg #[(.int .i64 x0.1.1), (.int .i64 x0.1.2), (.int .i64 x0.2.1.1), (.int .i64 x0.2.1.2), (.int .i64 x0.2.2)]), (.int .i64 x1)].toArray w0 fun e w' => e = .returned (.tuple #[(.int .i64 r.1), (.int .i64 r.2)]) ∧ Below w0.heap.size w0 w' := by
 refine calls_mk' Try.func247 rfl Try.ntmps247 rfl rfl fun Q hQ hP => ?_
 have hB : Below w0.heap.size w0 w0 := Below.refl _ _
 have hS : Sep w0.heap.size w0 [] := Sep.nil _ _
 unfold F_impl_placeAt at hF
 refine W.seq fun K1 hK1 => W.region (wl_box (cs := [(.int .i64 x0.1.1), (.int .i64 x0.1.2), (.int .i64 x0.2.1.1), (.int .i64 x0.2.1.2), (.int .i64 x0.2.2)]) rfl rfl rfl hB hS ?_)
 intro b2 w3 hb4 hB5 hS6
 refine wl_assign rfl rfl (wl_assign rfl rfl (WL.nil (fun a ha => hK1 _ _ (W.seq fun K7 hK7 => (W.regionH mixed_ [] hB5 hS6 ?_)) a ha)))
 intro w8 hb9 hB10 hS11
 have hSW12 := KeepX.refl w8 []
 refine WH.takex (i := 0) rfl (by kernel_rfl) (by kernel_rfl) (by kernel_rfl) hP hSW12 (pr_field (o := 0) (off' := 0) ff_70_0 rfl rfl rfl (WH.takex (i := 1) rfl (by kernel_rfl) (by kernel_rfl) (by kernel_rfl) hP hSW12 (pr_field (o := 0) (off' := 0) ff_68_0 rfl rfl rfl (WH.takex (i := 2) rfl (by kernel_rfl) (by kernel_rfl) (by kernel_rfl) hP hSW12 (pr_load_blk (i := 0) (vs := [(.int .i64 x0.1.1)]) (v := (.int .i64 x0.1.1)) tf_3 rfl rfl hS11 rfl rfl rfl (by simp) (WH.takex (i := 3) rfl (by kernel_rfl) (by kernel_rfl) (by kernel_rfl) hP hSW12 (pr_field (o := 4) (off' := 4) ff_70_2 rfl rfl rfl (WH.takex (i := 4) rfl (by kernel_rfl) (by kernel_rfl) (by kernel_rfl) hP hSW12 (pr_load_blk (i := 0) (vs := [(.int .i64 x0.2.2)]) (v := (.int .i64 x0.2.2)) tf_3 rfl rfl hS11 rfl rfl rfl (by simp) (WH.takex (i := 5) rfl (by kernel_rfl) (by kernel_rfl) (by kernel_rfl) hP hSW12 (pr_mul rfl rfl rfl ?_)))))))))))
 refine WH.takex (i := 6) rfl (by kernel_rfl) (by kernel_rfl) (by kernel_rfl) hP hSW12 (pr_move rfl rfl (WH.takex (i := 7) rfl (by kernel_rfl) (by kernel_rfl) (by kernel_rfl) hP hSW12 (pr_field (o := 2) (off' := 2) ff_70_1 rfl rfl rfl (WH.takex (i := 8) rfl (by kernel_rfl) (by kernel_rfl) (by kernel_rfl) hP hSW12 (pr_field (o := 0) (off' := 2) ff_68_0 rfl rfl rfl (WH.takex (i := 9) rfl (by kernel_rfl) (by kernel_rfl) (by kernel_rfl) hP hSW12 (pr_load_blk (i := 0) (vs := [(.int .i64 x0.2.1.1)]) (v := (.int .i64 x0.2.1.1)) tf_3 rfl rfl hS11 rfl rfl rfl (by simp) (WH.takex (i := 10) rfl (by kernel_rfl) (by kernel_rfl) (by kernel_rfl) hP hSW12 (pr_field (o := 0) (off' := 0) ff_70_0 rfl rfl rfl (WH.takex (i := 11) rfl (by kernel_rfl) (by kernel_rfl) (by kernel_rfl) hP hSW12 (pr_field (o := 0) (off' := 0) ff_68_0 rfl rfl rfl ?_)))))))))))
 refine WH.takex (i := 12) rfl (by kernel_rfl) (by kernel_rfl) (by kernel_rfl) hP hSW12 (pr_load_blk (i := 0) (vs := [(.int .i64 x0.1.1)]) (v := (.int .i64 x0.1.1)) tf_3 rfl rfl hS11 rfl rfl rfl (by simp) (WH.takex (i := 13) rfl (by kernel_rfl) (by kernel_rfl) (by kernel_rfl) hP hSW12 (pr_sub rfl rfl rfl (WH.takex (i := 14) rfl (by kernel_rfl) (by kernel_rfl) (by kernel_rfl) hP hSW12 (pr_mul rfl rfl rfl (WH.takex (i := 15) rfl (by kernel_rfl) (by kernel_rfl) (by kernel_rfl) hP hSW12 (pr_add rfl rfl rfl (WH.takex (i := 16) rfl (by kernel_rfl) (by kernel_rfl) (by kernel_rfl) hP hSW12 (pr_field (o := 0) (off' := 0) ff_70_0 rfl rfl rfl (WH.takex (i := 17) rfl (by kernel_rfl) (by kernel_rfl) (by kernel_rfl) hP hSW12 (pr_field (o := 1) (off' := 1) ff_68_1 rfl rfl rfl (WH.takex (i := 18) rfl (by kernel_rfl) (by kernel_rfl) (by kernel_rfl) hP hSW12 ?_))))))))))))
 refine pr_load_blk (i := 0) (vs := [(.int .i64 x0.1.2)]) (v := (.int .i64 x0.1.2)) tf_3 rfl rfl hS11 rfl rfl rfl (by simp) (WH.takex (i := 19) rfl (by kernel_rfl) (by kernel_rfl) (by kernel_rfl) hP hSW12 (pr_field (o := 4) (off' := 4) ff_70_2 rfl rfl rfl (WH.takex (i := 20) rfl (by kernel_rfl) (by kernel_rfl) (by kernel_rfl) hP hSW12 (pr_load_blk (i := 0) (vs := [(.int .i64 x0.2.2)]) (v := (.int .i64 x0.2.2)) tf_3 rfl rfl hS11 rfl rfl rfl (by simp) (WH.takex (i := 21) rfl (by kernel_rfl) (by kernel_rfl) (by kernel_rfl) hP hSW12 (pr_mul rfl rfl rfl (WH.takex (i := 22) rfl (by kernel_rfl) (by kernel_rfl) (by kernel_rfl) hP hSW12 (pr_move rfl rfl (WH.takex (i := 23) rfl (by kernel_rfl) (by kernel_rfl) (by kernel_rfl) hP hSW12 (pr_field (o := 2) (off' := 2) ff_70_1 rfl rfl rfl (WH.takex (i := 24) rfl (by kernel_rfl) (by kernel_rfl) (by kernel_rfl) hP hSW12 ?_)))))))))))
 refine pr_field (o := 1) (off' := 3) ff_68_1 rfl rfl rfl (WH.takex (i := 25) rfl (by kernel_rfl) (by kernel_rfl) (by kernel_rfl) hP hSW12 (pr_load_blk (i := 0) (vs := [(.int .i64 x0.2.1.2)]) (v := (.int .i64 x0.2.1.2)) tf_3 rfl rfl hS11 rfl rfl rfl (by simp) (WH.takex (i := 26) rfl (by kernel_rfl) (by kernel_rfl) (by kernel_rfl) hP hSW12 (pr_field (o := 0) (off' := 0) ff_70_0 rfl rfl rfl (WH.takex (i := 27) rfl (by kernel_rfl) (by kernel_rfl) (by kernel_rfl) hP hSW12 (pr_field (o := 1) (off' := 1) ff_68_1 rfl rfl rfl (WH.takex (i := 28) rfl (by kernel_rfl) (by kernel_rfl) (by kernel_rfl) hP hSW12 (pr_load_blk (i := 0) (vs := [(.int .i64 x0.1.2)]) (v := (.int .i64 x0.1.2)) tf_3 rfl rfl hS11 rfl rfl rfl (by simp) (WH.takex (i := 29) rfl (by kernel_rfl) (by kernel_rfl) (by kernel_rfl) hP hSW12 (pr_sub rfl rfl rfl ?_))))))))))
 refine WH.takex (i := 30) rfl (by kernel_rfl) (by kernel_rfl) (by kernel_rfl) hP hSW12 (pr_mul rfl rfl rfl (WH.takex (i := 31) rfl (by kernel_rfl) (by kernel_rfl) (by kernel_rfl) hP hSW12 (pr_add rfl rfl rfl (WH.takex (i := 32) rfl (by kernel_rfl) (by kernel_rfl) (by kernel_rfl) hP hSW12 (pr_assign rfl rfl (WH.takex (i := 33) rfl (by kernel_rfl) (by kernel_rfl) (by kernel_rfl) hP hSW12 (pr_assign rfl rfl (WH.done (by kernel_rfl) (fun a ha => hK7 _ _ (W.ret ?_) a ha)))))))))
 have hr := Option.some.inj hF
 subst hr
 exact rets (vs := [(.int .i64 (w64 ((w64 (x0.1.1 * x0.2.2)) + (w64 (x1 * (w64 (x0.2.1.1 - x0.1.1))))))), (.int .i64 (w64 ((w64 (x0.1.2 * x0.2.2)) + (w64 (x1 * (w64 (x0.2.1.2 - x0.1.2)))))))]) hQ rfl ⟨rv_tmp rfl, rv_tmp rfl, trivial⟩ ⟨rfl, hB10⟩
theorem C_impl_floorDiv (w0 : World) (x0 : Int) (x1 : Int) (r : Int) (hF : F_impl_floorDiv x0 x1 = some r) :
  Calls Try.prog 269 [(.int .i64 x0), (.int .i64 x1)].toArray w0 fun e w' => e = .returned (.int .i64 r) ∧ Below w0.heap.size w0 w' := by
 refine calls_mk' Try.func269 rfl Try.ntmps269 rfl rfl fun Q hQ hP => ?_
 have hB : Below w0.heap.size w0 w0 := Below.refl _ _
 have hS : Sep w0.heap.size w0 [] := Sep.nil _ _
 unfold F_impl_floorDiv at hF
 refine W.seq fun K1 hK1 => W.region (wl_assign rfl rfl (WL.nil (fun a ha => hK1 _ _ (W.seq fun K2 hK2 => (W.region (wl_move rfl rfl (wl_move rfl rfl ?_)))) a ha)))
 have h3 : x1 ≠ 0 := fun h3 => noneE (ifP h3 hF)
 replace hF := ifNP h3 hF
 refine wl_quo rfl rfl rfl h3 (wl_assign rfl rfl (WL.nil (fun a ha => hK2 _ _ (W.seq fun K4 hK4 => ?_) a ha)))
 obtain ⟨k9, hk9, hF⟩ := jE1 hF
 have hJ10 : ∀ (y8 : Int) (w5 : World) (_ : k9 y8 = some r) (_ : Below w0.heap.size w0 w5) (_ : Sep w0.heap.size w5 []), ∀ a, St 16 [(5, (.int .i64 y8))] a → K4 a w5 := by
  intro y8 w5 hF hB6 hS7
  subst hk9
  refine fun a ha => hK4 _ _ (W.seq fun K11 hK11 => (W.region (wl_move rfl rfl (wl_assign rfl rfl (WL.nil (fun a ha => hK11 _ _ (W.ret ?_) a ha)))))) a ha
  have hr := Option.some.inj hF
  subst hr
  exact rets (vs := [(.int .i64 y8)]) hQ rfl ⟨rv_tmp rfl, trivial⟩ ⟨rfl, hB6⟩
 refine W.seq fun K12 hK12 => W.region (wl_move rfl rfl (wl_move rfl rfl ?_))
 have h13 : x1 ≠ 0 := fun h13 => noneE (ifP h13 hF)
 replace hF := ifNP h13 hF
 refine wl_rem rfl rfl rfl h13 (wl_lss rfl rfl rfl (WL.nil (fun a ha => hK12 _ _ (W.cond rfl (fun h14 => ?_) (fun h14 => ?_)) a ha)))
 ·replace hF := ifP h14 hF
  refine W.region (wl_move rfl rfl (wl_sub rfl rfl rfl (wl_assign rfl rfl (WL.nil ?_))))
  exact fun a ha => hJ10 ((w64 ((w64 (Int.tdiv x0 x1)) - 1))) _ hF hB (hS.sel [] rfl) a (ha.sub ⟨rfl, trivial⟩)
 ·replace hF := ifN h14 hF
  refine W.skip ?_
  exact fun a ha => hJ10 ((w64 (Int.tdiv x0 x1))) _ hF hB (hS.sel [] rfl) a (ha.sub ⟨rfl, trivial⟩)
theorem C_impl_roundDiv (w0 : World) (x0 : Int) (x1 : Int) (r : Int) (hF : F_impl_roundDiv x0 x1 = some r) :
  Calls Try.prog 248 [(.int .i64 x0), (.int .i64 x1)].toArray w0 fun e w' => e = .returned (.int .i64 r) ∧ Below w0.heap.size w0 w' := by
 refine calls_mk' Try.func248 rfl Try.ntmps248 rfl rfl fun Q hQ hP => ?_
 have hB : Below w0.heap.size w0 w0 := Below.refl _ _
 have hS : Sep w0.heap.size w0 [] := Sep.nil _ _
 unfold F_impl_roundDiv at hF
 refine W.seq fun K1 hK1 => W.region (wl_assign rfl rfl (WL.nil (fun a ha => hK1 _ _ (W.seq fun K2 hK2 => (W.region (wl_move rfl rfl (wl_mul rfl rfl rfl (wl_move rfl rfl (wl_add rfl rfl rfl (wl_move rfl rfl (wl_mul rfl rfl rfl ?_)))))))) a ha)))
 obtain ⟨u3, hu3, hF⟩ := bindE hF
 refine wl_call rfl Try.call269 (C_impl_floorDiv w0 (w64 ((w64 (2 * x0)) + x1)) (w64 (2 * x1)) _ hu3) rfl ?_
 rintro _ w4 ⟨rfl, hb5⟩
 refine ⟨_, rfl, ?_⟩
 have hB6 := hB.trans (hb5.mono hB.size)
 have hS7 := hS.below hb5
 refine wl_assign rfl rfl (WL.nil (fun a ha => hK2 _ _ (W.ret ?_) a ha))
 have hr := Option.some.inj hF
 subst hr
 exact rets (vs := [(.int .i64 u3)]) hQ rfl ⟨rv_tmp rfl, trivial⟩ ⟨rfl, hB6⟩
theorem C_impl_roundedAt (w0 : World) (x0 : ((Int × Int) × (Int × Int) × Int)) (x1 : Int) (r : (Int × Int)) (hF : F_impl_roundedAt x0 x1 = some r) :
  Calls Try.prog 204 [(.agg #[(.int .i64 x0.1.1), (.int .i64 x0.1.2), (.int .i64 x0.2.1.1), (.int .i64 x0.2.1.2), (.int .i64 x0.2.2)]), (.int .i64 x1)].toArray w0 fun e w' => e = .returned (.agg #[(.int .i64 r.1), (.int .i64 r.2)]) ∧ Below w0.heap.size w0 w' := by
 refine calls_mk' Try.func204 rfl Try.ntmps204 rfl rfl fun Q hQ hP => ?_
 have hB : Below w0.heap.size w0 w0 := Below.refl _ _
 have hS : Sep w0.heap.size w0 [] := Sep.nil _ _
 unfold F_impl_roundedAt at hF
 refine W.seq fun K1 hK1 => W.region (wl_box (cs := [(.int .i64 x0.1.1), (.int .i64 x0.1.2), (.int .i64 x0.2.1.1), (.int .i64 x0.2.1.2), (.int .i64 x0.2.2)]) rfl rfl rfl hB hS ?_)
 intro b2 w3 hb4 hB5 hS6
 refine wl_alloc (cs := [(.int .i64 0), (.int .i64 0)]) tf_68 rfl rfl hB5 hS6 ?_
 intro b7 w8 hb9 hB10 hS11
 refine WL.nil fun a ha => hK1 _ _ (W.seq fun K12 hK12 => (W.region (wl_load_blk (i := 1) (vs := [(.int .i64 x0.1.1), (.int .i64 x0.1.2), (.int .i64 x0.2.1.1), (.int .i64 x0.2.1.2), (.int .i64 x0.2.2)]) (v := (.agg #[(.int .i64 x0.1.1), (.int .i64 x0.1.2), (.int .i64 x0.2.1.1), (.int .i64 x0.2.1.2), (.int .i64 x0.2.2)])) tf_70 rfl rfl hS11 rfl rfl rfl (wl_move rfl rfl ?_)))) a ha
 obtain ⟨u13, hu13, hF⟩ := bindE hF
 refine wl_call rfl Try.call247 (C_impl_placeAt w8 x0 x1 _ hu13) rfl ?_
 rintro _ w14 ⟨rfl, hb15⟩
 refine ⟨_, rfl, ?_⟩
 have hB16 := hB10.trans (hb15.mono hB10.size)
 have hS17 := hS11.below hb15
 refine wl_move rfl rfl (wl_extract rfl rfl rfl (wl_extract rfl rfl rfl (wl_assign rfl rfl (wl_assign rfl rfl (WL.nil (fun a ha => hK12 _ _ (W.seq fun K19 hK19 => (W.regionH mixed_ [b7] hB16 hS17 ?_)) a ha))))))
 intro w20 hb21 hB22 hS23
 have hSW24 := KeepX.refl w20 [b7]
 refine WH.takex (i := 0) rfl (by kernel_rfl) (by kernel_rfl) (by kernel_rfl) hP hSW24 (pr_move rfl rfl (WH.takex (i := 1) rfl (by kernel_rfl) (by kernel_rfl) (by kernel_rfl) hP hSW24 (pr_field (o := 4) (off' := 4) ff_70_2 rfl rfl rfl (WH.takex (i := 2) rfl (by kernel_rfl) (by kernel_rfl) (by kernel_rfl) hP hSW24 (pr_load_blk (i := 1) (vs := [(.int .i64 x0.2.2)]) (v := (.int .i64 x0.2.2)) tf_3 rfl rfl hS23 rfl rfl rfl (hS23.disj (i := 1) (j := 0) rfl rfl rfl b2 (by simp [R.blk])) (WH.takex (i := 4) rfl (by kernel_rfl) (by kernel_rfl) (by kernel_rfl) hP hSW24 (pr_move rfl rfl (WH.takex (i := 5) rfl (by kernel_rfl) (by kernel_rfl) (by kernel_rfl) hP hSW24 (pr_field (o := 4) (off' := 4) ff_70_2 rfl rfl rfl (WH.takex (i := 6) rfl (by kernel_rfl) (by kernel_rfl) (by kernel_rfl) hP hSW24 ?_))))))))))
 refine pr_load_blk (i := 1) (vs := [(.int .i64 x0.2.2)]) (v := (.int .i64 x0.2.2)) tf_3 rfl rfl hS23 rfl rfl rfl (hS23.disj (i := 1) (j := 0) rfl rfl rfl b2 (by simp [R.blk])) (WH.one (i := 3) (by kernel_rfl) rfl ?_)
 obtain ⟨u25, hu25, hF⟩ := bindE hF
 refine wl_call rfl Try.call248 (C_impl_roundDiv w20 u13.1 x0.2.2 _ hu25) rfl ?_
 rintro _ w26 ⟨rfl, hb27⟩
 refine ⟨_, rfl, ?_⟩
 have hB28 := hB22.trans (hb27.mono hB22.size)
 have hS29 := hS23.below hb27
 have hSW31 := hSW24.ext hb27
 have hbS32 : Below w20.heap.size w20 w26 := hb27
 refine WL.nil (WH.ret hSW31 (WH.one (i := 7) (by kernel_rfl) rfl ?_))
 obtain ⟨u33, hu33, hF⟩ := bindE hF
 refine wl_call rfl Try.call248 (C_impl_roundDiv w26 u13.2 x0.2.2 _ hu33) rfl ?_
 rintro _ w34 ⟨rfl, hb35⟩
 refine ⟨_, rfl, ?_⟩
 have hB36 := hB28.trans (hb35.mono hB28.size)
 have hS37 := hS29.below hb35
 have hSW39 := hSW31.ext hb35
 have hbS40 : Below w20.heap.size w20 w34 := hbS32.trans (hb35.mono hbS32.size)
 refine WL.nil (WH.ret hSW39 (WH.takex (i := 8) rfl (by kernel_rfl) (by kernel_rfl) (by kernel_rfl) hP hSW39 (pr_build (zs := [(.int .i64 0), (.int .i64 0)]) (out := [(.int .i64 u25), (.int .i64 u33)]) (vs := [(.int .i64 u25), (.int .i64 u33)]) (css := [[(.int .i64 u25)], [(.int .i64 u33)]]) tf_68 pl_68 rfl rfl rfl rfl rfl (WH.one (i := 9) (by kernel_rfl) rfl (wl_store_blk (i := 0) (vs := [(.int .i64 u25), (.int .i64 u33)]) (cs' := [(.int .i64 u25), (.int .i64 u33)]) tf_68 rfl rfl rfl rfl hB36 hS37 rfl rfl ⟨rfl, rfl, trivial⟩ rfl ?_)))))
 intro w41 hk44 hB42 hS43
 have hSW45 := hSW39.wr' hk44.1 hk44.2.1 (fun _ _ h => h)
 have hbs46 : ∀ b, b < w20.heap.size → b ∈ [b7] → b ∈ [b7] := fun b hlt hb => (hk44.2.2 b hb).elim ((fun _ _ h => h) b hlt) (fun h => absurd hlt (Nat.not_lt.2 (Nat.le_trans hSW39.size h)))
 refine WL.nil (WH.ret hSW45 (WH.done (by kernel_rfl) (fun a ha => hK19 _ _ (W.ret ?_) a ha)))
 have hr := Option.some.inj hF
 subst hr
 exact rets (vs := [(.agg #[(.int .i64 u25), (.int .i64 u33)])]) hQ rfl ⟨rv_cell (i := 0) tf_68 rfl hS43 rfl rfl rfl, trivial⟩ ⟨rfl, hB42⟩
theorem C_impl_SpotAfter (w0 : World) (x0 : (Int × (Int × Int) × (List (Int × (Int × Int))))) (v0_0 : Value) (h0_0 : rdS ty_169 (· < w0.heap.size) w0 v0_0 x0.2.2) (x1 : Int) (r : ((Int × Int) × Bool)) (hF : F_impl_SpotAfter x0 x1 = some r) :
  Calls Try.prog 103 [(.agg #[(.int .i64 x0.1), (.int .i64 x0.2.1.1), (.int .i64 x0.2.1.2), v0_0]), (.int .i64 x1)].toArray w0 fun e w' => e = .returned (.tuple #[(.agg #[(.int .i64 r.1.1), (.int .i64 r.1.2)]), (.bool r.2)]) ∧ Below w0.heap.size w0 w' := by
 refine calls_mk' Try.func103 rfl Try.ntmps103 rfl rfl fun Q hQ hP => ?_
 have hB : Below w0.heap.size w0 w0 := Below.refl _ _
 have hS : Sep w0.heap.size w0 [] := Sep.nil _ _
 unfold F_impl_SpotAfter at hF
 refine W.seq fun K1 hK1 => W.region (wl_box (cs := [(.int .i64 x0.1), (.int .i64 x0.2.1.1), (.int .i64 x0.2.1.2), v0_0]) rfl rfl rfl hB hS ?_)
 intro b2 w3 hb4 hB5 hS6
 refine wl_alloc (cs := [(.int .i64 0), (.int .i64 0)]) tf_68 rfl rfl hB5 hS6 ?_
 intro b7 w8 hb9 hB10 hS11
 refine wl_assign rfl rfl (WL.nil (fun a ha => hK1 _ _ (W.seq fun K12 hK12 => (W.seq fun K13 hK13 => ?_)) a ha))
 obtain ⟨k18, hk18, hF⟩ := jE1 hF
 have hJ19 : ∀ (y17 : Bool) (w14 : World) (_ : k18 y17 = some r) (_ : Below w0.heap.size w0 w14) (_ : Sep w0.heap.size w14 [R.blk b2 114 [(.int .i64 x0.1), (.int .i64 x0.2.1.1), (.int .i64 x0.2.1.2), v0_0], R.blk b7 68 [(.int .i64 0), (.int .i64 0)]]), ∀ a, St 40 [(1, (.int .i64 x1)), (2, (.pointer (some ⟨b2, 0, none⟩))), (4, (.pointer (some ⟨b7, 0, none⟩))), (14, (.bool y17))] a → K13 a w14 := by
  intro y17 w14 hF hB15 hS16
  subst hk18
  refine fun a ha => hK13 _ _ (W.cond rfl (fun h20 => ?_) (fun h20 => ?_)) a ha
  ·replace hF := ifP h20 hF
   refine W.seq fun K21 hK21 => W.region (wl_build (zs := [(.int .i64 0), (.int .i64 0)]) (out := [(.int .i64 0), (.int .i64 0)]) (vs := []) (css := []) tf_68 pl_68 rfl rfl rfl rfl rfl (wl_store_blk (i := 1) (vs := [(.int .i64 0), (.int .i64 0)]) (cs' := [(.int .i64 0), (.int .i64 0)]) tf_68 rfl rfl rfl rfl hB15 hS16 rfl rfl ⟨rfl, rfl, trivial⟩ rfl ?_))
   intro w22 hk25 hB23 hS24
   refine wl_assign rfl rfl (WL.nil (fun a ha => hK21 _ _ (W.ret ?_) a ha))
   have hr := Option.some.inj hF
   subst hr
   exact rets (vs := [(.agg #[(.int .i64 0), (.int .i64 0)]), (.bool false)]) hQ rfl ⟨rv_cell (i := 1) tf_68 rfl hS24 rfl rfl rfl, rv_tmp rfl, trivial⟩ ⟨rfl, hB23⟩
  ·replace hF := ifN h20 hF
   refine W.skip fun a ha => hK12 _ _ (W.seq fun K26 hK26 => (W.seq fun K27 hK27 => (W.region (wl_load_blk (i := 0) (vs := [(.int .i64 x0.1), (.int .i64 x0.2.1.1), (.int .i64 x0.2.1.2), v0_0]) (v := (.agg #[(.int .i64 x0.1), (.int .i64 x0.2.1.1), (.int .i64 x0.2.1.2), v0_0])) tf_114 rfl rfl hS16 rfl rfl rfl ?_)))) a ha
   obtain ⟨u28, hu28, hF⟩ := bindE hF
   refine wl_call rfl Try.call203 (C_impl_sheetMoves w14 x0 v0_0 (h0_0.ro hB15) _ hu28) rfl ?_
   rintro _ w31 ⟨v29, F30, rfl, hb32, hM35⟩
   refine ⟨_, rfl, ?_⟩
   have hB33 := hB15.trans (hb32.mono hB15.size)
   have hS34 := hS16.join hb32 hM35 hB15.size
   refine wl_lenr (e := ty_70) (l := u28) Try.underlying64 rfl rfl (hS34.own_ro (i := 0) rfl) (wl_move rfl rfl (WL.nil (fun a ha => hK27 _ _ (W.block (W.loopk (fun m a w36 => ∃ (y39 : Int) (y40 : Int), St 40 [(1, (.int .i64 y39)), (2, (.pointer (some ⟨b2, 0, none⟩))), (4, (.pointer (some ⟨b7, 0, none⟩))), (17, v29), (18, (.int .i64 (List.length u28 : Int))), (19, (.int .i64 y40))] a ∧ Below w0.heap.size w0 w36 ∧ Sep w0.heap.size w36 [R.blk b2 114 [(.int .i64 x0.1), (.int .i64 x0.2.1.1), (.int .i64 x0.2.1.2), v0_0], R.blk b7 68 [(.int .i64 0), (.int .i64 0)], R.own ty_70 F30 v29 u28] ∧ F_impl_SpotAfter_L1 u28 x0 m y39 y40 = some r) FU ?_ ?_)) a ha)))
   ·
    exact fun a ha => ⟨x1, 0, ha.sub ⟨rfl, rfl, rfl, rfl, rfl, rfl, trivial⟩, hB33, (hS34.sel [1, 2, 0] rfl), hF⟩
   ·
    rintro m43 a w36 ⟨y39, y40, ha, hB37, hS38, hF⟩ KL42 hKL42
    refine W.at ?_ ha
    cases m43 with
    | zero => exact noneE hF
    | succ m43 =>
     obtain ⟨nx41, hnx41⟩ : ∃ k, k = F_impl_SpotAfter_L1 u28 x0 m43 := ⟨_, rfl⟩
     rw [F_impl_SpotAfter_L1, ← hnx41] at hF
     refine W.seq fun K44 hK44 => W.region (wl_lss rfl rfl rfl (WL.nil (fun a ha => hK44 _ _ (W.seq fun K45 hK45 => (W.cond rfl (fun h46 => ?_) (fun h46 => ?_))) a ha)))
     ·replace hF := ifP h46 hF
      refine W.skip fun a ha => hK45 _ _ (W.seq fun K47 hK47 => (W.block (W.seq fun K48 hK48 => (W.region ?_)))) a ha
      obtain ⟨u49, hu49, hF⟩ := bindE hF
      refine wl_indexo (e := ty_70) (i := 2) Try.underlying64 rfl rfl rfl hS38 rfl hu49 ?_
      rintro p50 _ rfl hp51 ho52
      refine wl_load_p (vs := [(.int .i64 u49.1.1), (.int .i64 u49.1.2), (.int .i64 u49.2.1.1), (.int .i64 u49.2.1.2), (.int .i64 u49.2.2)]) (v := (.agg #[(.int .i64 u49.1.1), (.int .i64 u49.1.2), (.int .i64 u49.2.1.1), (.int .i64 u49.2.1.2), (.int .i64 u49.2.2)])) tf_70 rfl rfl hp51 rfl rfl (wl_alloc (cs := [(.int .i64 0), (.int .i64 0), (.int .i64 0), (.int .i64 0), (.int .i64 0)]) tf_70 rfl rfl hB37 hS38 ?_)
      intro b53 w54 hb55 hB56 hS57
      refine wl_store_blk (i := 0) (vs := [(.int .i64 u49.1.1), (.int .i64 u49.1.2), (.int .i64 u49.2.1.1), (.int .i64 u49.2.1.2), (.int .i64 u49.2.2)]) (cs' := [(.int .i64 u49.1.1), (.int .i64 u49.1.2), (.int .i64 u49.2.1.1), (.int .i64 u49.2.1.2), (.int .i64 u49.2.2)]) tf_70 rfl rfl rfl rfl hB56 hS57 rfl rfl ⟨rfl, rfl, rfl, rfl, rfl, trivial⟩ rfl ?_
      intro w58 hk61 hB59 hS60
      refine WL.nil fun a ha => hK48 _ _ (W.seq fun K62 hK62 => (W.seq fun K63 hK63 => (W.region (wl_move rfl rfl (wl_field (o := 4) (off' := 4) ff_70_2 rfl rfl rfl (wl_load_blk (i := 0) (vs := [(.int .i64 u49.2.2)]) (v := (.int .i64 u49.2.2)) tf_3 rfl rfl hS60 rfl rfl rfl (wl_leq rfl rfl rfl (WL.nil (fun a ha => hK63 _ _ (W.cond rfl (fun h64 => ?_) (fun h64 => ?_)) a ha))))))))) a ha
      ·replace hF := ifP h64 hF
       refine W.seq fun K65 hK65 => W.region (wl_load_blk (i := 0) (vs := [(.int .i64 u49.1.1), (.int .i64 u49.1.2), (.int .i64 u49.2.1.1), (.int .i64 u49.2.1.2), (.int .i64 u49.2.2)]) (v := (.agg #[(.int .i64 u49.1.1), (.int .i64 u49.1.2), (.int .i64 u49.2.1.1), (.int .i64 u49.2.1.2), (.int .i64 u49.2.2)])) tf_70 rfl rfl hS60 rfl rfl rfl (wl_move rfl rfl ?_))
       obtain ⟨u66, hu66, hF⟩ := bindE hF
       refine wl_call rfl Try.call204 (C_impl_roundedAt w58 u49 y39 _ hu66) rfl ?_
       rintro _ w67 ⟨rfl, hb68⟩
       refine ⟨_, rfl, ?_⟩
       have hB69 := hB59.trans (hb68.mono hB59.size)
       have hS70 := hS60.below hb68
       refine wl_store_blk (i := 2) (vs := [(.int .i64 u66.1), (.int .i64 u66.2)]) (cs' := [(.int .i64 u66.1), (.int .i64 u66.2)]) tf_68 rfl rfl rfl rfl hB69 hS70 rfl rfl ⟨rfl, rfl, trivial⟩ rfl ?_
       intro w72 hk75 hB73 hS74
       refine wl_assign rfl rfl (WL.nil (fun a ha => hK65 _ _ (W.ret ?_) a ha))
       have hr := Option.some.inj hF
       subst hr
       exact rets (vs := [(.agg #[(.int .i64 u66.1), (.int .i64 u66.2)]), (.bool true)]) hQ rfl ⟨rv_cell (i := 2) tf_68 rfl hS74 rfl rfl rfl, rv_tmp rfl, trivial⟩ ⟨rfl, hB73⟩
      ·replace hF := ifN h64 hF
       refine W.skip fun a ha => hK62 _ _ (W.region (wl_move rfl rfl (wl_field (o := 4) (off' := 4) ff_70_2 rfl rfl rfl (wl_load_blk (i := 0) (vs := [(.int .i64 u49.2.2)]) (v := (.int .i64 u49.2.2)) tf_3 rfl rfl hS60 rfl rfl rfl (wl_sub rfl rfl rfl (wl_assign rfl rfl (WL.nil (fun a ha => hK47 _ _ (W.region (wl_add rfl rfl rfl (wl_move rfl rfl (WL.nil ?_)))) a ha)))))))) a ha
       rw [hnx41] at hF
       exact fun a ha => hKL42 a _ m43 (Nat.lt_succ_self m43) ⟨(w64 (y39 - u49.2.2)), (w64 (y40 + 1)), ha.sub ⟨rfl, rfl, rfl, rfl, rfl, rfl, trivial⟩, hB59, (hS60.sel [1, 2, 3] rfl), hF⟩
     ·replace hF := ifN h46 hF
      refine W.exit fun a ha => hK26 _ _ (W.seq fun K76 hK76 => (W.seq fun K77 hK77 => (W.region (wl_move rfl rfl (wl_gtr rfl rfl rfl (WL.nil (fun a ha => hK77 _ _ (W.cond rfl (fun h78 => ?_) (fun h78 => ?_)) a ha))))))) a ha
      ·replace hF := ifP h78 hF
       refine W.seq fun K79 hK79 => W.region (wl_build (zs := [(.int .i64 0), (.int .i64 0)]) (out := [(.int .i64 0), (.int .i64 0)]) (vs := []) (css := []) tf_68 pl_68 rfl rfl rfl rfl rfl (wl_store_blk (i := 1) (vs := [(.int .i64 0), (.int .i64 0)]) (cs' := [(.int .i64 0), (.int .i64 0)]) tf_68 rfl rfl rfl rfl hB37 hS38 rfl rfl ⟨rfl, rfl, trivial⟩ rfl ?_))
       intro w80 hk83 hB81 hS82
       refine wl_assign rfl rfl (WL.nil (fun a ha => hK79 _ _ (W.ret ?_) a ha))
       have hr := Option.some.inj hF
       subst hr
       exact rets (vs := [(.agg #[(.int .i64 0), (.int .i64 0)]), (.bool false)]) hQ rfl ⟨rv_cell (i := 1) tf_68 rfl hS82 rfl rfl rfl, rv_tmp rfl, trivial⟩ ⟨rfl, hB81⟩
      ·replace hF := ifN h78 hF
       refine W.skip fun a ha => hK76 _ _ (W.seq fun K84 hK84 => (W.region (wl_field (o := 1) (off' := 1) ff_114_1 rfl rfl rfl (wl_load_blk (i := 0) (vs := [(.int .i64 x0.2.1.1), (.int .i64 x0.2.1.2)]) (v := (.agg #[(.int .i64 x0.2.1.1), (.int .i64 x0.2.1.2)])) tf_68 rfl rfl hS38 rfl rfl rfl (wl_store_blk (i := 1) (vs := [(.int .i64 x0.2.1.1), (.int .i64 x0.2.1.2)]) (cs' := [(.int .i64 x0.2.1.1), (.int .i64 x0.2.1.2)]) tf_68 rfl rfl rfl rfl hB37 hS38 rfl rfl ⟨rfl, rfl, trivial⟩ rfl ?_))))) a ha
       intro w85 hk88 hB86 hS87
       refine wl_assign rfl rfl (WL.nil (fun a ha => hK84 _ _ (W.ret ?_) a ha))
       have hr := Option.some.inj hF
       subst hr
       exact rets (vs := [(.agg #[(.int .i64 x0.2.1.1), (.int .i64 x0.2.1.2)]), (.bool true)]) hQ rfl ⟨rv_cell (i := 1) tf_68 rfl hS87 rfl rfl rfl, rv_tmp rfl, trivial⟩ ⟨rfl, hB86⟩
 refine W.region (wl_load_blk (i := 1) (vs := [(.int .i64 x0.1), (.int .i64 x0.2.1.1), (.int .i64 x0.2.1.2), v0_0]) (v := (.agg #[(.int .i64 x0.1), (.int .i64 x0.2.1.1), (.int .i64 x0.2.1.2), v0_0])) tf_114 rfl rfl hS11 rfl rfl rfl ?_)
 obtain ⟨u89, hu89, hF⟩ := bindE hF
 refine wl_call rfl Try.call192 (C_impl_IsSheet w8 x0 v0_0 (h0_0.ro hB10) _ hu89) rfl ?_
 rintro _ w90 ⟨rfl, hb91⟩
 refine ⟨_, rfl, ?_⟩
 have hB92 := hB10.trans (hb91.mono hB10.size)
 have hS93 := hS11.below hb91
 refine wl_not rfl rfl (wl_move rfl rfl ?_)
 rcases bE (!u89) with h95 | h95
 ·replace hF := ifP h95 hF
  refine wl_off rfl rfl rfl h95 (wl_off rfl rfl rfl h95 (wl_pick_t rfl rfl h95 rfl (WL.nil ?_)))
  exact fun a ha => hJ19 (true) _ hF hB92 (hS93.sel [1, 0] rfl) a (ha.sub ⟨rfl, rfl, rfl, rfl, trivial⟩)
 ·replace hF := ifN h95 hF
  refine wl_on rfl rfl h95 (wl_move rfl rfl (wl_on rfl rfl h95 (wl_lss rfl rfl rfl (wl_pick_f rfl rfl h95 rfl (WL.nil ?_)))))
  exact fun a ha => hJ19 ((decide (x1 < 0))) _ hF hB92 (hS93.sel [1, 0] rfl) a (ha.sub ⟨rfl, rfl, rfl, rfl, trivial⟩)
theorem C_impl_whereNow (w0 : World) (x0 : (((List (List (Int × Int))) × (List Int) × Int × Int) × Int × (List Int) × (List Int))) (v0_0 : Value) (h0_0 : rdS ty_63 (· < w0.heap.size) w0 v0_0 x0.1.1) (v0_1 : Value) (h0_1 : rdS ty_3 (· < w0.heap.size) w0 v0_1 x0.1.2.1) (v0_2 : Value) (h0_2 : rdS ty_3 (· < w0.heap.size) w0 v0_2 x0.2.2.1) (v0_3 : Value) (h0_3 : rdS ty_3 (· < w0.heap.size) w0 v0_3 x0.2.2.2) (x1 : Int) (r : (Int × Int)) (hF : F_impl_whereNow x0 x1 = some r) :
  Calls Try.prog 202 [(.agg #[v0_0, v0_1, (.int .i64 x0.1.2.2.1), (.int .i64 x0.1.2.2.2), (.int .i64 x0.2.1), v0_2, v0_3]), (.int .i64 x1)].toArray w0 fun e w' => e = .returned (.agg #[(.int .i64 r.1), (.int .i64 r.2)]) ∧ Below w0.heap.size w0 w' := by
 refine calls_mk' Try.func202 rfl Try.ntmps202 rfl rfl fun Q hQ hP => ?_
 have hB : Below w0.heap.size w0 w0 := Below.refl _ _
 have hS : Sep w0.heap.size w0 [] := Sep.nil _ _
 unfold F_impl_whereNow at hF
 refine W.seq fun K1 hK1 => W.region (wl_box (cs := [v0_0, v0_1, (.int .i64 x0.1.2.2.1), (.int .i64 x0.1.2.2.2), (.int .i64 x0.2.1), v0_2, v0_3]) rfl rfl rfl hB hS ?_)
 intro b2 w3 hb4 hB5 hS6
 refine wl_alloc (cs := [(.int .i64 0), (.int .i64 0)]) tf_68 rfl rfl hB5 hS6 ?_
 intro b7 w8 hb9 hB10 hS11
 refine WL.nil fun a ha => hK1 _ _ (W.seq fun K12 hK12 => ?_) a ha
 obtain ⟨k19, hk19, hF⟩ := jE2 hF
 have hJ20 : ∀ (y17 : Int) (y18 : Int) (b16 : Nat) (w13 : World) (_ : k19 y17 y18 = some r) (_ : Below w0.heap.size w0 w13) (_ : Sep w0.heap.size w13 [R.blk b7 68 [(.int .i64 0), (.int .i64 0)], R.blk b16 68 [(.int .i64 y17), (.int .i64 y18)]]), ∀ a, St 23 [(4, (.pointer (some ⟨b7, 0, none⟩))), (5, (.pointer (some ⟨b16, 0, none⟩)))] a → K12 a w13 := by
  intro y17 y18 b16 w13 hF hB14 hS15
  subst hk19
  refine fun a ha => hK12 _ _ (W.seq fun K21 hK21 => (W.region (wl_load_blk (i := 1) (vs := [(.int .i64 y17), (.int .i64 y18)]) (v := (.agg #[(.int .i64 y17), (.int .i64 y18)])) tf_68 rfl rfl hS15 rfl rfl rfl (wl_store_blk (i := 0) (vs := [(.int .i64 y17), (.int .i64 y18)]) (cs' := [(.int .i64 y17), (.int .i64 y18)]) tf_68 rfl rfl rfl rfl hB14 hS15 rfl rfl ⟨rfl, rfl, trivial⟩ rfl ?_)))) a ha
  intro w22 hk25 hB23 hS24
  refine WL.nil fun a ha => hK21 _ _ (W.ret ?_) a ha
  have hr := Option.some.inj hF
  subst hr
  exact rets (vs := [(.agg #[(.int .i64 y17), (.int .i64 y18)])]) hQ rfl ⟨rv_cell (i := 0) tf_68 rfl hS24 rfl rfl rfl, trivial⟩ ⟨rfl, hB23⟩
 refine W.regionH mixed_ [] hB10 hS11 ?_
 intro w26 hb27 hB28 hS29
 have hSW30 := KeepX.refl w26 []
 refine WH.takex (i := 0) rfl (by kernel_rfl) (by kernel_rfl) (by kernel_rfl) hP hSW30 (pr_field (o := 0) (off' := 0) ff_102_0 rfl rfl rfl (WH.takex (i := 1) rfl (by kernel_rfl) (by kernel_rfl) (by kernel_rfl) hP hSW30 (pr_field (o := 0) (off' := 0) ff_53_0 rfl rfl rfl (WH.takex (i := 2) rfl (by kernel_rfl) (by kernel_rfl) (by kernel_rfl) hP hSW30 (pr_load_blk (i := 1) (vs := [v0_0]) (v := v0_0) tf_51 rfl rfl hS29 rfl rfl rfl (by simp) (WH.takex (i := 3) rfl (by kernel_rfl) (by kernel_rfl) (by kernel_rfl) hP hSW30 (pr_field (o := 0) (off' := 0) ff_102_0 rfl rfl rfl (WH.takex (i := 4) rfl (by kernel_rfl) (by kernel_rfl) (by kernel_rfl) hP hSW30 (pr_field (o := 1) (off' := 1) ff_53_1 rfl rfl rfl (WH.takex (i := 5) rfl (by kernel_rfl) (by kernel_rfl) (by kernel_rfl) hP hSW30 (pr_load_blk (i := 1) (vs := [v0_1]) (v := v0_1) tf_29 rfl rfl hS29 rfl rfl rfl (by simp) ?_)))))))))))
 refine WH.takex (i := 6) rfl (by kernel_rfl) (by kernel_rfl) (by kernel_rfl) hP hSW30 (pr_move rfl rfl (WH.takex (i := 8) rfl (by kernel_rfl) (by kernel_rfl) (by kernel_rfl) hP hSW30 (pr_load_blk (i := 1) (vs := [v0_0, v0_1, (.int .i64 x0.1.2.2.1), (.int .i64 x0.1.2.2.2), (.int .i64 x0.2.1), v0_2, v0_3]) (v := (.agg #[v0_0, v0_1, (.int .i64 x0.1.2.2.1), (.int .i64 x0.1.2.2.2), (.int .i64 x0.2.1), v0_2, v0_3])) tf_102 rfl rfl hS29 rfl rfl rfl (by simp) (WH.takex (i := 9) rfl (by kernel_rfl) (by kernel_rfl) (by kernel_rfl) hP hSW30 (pr_move rfl rfl (WH.many (is := [7, 15]) (by kernel_rfl) rfl (List.forall_mem_cons.2 ⟨⟨_, rfl, ?_⟩, List.forall_mem_cons.2 ⟨⟨_, rfl, ?_⟩, fun _ h => by cases h⟩⟩)))))))
 ·
  obtain ⟨u31, hu31, hF⟩ := bindE hF
  refine wl_call rfl Try.call185 (C_impl_sheetOf w26 x0.1.1 v0_0 (h0_0.ro hB28) x0.1.2.1 v0_1 (h0_1.ro hB28) x1 _ hu31) rfl ?_
  rintro _ w34 ⟨v32, F33, rfl, hb35, hM38⟩
  refine ⟨_, rfl, ?_⟩
  have hB36 := hB28.trans (hb35.mono hB28.size)
  have hn39 : ∀ b ∈ F33, w26.heap.size ≤ b := fun b hb => Nat.le_trans hSW30.size ((hM38.get (i := 0) rfl).2.1 b hb).1
  have hS37 := hS29.join hb35 hM38 hB28.size
  have hSW40 := hSW30.ext hb35
  refine WL.nil (WH.ret hSW40 (WH.many (is := [10, 15]) (by kernel_rfl) rfl (List.forall_mem_cons.2 ⟨⟨_, rfl, ?_⟩, List.forall_mem_cons.2 ⟨⟨_, rfl, ?_⟩, fun _ h => by cases h⟩⟩)))
  ·
   obtain ⟨u41, hu41, hF⟩ := bindE hF
   refine wl_call rfl Try.call198 (C_impl_ownCount w34 x0 v0_0 (h0_0.ro hB36) v0_1 (h0_1.ro hB36) v0_2 (h0_2.ro hB36) v0_3 (h0_3.ro hB36) x1 _ hu41) rfl ?_
   rintro _ w42 ⟨rfl, hb43⟩
   refine ⟨_, rfl, ?_⟩
   have hB44 := hB36.trans (hb43.mono hB36.size)
   have hS45 := hS37.below hb43
   have hSW47 := hSW40.ext hb43
   refine WL.nil (WH.ret hSW47 (WH.many (is := [11, 15]) (by kernel_rfl) rfl (List.forall_mem_cons.2 ⟨⟨_, rfl, ?_⟩, List.forall_mem_cons.2 ⟨⟨_, rfl, ?_⟩, fun _ h => by cases h⟩⟩)))
   ·
    obtain ⟨u48, hu48, hF⟩ := bindE hF
    refine wl_call rfl Try.call103 (C_impl_SpotAfter w42 u31 v32 (hS45.own_ro (i := 0) rfl) u41 _ hu48) rfl ?_
    rintro _ w49 ⟨rfl, hb50⟩
    refine ⟨_, rfl, ?_⟩
    have hB51 := hB44.trans (hb50.mono hB44.size)
    have hS52 := hS45.below hb50
    have hSW54 := hSW47.ext hb50
    refine WL.nil (WH.ret hSW54 (WH.takex (i := 12) rfl (by kernel_rfl) (by kernel_rfl) (by kernel_rfl) hP hSW54 (pr_move rfl rfl (WH.takex (i := 13) rfl (by kernel_rfl) (by kernel_rfl) (by kernel_rfl) hP hSW54 (pr_extract rfl rfl rfl (WH.takex (i := 14) rfl (by kernel_rfl) (by kernel_rfl) (by kernel_rfl) hP hSW54 (pr_extract rfl rfl rfl (WH.one (i := 15) (by kernel_rfl) rfl (wl_alloc (cs := [(.int .i64 0), (.int .i64 0)]) tf_68 rfl rfl (Below.self w49) (Sep.nil _ _) ?_)))))))))
    intro b55 w56 hb57 hB60 hM61
    have hB58 := hB51.trans (hb57.mono hB51.size)
    have hS59 := hS52.join hb57 hM61 hB51.size
    have hn62 : ∀ b ∈ [b55], w26.heap.size ≤ b := fun b hb => Nat.le_trans hSW54.size ((hM61.1 _ (List.mem_cons_self ..)).2.1 b hb).1
    have hSW63 := hSW54.ext hb57
    refine WL.nil (WH.ret hSW63 (WH.one (i := 16) (by kernel_rfl) rfl (wl_store_blk (i := 0) (vs := [(.int .i64 u48.1.1), (.int .i64 u48.1.2)]) (cs' := [(.int .i64 u48.1.1), (.int .i64 u48.1.2)]) tf_68 rfl rfl rfl rfl hB58 hS59 rfl rfl ⟨rfl, rfl, trivial⟩ rfl ?_)))
    intro w65 hk68 hB66 hS67
    have hSW69 := hSW63.wr' hk68.1 hk68.2.1 (fun b hlt hb => absurd hlt (Nat.not_lt.2 (hn62 b hb)))
    have hn70 : ∀ b ∈ [b55], w26.heap.size ≤ b := fun b hb => (hk68.2.2 b hb).elim (hn62 b) fun h => Nat.le_trans hSW63.size h
    refine WL.nil (WH.ret hSW69 (WH.takex (i := 17) rfl (by kernel_rfl) (by kernel_rfl) (by kernel_rfl) hP hSW69 (pr_assign rfl rfl (WH.done (by kernel_rfl) ?_))))
    exact fun a ha => hJ20 (u48.1.1) (u48.1.2) (b55) _ hF hB66 (hS67.sel [2, 0] rfl) a (ha.sub ⟨rfl, rfl, trivial⟩)
   ·
    refine wl_alloc (cs := [(.int .i64 0), (.int .i64 0)]) tf_68 rfl rfl (Below.self w42) (Sep.nil _ _) ?_
    intro b71 w72 hb73 hB76 hM77
    have hB74 := hB44.trans (hb73.mono hB44.size)
    have hS75 := hS45.join hb73 hM77 hB44.size
    have hn78 : ∀ b ∈ [b71], w26.heap.size ≤ b := fun b hb => Nat.le_trans hSW47.size ((hM77.1 _ (List.mem_cons_self ..)).2.1 b hb).1
    have hSW79 := hSW47.ext hb73
    refine WL.nil (WH.ret hSW79 (WH.one (i := 11) (by kernel_rfl) rfl ?_))
    obtain ⟨u80, hu80, hF⟩ := bindE hF
    refine wl_call rfl Try.call103 (C_impl_SpotAfter w72 u31 v32 (hS75.own_ro (i := 1) rfl) u41 _ hu80) rfl ?_
    rintro _ w81 ⟨rfl, hb82⟩
    refine ⟨_, rfl, ?_⟩
    have hB83 := hB74.trans (hb82.mono hB74.size)
    have hS84 := hS75.below hb82
    have hSW86 := hSW79.ext hb82
    refine WL.nil (WH.ret hSW86 (WH.takex (i := 12) rfl (by kernel_rfl) (by kernel_rfl) (by kernel_rfl) hP hSW86 (pr_move rfl rfl (WH.takex (i := 13) rfl (by kernel_rfl) (by kernel_rfl) (by kernel_rfl) hP hSW86 (pr_extract rfl rfl rfl (WH.takex (i := 14) rfl (by kernel_rfl) (by kernel_rfl) (by kernel_rfl) hP hSW86 (pr_extract rfl rfl rfl (WH.one (i := 16) (by kernel_rfl) rfl (wl_store_blk (i := 0) (vs := [(.int .i64 u80.1.1), (.int .i64 u80.1.2)]) (cs' := [(.int .i64 u80.1.1), (.int .i64 u80.1.2)]) tf_68 rfl rfl rfl rfl hB83 hS84 rfl rfl ⟨rfl, rfl, trivial⟩ rfl ?_)))))))))
    intro w87 hk90 hB88 hS89
    have hSW91 := hSW86.wr' hk90.1 hk90.2.1 (fun b hlt hb => absurd hlt (Nat.not_lt.2 (hn78 b hb)))
    have hn92 : ∀ b ∈ [b71], w26.heap.size ≤ b := fun b hb => (hk90.2.2 b hb).elim (hn78 b) fun h => Nat.le_trans hSW86.size h
    refine WL.nil (WH.ret hSW91 (WH.takex (i := 17) rfl (by kernel_rfl) (by kernel_rfl) (by kernel_rfl) hP hSW91 (pr_assign rfl rfl (WH.done (by kernel_rfl) ?_))))
    exact fun a ha => hJ20 (u80.1.1) (u80.1.2) (b71) _ hF hB88 (hS89.sel [2, 0] rfl) a (ha.sub ⟨rfl, rfl, trivial⟩)
  ·
   refine wl_alloc (cs := [(.int .i64 0), (.int .i64 0)]) tf_68 rfl rfl (Below.self w34) (Sep.nil _ _) ?_
   intro b93 w94 hb95 hB98 hM99
   have hB96 := hB36.trans (hb95.mono hB36.size)
   have hS97 := hS37.join hb95 hM99 hB36.size
   have hn100 : ∀ b ∈ [b93], w26.heap.size ≤ b := fun b hb => Nat.le_trans hSW40.size ((hM99.1 _ (List.mem_cons_self ..)).2.1 b hb).1
   have hSW101 := hSW40.ext hb95
   refine WL.nil (WH.ret hSW101 (WH.one (i := 10) (by kernel_rfl) rfl ?_))
   obtain ⟨u102, hu102, hF⟩ := bindE hF
   refine wl_call rfl Try.call198 (C_impl_ownCount w94 x0 v0_0 (h0_0.ro hB96) v0_1 (h0_1.ro hB96) v0_2 (h0_2.ro hB96) v0_3 (h0_3.ro hB96) x1 _ hu102) rfl ?_
   rintro _ w103 ⟨rfl, hb104⟩
   refine ⟨_, rfl, ?_⟩
   have hB105 := hB96.trans (hb104.mono hB96.size)
   have hS106 := hS97.below hb104
   have hSW108 := hSW101.ext hb104
   refine WL.nil (WH.ret hSW108 (WH.one (i := 11) (by kernel_rfl) rfl ?_))
   obtain ⟨u109, hu109, hF⟩ := bindE hF
   refine wl_call rfl Try.call103 (C_impl_SpotAfter w103 u31 v32 (hS106.own_ro (i := 1) rfl) u102 _ hu109) rfl ?_
   rintro _ w110 ⟨rfl, hb111⟩
   refine ⟨_, rfl, ?_⟩
   have hB112 := hB105.trans (hb111.mono hB105.size)
   have hS113 := hS106.below hb111
   have hSW115 := hSW108.ext hb111
   refine WL.nil (WH.ret hSW115 (WH.takex (i := 12) rfl (by kernel_rfl) (by kernel_rfl) (by kernel_rfl) hP hSW115 (pr_move rfl rfl (WH.takex (i := 13) rfl (by kernel_rfl) (by kernel_rfl) (by kernel_rfl) hP hSW115 (pr_extract rfl rfl rfl (WH.takex (i := 14) rfl (by kernel_rfl) (by kernel_rfl) (by kernel_rfl) hP hSW115 (pr_extract rfl rfl rfl (WH.one (i := 16) (by kernel_rfl) rfl (wl_store_blk (i := 0) (vs := [(.int .i64 u109.1.1), (.int .i64 u109.1.2)]) (cs' := [(.int .i64 u109.1.1), (.int .i64 u109.1.2)]) tf_68 rfl rfl rfl rfl hB112 hS113 rfl rfl ⟨rfl, rfl, trivial⟩ rfl ?_)))))))))
   intro w116 hk119 hB117 hS118
   have hSW120 := hSW115.wr' hk119.1 hk119.2.1 (fun b hlt hb => absurd hlt (Nat.not_lt.2 (hn100 b hb)))
   have hn121 : ∀ b ∈ [b93], w26.heap.size ≤ b := fun b hb => (hk119.2.2 b hb).elim (hn100 b) fun h => Nat.le_trans hSW115.size h
   refine WL.nil (WH.ret hSW120 (WH.takex (i := 17) rfl (by kernel_rfl) (by kernel_rfl) (by kernel_rfl) hP hSW120 (pr_assign rfl rfl (WH.done (by kernel_rfl) ?_))))
   exact fun a ha => hJ20 (u109.1.1) (u109.1.2) (b93) _ hF hB117 (hS118.sel [2, 0] rfl) a (ha.sub ⟨rfl, rfl, trivial⟩)
 ·
  refine wl_alloc (cs := [(.int .i64 0), (.int .i64 0)]) tf_68 rfl rfl (Below.self w26) (Sep.nil _ _) ?_
  intro b122 w123 hb124 hB127 hM128
  have hB125 := hB28.trans (hb124.mono hB28.size)
  have hS126 := hS29.join hb124 hM128 hB28.size
  have hn129 : ∀ b ∈ [b122], w26.heap.size ≤ b := fun b hb => Nat.le_trans hSW30.size ((hM128.1 _ (List.mem_cons_self ..)).2.1 b hb).1
  have hSW130 := hSW30.ext hb124
  refine WL.nil (WH.ret hSW130 (WH.one (i := 7) (by kernel_rfl) rfl ?_))
  obtain ⟨u131, hu131, hF⟩ := bindE hF
  refine wl_call rfl Try.call185 (C_impl_sheetOf w123 x0.1.1 v0_0 (h0_0.ro hB125) x0.1.2.1 v0_1 (h0_1.ro hB125) x1 _ hu131) rfl ?_
  rintro _ w134 ⟨v132, F133, rfl, hb135, hM138⟩
  refine ⟨_, rfl, ?_⟩
  have hB136 := hB125.trans (hb135.mono hB125.size)
  have hn139 : ∀ b ∈ F133, w26.heap.size ≤ b := fun b hb => Nat.le_trans hSW130.size ((hM138.get (i := 0) rfl).2.1 b hb).1
  have hS137 := hS126.join hb135 hM138 hB125.size
  have hSW140 := hSW130.ext hb135
  refine WL.nil (WH.ret hSW140 (WH.one (i := 10) (by kernel_rfl) rfl ?_))
  obtain ⟨u141, hu141, hF⟩ := bindE hF
  refine wl_call rfl Try.call198 (C_impl_ownCount w134 x0 v0_0 (h0_0.ro hB136) v0_1 (h0_1.ro hB136) v0_2 (h0_2.ro hB136) v0_3 (h0_3.ro hB136) x1 _ hu141) rfl ?_
  rintro _ w142 ⟨rfl, hb143⟩
  refine ⟨_, rfl, ?_⟩
  have hB144 := hB136.trans (hb143.mono hB136.size)
  have hS145 := hS137.below hb143
  have hSW147 := hSW140.ext hb143
  refine WL.nil (WH.ret hSW147 (WH.one (i := 11) (by kernel_rfl) rfl ?_))
  obtain ⟨u148, hu148, hF⟩ := bindE hF
  refine wl_call rfl Try.call103 (C_impl_SpotAfter w142 u131 v132 (hS145.own_ro (i := 0) rfl) u141 _ hu148) rfl ?_
  rintro _ w149 ⟨rfl, hb150⟩
  refine ⟨_, rfl, ?_⟩
  have hB151 := hB144.trans (hb150.mono hB144.size)
  have hS152 := hS145.below hb150
  have hSW154 := hSW147.ext hb150
  refine WL.nil (WH.ret hSW154 (WH.takex (i := 12) rfl (by kernel_rfl) (by kernel_rfl) (by kernel_rfl) hP hSW154 (pr_move rfl rfl (WH.takex (i := 13) rfl (by kernel_rfl) (by kernel_rfl) (by kernel_rfl) hP hSW154 (pr_extract rfl rfl rfl (WH.takex (i := 14) rfl (by kernel_rfl) (by kernel_rfl) (by kernel_rfl) hP hSW154 (pr_extract rfl rfl rfl (WH.one (i := 16) (by kernel_rfl) rfl (wl_store_blk (i := 1) (vs := [(.int .i64 u148.1.1), (.int .i64 u148.1.2)]) (cs' := [(.int .i64 u148.1.1), (.int .i64 u148.1.2)]) tf_68 rfl rfl rfl rfl hB151 hS152 rfl rfl ⟨rfl, rfl, trivial⟩ rfl ?_)))))))))
  intro w155 hk158 hB156 hS157
  have hSW159 := hSW154.wr' hk158.1 hk158.2.1 (fun b hlt hb => absurd hlt (Nat.not_lt.2 (hn129 b hb)))
  have hn160 : ∀ b ∈ [b122], w26.heap.size ≤ b := fun b hb => (hk158.2.2 b hb).elim (hn129 b) fun h => Nat.le_trans hSW154.size h
  refine WL.nil (WH.ret hSW159 (WH.takex (i := 17) rfl (by kernel_rfl) (by kernel_rfl) (by kernel_rfl) hP hSW159 (pr_assign rfl rfl (WH.done (by kernel_rfl) ?_))))
  exact fun a ha => hJ20 (u148.1.1) (u148.1.2) (b122) _ hF hB156 (hS157.sel [2, 1] rfl) a (ha.sub ⟨rfl, rfl, trivial⟩)
end Go.Proofs.Ytmkignciedkidaa
