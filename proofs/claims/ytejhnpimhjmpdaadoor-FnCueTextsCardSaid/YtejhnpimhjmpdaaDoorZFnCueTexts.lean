/-
  THE ROW OF FnCueTexts: the law returns true, whatever it is given; what it is given reads behind the call as before. No condition.
-/
import Derived.Test.YtejhnpimhjmpdaaDoorRows
import Derived.Test.YtejhnpimhjmpdaaDoorCards
import Derived.Test.YtejhnpimhjmpdaaDoorTie
import Derived.Test.YtejhnpimhjmpdaaDoorWXFnCueTextsc
import Derived.Test.YtejhnpimhjmpdaaDoorPFnCueTexts
import Derived.WalkKit
import Derived.ProofKit
import Derived.OpenShut
import Derived.LaidMore
import Derived.Lay
import Derived.SevenTiedAt
import Derived.Stop.Joined
import Derived.Lib.LaidTab
set_option linter.unusedSimpArgs false
set_option linter.unusedVariables false
set_option maxRecDepth 100000
set_option maxHeartbeats 1600000
namespace Go.Proofs.YtejhnpimhjmpdaaDoor
open Go Go.ChangeShapes Go.WideShapes Go.ChangeAt Go.RowKit
theorem own_fnCueTexts : ownKnob Tryd.prog.godebug = none := by kernel_rfl
theorem laidOut_fnCueTexts : laidOutB Tryd.prog = true := by kernel_rfl
theorem laid_tail {P : Program} {x : String × DataW Unit} {l : List (String × DataW Unit)} {W : World} (h : laidMet P (x :: l) W) : laidMet P l W := by
  obtain ⟨ps, hl, hnd, hp⟩ := h
  obtain ⟨g, t, cs, fuel, p, q, h1, h2, h3, h4, h5, rfl⟩ := hl
  exact ⟨q, h5, (List.nodup_append.1 hnd).2.1, fun b off hm => hp b off (List.mem_append_right _ hm)⟩
theorem tab_fnCueTexts {W : World} (h : laidMetH Tryd.prog Rows.fnCueTextsRow.laid W) : Tab W := by
  rw [MakeChecks.laidMetH_plain _ _ _ (by kernel_rfl)] at h
  have h3 := (laid_tail (laid_tail h))
  have e : (Rows.laid_internal_strconv_uint64pow10 : DataW Unit) = Lib.tabData .u64 Lib.pow10Tab := by kernel_rfl
  rw [e] at h3
  exact Lib.tabIs_of_head (g := (Tryd.prog.globalNamed "internal/strconv.uint64pow10").getD 0) (t := 116) (e := 79) (n := 20) (by kernel_rfl) (by kernel_rfl) (by kernel_rfl) (by kernel_rfl) (by kernel_rfl) (by kernel_rfl) h3
set_option maxRecDepth 100000 in
theorem fnCueTexts_lifted (os : Os) (started : os.Started) (H : Type) (enc : TypeId × Value → H) :
    ReturnsInHanded {} Tryd.checked os 4 .any (fun w args => (Rows.fnCueTextsSpec.pre enc Tryd.prog Tryd.f4 Rows.fnCueTextsRow.domain false w args ∧ laidMetH Tryd.prog Rows.fnCueTextsRow.laid w) ∧ sizedMet enc Tryd.prog Tryd.f4 (OpenSpec.ofChange Rows.fnCueTextsSpec) false w args)
      (Rows.fnCueTextsSpec.post enc Tryd.prog Tryd.f4 false true false false) := by
  refine returnsInHanded_of_change_and (C := Tryd.checked) (X := fun w _ => laidMetH Tryd.prog Rows.fnCueTextsRow.laid w) (fun _ _ _ hh h => h.of_heap hh) own_fnCueTexts started (by kernel_rfl) Tryd.func4
    (ChangeSpec.witness_shaped (enc := enc) (C := Tryd.checked) (os := os) (X := fun w _ => laidMetH Tryd.prog Rows.fnCueTextsRow.laid w) false (World.laidAll Tryd.prog os Rows.fnCueTextsRow.laid) #[(.slice none 0 0), (.slice none 0 0)] 8 (World.laidAll_os _ _ _)
      (World.shaped_of_ZipB (by kernel_rfl) (by kernel_rfl)) (by kernel_rfl) (by kernel_rfl) (by kernel_rfl)
      (by rw [MakeChecks.laidMetH_plain _ _ _ (by kernel_rfl)]; exact laidMet_laidAll _ (by kernel_rfl) (by kernel_rfl))) ?_
  intro W base args ds gs before hval0 hW hcnd hX1 hX2 hX3
  have hval : ∀ (j : Nat) t v, Tryd.f4.params[j]? = some t → args[j]? = some v → Value.okWide Tryd.prog W .any base t v := hval0
  have hW' := hW
  obtain ⟨p, q, hA0, hV, rfl, hfz, hnd⟩ := hW
  have hA : DataW.TrodAll enc Tryd.prog W 0 (fun _ => true) true Tryd.f4.params.toList args.toList ds p := hA0
  rw [Tryd.params4] at hA hval
  obtain ⟨w0, vs0, d0, ds0, p0, ps0, ea0, rfl, rfl, o0, hT0⟩ := trodAll_cons hA
  obtain ⟨w1, vs1, d1, ds1, p1, ps1, ea1, rfl, rfl, o1, hT1⟩ := trodAll_cons hT0
  subst ea1
  obtain ⟨rfl, rfl, rfl⟩ := trodAll_nil hT1
  obtain rfl : args = #[w0, w1] := by cases args; simp_all
  obtain ⟨rfl, rfl⟩ := trodVars_none hV
  obtain ⟨aa0, al0, ac0, rfl⟩ := okWide_slice Tryd.underlying35 (hval 0 35 _ rfl rfl)
  obtain ⟨fu0, kk0⟩ := o0
  have oo0 : DataW.Trod enc Tryd.prog W 0 (fun _ => true) true 35 _ d0 p0 := ⟨fu0, kk0⟩
  obtain ⟨x0, r0, g0⟩ := op_35.op kk0
  obtain ⟨v0_0, e0, h0_0⟩ := r0
  obtain rfl : _ = v0_0 := (List.cons.inj e0).1
  obtain ⟨aa1, al1, ac1, rfl⟩ := okWide_slice Tryd.underlying35 (hval 1 35 _ rfl rfl)
  obtain ⟨fu1, kk1⟩ := o1
  have oo1 : DataW.Trod enc Tryd.prog W 0 (fun _ => true) true 35 _ d1 p1 := ⟨fu1, kk1⟩
  obtain ⟨x1, r1, g1⟩ := op_35.op kk1
  obtain ⟨v1_0, e1, h1_0⟩ := r1
  obtain rfl : _ = v1_0 := (List.cons.inj e1).1
  clear hA0 hval0
  simp only [List.append_nil, List.append_assoc, List.nil_append] at hW'
  have hT : Tab W := (by first | exact tab_fnCueTexts hX1 | exact tab_fnCueTexts hX2 | exact tab_fnCueTexts hX3 | exact tab_fnCueTexts hcnd | exact tab_fnCueTexts hcnd.2)
  refine (C_laws_FnCueTexts W hT _ _ h0_0 _ _ h1_0 true (P_laws_FnCueTexts x0 x1 g0 g1)).mono fun e W' he => ?_
  obtain ⟨he, hb⟩ := he
  subst he
  exact ⟨_, rfl, _, _, _, _, _, _, hW', trodAll_mk1 (shut_bool Tryd.underlying4 true), trodAll_cons_mk (Below.trod laidOut_fnCueTexts (by kernel_rfl) (of_decide_eq_true (by kernel_rfl)) oo0 hb fun x hx => hW'.lt x (by simp [hx])) (trodAll_mk1 (Below.trod laidOut_fnCueTexts (by kernel_rfl) (of_decide_eq_true (by kernel_rfl)) oo1 hb fun x hx => hW'.lt x (by simp [hx]))), by rfl, hb.frame _, fun h => by cases h⟩
theorem fnCueTexts_holds : Rows.FnCueTextsSaid :=
  OpenClaim.holds_of_wide 4 Tryd.f4 rfl rfl rfl rfl rfl rfl rfl ⟨rfl, rfl, rfl, rfl, rfl⟩ rfl rfl rfl rfl rfl (by kernel_rfl) Tryd.func4 (by kernel_rfl)
    (of_decide_eq_true (by kernel_rfl)) (by unfold Func.isWrapper; first | (rw [if_pos (by decide +kernel)]; kernel_rfl) | (rw [if_neg (by decide +kernel)]; exact ⟨rfl, rfl⟩))
    (fun os started H enc _ => fnCueTexts_lifted os started H enc)
theorem fnCueTextsCard_holds : Rows.FnCueTextsCardSaid :=
  Claim7.holds_tied_plain_at .later [] [.data, .data, .data] true (true, "ddef671c6fb241e13d3fafe05bf8ce7fd22296f4b865b453332ee2f6967066f8") false fnCueTexts_holds (fun _ h => by cases h) (by kernel_rfl) (fun _ h => by cases h) fnCueTexts_row_tie rfl ⟨rfl, rfl⟩ (by kernel_rfl) rfl
    (fun f fn hf hfn => by
      obtain rfl : f = 4 := Option.some.inj ((show Tryd.prog.funcNamed "loop.example/g00939/laws.FnCueTexts" = some 4 by kernel_rfl).symm.trans hf) |>.symm
      obtain rfl : fn = Tryd.f4 := (Option.some.inj (Tryd.func4.symm.trans hfn)).symm
      exact ⟨by kernel_rfl, fun j t ht => by
        rw [Tryd.params4] at ht
        have hm : t ∈ [35, 35] := by simpa using Array.mem_of_getElem? ht
        have hall : ([35, 35].all fun u => !Tryd.prog.wantsStandIn u) = true := by kernel_rfl
        exact (show Tryd.prog.wantsStandIn t = false by simpa using List.all_eq_true.1 hall t hm)⟩)
    (by kernel_rfl)
end Go.Proofs.YtejhnpimhjmpdaaDoor
