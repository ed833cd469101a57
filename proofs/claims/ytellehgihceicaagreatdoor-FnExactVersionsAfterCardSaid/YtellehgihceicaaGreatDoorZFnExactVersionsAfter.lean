/-
  THE ROW OF FnExactVersionsAfter: the law returns true, whatever it is given; what it is given reads behind the call as before. No condition.
-/
import Derived.Test.YtellehgihceicaaGreatDoorRows
import Derived.Test.YtellehgihceicaaGreatDoorCards
import Derived.Test.YtellehgihceicaaGreatDoorTie
import Derived.Test.YtellehgihceicaaGreatDoorWXFnExactVersionsAftere
import Derived.Test.YtellehgihceicaaGreatDoorPFnExactVersionsAfter
import Derived.WalkKit
import Derived.ProofKit
import Derived.OpenShut
import Derived.LaidMore
import Derived.Lay
import Derived.SevenTiedAt
import Derived.Stop.Joined
import Derived.Lib.LaidTab
set_option linter.unusedSimpArgs false
set_option linter.unusedVariables false
set_option maxRecDepth 100000
set_option maxHeartbeats 1600000
namespace Go.Proofs.YtellehgihceicaaGreatDoor
open Go Go.ChangeShapes Go.WideShapes Go.ChangeAt Go.RowKit
theorem own_fnExactVersionsAfter : ownKnob Tryz.prog.godebug = none := by kernel_rfl
theorem laidOut_fnExactVersionsAfter : laidOutB Tryz.prog = true := by kernel_rfl
theorem laid_tail {P : Program} {x : String × DataW Unit} {l : List (String × DataW Unit)} {W : World} (h : laidMet P (x :: l) W) : laidMet P l W := by
  obtain ⟨ps, hl, hnd, hp⟩ := h
  obtain ⟨g, t, cs, fuel, p, q, h1, h2, h3, h4, h5, rfl⟩ := hl
  exact ⟨q, h5, (List.nodup_append.1 hnd).2.1, fun b off hm => hp b off (List.mem_append_right _ hm)⟩
theorem tab_fnExactVersionsAfter {W : World} (h : laidMetH Tryz.prog Rows.fnExactVersionsAfterRow.laid W) : Tab W := by
  rw [MakeChecks.laidMetH_plain _ _ _ (by kernel_rfl)] at h
  have h3 := (laid_tail (laid_tail h))
  have e : (Rows.laid_internal_strconv_uint64pow10 : DataW Unit) = Lib.tabData .u64 Lib.pow10Tab := by kernel_rfl
  rw [e] at h3
  exact Lib.tabIs_of_head (g := (Tryz.prog.globalNamed "internal/strconv.uint64pow10").getD 0) (t := 240) (e := 89) (n := 20) (by kernel_rfl) (by kernel_rfl) (by kernel_rfl) (by kernel_rfl) (by kernel_rfl) (by kernel_rfl) h3
set_option maxRecDepth 100000 in
theorem fnExactVersionsAfter_lifted (os : Os) (started : os.Started) (H : Type) (enc : TypeId × Value → H) :
    ReturnsInHanded {} Tryz.checked os 8 .any (fun w args => (Rows.fnExactVersionsAfterSpec.pre enc Tryz.prog Tryz.f8 Rows.fnExactVersionsAfterRow.domain false w args ∧ laidMetH Tryz.prog Rows.fnExactVersionsAfterRow.laid w) ∧ sizedMet enc Tryz.prog Tryz.f8 (OpenSpec.ofChange Rows.fnExactVersionsAfterSpec) false w args)
      (Rows.fnExactVersionsAfterSpec.post enc Tryz.prog Tryz.f8 false true false false) := by
  refine returnsInHanded_of_change_and (C := Tryz.checked) (X := fun w _ => laidMetH Tryz.prog Rows.fnExactVersionsAfterRow.laid w) (fun _ _ _ hh h => h.of_heap hh) own_fnExactVersionsAfter started (by kernel_rfl) Tryz.func8
    (ChangeSpec.witness_shaped (enc := enc) (C := Tryz.checked) (os := os) (X := fun w _ => laidMetH Tryz.prog Rows.fnExactVersionsAfterRow.laid w) false (World.laidAll Tryz.prog os Rows.fnExactVersionsAfterRow.laid) #[(.string .empty)] 8 (World.laidAll_os _ _ _)
      (World.shaped_of_ZipB (by kernel_rfl) (by kernel_rfl)) (by kernel_rfl) (by kernel_rfl) (by kernel_rfl)
      (by rw [MakeChecks.laidMetH_plain _ _ _ (by kernel_rfl)]; exact laidMet_laidAll _ (by kernel_rfl) (by kernel_rfl))) ?_
  intro W base args ds gs before hval0 hW hcnd hX1 hX2 hX3
  have hval : ∀ (j : Nat) t v, Tryz.f8.params[j]? = some t → args[j]? = some v → Value.okWide Tryz.prog W .any base t v := hval0
  have hW' := hW
  obtain ⟨p, q, hA0, hV, rfl, hfz, hnd⟩ := hW
  have hA : DataW.TrodAll enc Tryz.prog W 0 (fun _ => true) true Tryz.f8.params.toList args.toList ds p := hA0
  rw [Tryz.params8] at hA hval
  obtain ⟨w0, vs0, d0, ds0, p0, ps0, ea0, rfl, rfl, o0, hT0⟩ := trodAll_cons hA
  obtain ⟨rfl, rfl, rfl⟩ := trodAll_nil hT0
  obtain rfl : args = #[w0] := by cases args; simp_all
  obtain ⟨rfl, rfl⟩ := trodVars_none hV
  obtain ⟨nn0, rfl⟩ := okWide_string Tryz.underlying9 (hval 0 9 _ rfl rfl)
  obtain ⟨fu0, kk0⟩ := o0
  have oo0 : DataW.Trod enc Tryz.prog W 0 (fun _ => true) true 9 _ d0 p0 := ⟨fu0, kk0⟩
  obtain ⟨x0, r0, g0⟩ := Aec.op kk0
  obtain rfl : B5 x0 = nn0 := Eq.symm (by simpa [Value.cells, VC, C5, Sh.flat] using r0)
  clear hA0 hval0
  simp only [List.append_nil, List.append_assoc, List.nil_append] at hW'
  have hT : Tab W := (by first | exact tab_fnExactVersionsAfter hX1 | exact tab_fnExactVersionsAfter hX2 | exact tab_fnExactVersionsAfter hX3 | exact tab_fnExactVersionsAfter hcnd | exact tab_fnExactVersionsAfter hcnd.2)
  refine (Nf W hT _ true (Nd x0 g0)).mono fun e W' he => ?_
  obtain ⟨he, hb⟩ := he
  subst he
  exact ⟨_, rfl, _, _, _, _, _, _, hW', trodAll_mk1 (shut_bool Tryz.underlying4 true), trodAll_mk1 (Below.trod laidOut_fnExactVersionsAfter (by kernel_rfl) (of_decide_eq_true (by kernel_rfl)) oo0 hb fun x hx => hW'.lt x (by simp [hx])), by rfl, hb.frame _, fun h => by cases h⟩
theorem facts1_fnExactVersionsAfter : (Rows.fnExactVersionsAfterRow.inPlace == Tryz.prog.inPlace 8) = true := by kernel_rfl
theorem facts2_fnExactVersionsAfter : (Rows.fnExactVersionsAfterRow.unfollowed == Tryz.prog.unfollowed 8) = true := by kernel_rfl
theorem facts3_fnExactVersionsAfter : (Rows.fnExactVersionsAfterRow.recurses == Tryz.prog.recurses 8) = true := by kernel_rfl
theorem facts4_fnExactVersionsAfter : (Rows.fnExactVersionsAfterRow.named == Tryz.prog.varsNamed 8) = true := by kernel_rfl
theorem facts_fnExactVersionsAfter : joinedFacts Tryz.prog 8 Tryz.f8 Rows.fnExactVersionsAfterSpec Rows.fnExactVersionsAfterRow = true := by
  unfold joinedFacts
  rw [facts1_fnExactVersionsAfter, facts2_fnExactVersionsAfter, facts3_fnExactVersionsAfter, facts4_fnExactVersionsAfter]
  kernel_rfl
theorem fnExactVersionsAfter_holds : Rows.FnExactVersionsAfterSaid :=
  OpenClaim.holds_of_wide 8 Tryz.f8 rfl rfl rfl rfl rfl rfl rfl ⟨rfl, rfl, rfl, rfl, rfl⟩ rfl rfl rfl rfl rfl (by kernel_rfl) Tryz.func8 facts_fnExactVersionsAfter
    (of_decide_eq_true (by kernel_rfl)) (by unfold Func.isWrapper; first | (rw [if_pos (by decide +kernel)]; kernel_rfl) | (rw [if_neg (by decide +kernel)]; exact ⟨rfl, rfl⟩))
    (fun os started H enc _ => fnExactVersionsAfter_lifted os started H enc)
theorem cd1_fnExactVersionsAfter : Rows.fnExactVersionsAfterRow.wfByText (OpenSpec.ofChange Rows.fnExactVersionsAfterSpec) = true := by kernel_rfl
theorem cd2_fnExactVersionsAfter : Tryz.prog.mainIs = some (true, ("23f0adf212c374381fc73e75323df59ab70978951982fe805c9250fa67119762" : String).toList) := by kernel_rfl
theorem cd3_fnExactVersionsAfter : Tryz.prog.funcNamed "loop.example/g00939/laws.FnExactVersionsAfter" = some 8 := by kernel_rfl
theorem cd4_fnExactVersionsAfter : false = Tryz.prog.looks [] := by kernel_rfl
theorem cd5_fnExactVersionsAfter : false = Rows.fnExactVersionsAfterRow.goesBy Tryz.prog := by kernel_rfl
theorem cd6_fnExactVersionsAfter : ([9].all fun u => !Tryz.prog.wantsStandIn u) = true := by kernel_rfl
theorem fnExactVersionsAfterCard_holds : Rows.FnExactVersionsAfterCardSaid :=
  Claim7.holds_tied_plain_at .later [] [.data, .data, .data, .data, .pinned] true (true, "23f0adf212c374381fc73e75323df59ab70978951982fe805c9250fa67119762") false fnExactVersionsAfter_holds (fun _ h => by cases h) cd1_fnExactVersionsAfter (fun _ h => by cases h) fnExactVersionsAfter_row_tie rfl ⟨rfl, rfl⟩ cd2_fnExactVersionsAfter rfl
    (fun f fn hf hfn => by
      obtain rfl : f = 8 := Option.some.inj (cd3_fnExactVersionsAfter.symm.trans hf) |>.symm
      obtain rfl : fn = Tryz.f8 := (Option.some.inj (Tryz.func8.symm.trans hfn)).symm
      exact ⟨cd4_fnExactVersionsAfter, fun j t ht => by
        rw [Tryz.params8] at ht
        have hm : t ∈ [9] := by simpa using Array.mem_of_getElem? ht
        exact (show Tryz.prog.wantsStandIn t = false by simpa using List.all_eq_true.1 cd6_fnExactVersionsAfter t hm)⟩)
    cd5_fnExactVersionsAfter
end Go.Proofs.YtellehgihceicaaGreatDoor
