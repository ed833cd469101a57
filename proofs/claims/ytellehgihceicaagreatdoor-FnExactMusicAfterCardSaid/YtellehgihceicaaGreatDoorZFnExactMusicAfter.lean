/-
  THE ROW OF FnExactMusicAfter: the law returns true, whatever it is given; what it is given reads behind the call as before. No condition.
-/
import Derived.Test.YtellehgihceicaaGreatDoorRows
import Derived.Test.YtellehgihceicaaGreatDoorCards
import Derived.Test.YtellehgihceicaaGreatDoorTie
import Derived.Test.YtellehgihceicaaGreatDoorWXFnExactMusicAftere
import Derived.Test.YtellehgihceicaaGreatDoorPFnExactMusicAfter
import Derived.WalkKit
import Derived.ProofKit
import Derived.OpenShut
import Derived.LaidMore
import Derived.Lay
import Derived.SevenTiedAt
import Derived.Stop.Joined
import Derived.Lib.LaidTab
set_option linter.unusedSimpArgs false
set_option linter.unusedVariables false
set_option maxRecDepth 100000
set_option maxHeartbeats 1600000
namespace Go.Proofs.YtellehgihceicaaGreatDoor
open Go Go.ChangeShapes Go.WideShapes Go.ChangeAt Go.RowKit
theorem own_fnExactMusicAfter : ownKnob Tryz.prog.godebug = none := by kernel_rfl
theorem laidOut_fnExactMusicAfter : laidOutB Tryz.prog = true := by kernel_rfl
theorem laid_tail {P : Program} {x : String × DataW Unit} {l : List (String × DataW Unit)} {W : World} (h : laidMet P (x :: l) W) : laidMet P l W := by
  obtain ⟨ps, hl, hnd, hp⟩ := h
  obtain ⟨g, t, cs, fuel, p, q, h1, h2, h3, h4, h5, rfl⟩ := hl
  exact ⟨q, h5, (List.nodup_append.1 hnd).2.1, fun b off hm => hp b off (List.mem_append_right _ hm)⟩
theorem tab_fnExactMusicAfter {W : World} (h : laidMetH Tryz.prog Rows.fnExactMusicAfterRow.laid W) : Tab W := by
  rw [MakeChecks.laidMetH_plain _ _ _ (by kernel_rfl)] at h
  have h3 := (laid_tail (laid_tail h))
  have e : (Rows.laid_internal_strconv_uint64pow10 : DataW Unit) = Lib.tabData .u64 Lib.pow10Tab := by kernel_rfl
  rw [e] at h3
  exact Lib.tabIs_of_head (g := (Tryz.prog.globalNamed "internal/strconv.uint64pow10").getD 0) (t := 240) (e := 89) (n := 20) (by kernel_rfl) (by kernel_rfl) (by kernel_rfl) (by kernel_rfl) (by kernel_rfl) (by kernel_rfl) h3
set_option maxRecDepth 100000 in
theorem fnExactMusicAfter_lifted (os : Os) (started : os.Started) (H : Type) (enc : TypeId × Value → H) :
    ReturnsInHanded {} Tryz.checked os 6 .any (fun w args => (Rows.fnExactMusicAfterSpec.pre enc Tryz.prog Tryz.f6 Rows.fnExactMusicAfterRow.domain false w args ∧ laidMetH Tryz.prog Rows.fnExactMusicAfterRow.laid w) ∧ sizedMet enc Tryz.prog Tryz.f6 (OpenSpec.ofChange Rows.fnExactMusicAfterSpec) false w args)
      (Rows.fnExactMusicAfterSpec.post enc Tryz.prog Tryz.f6 false true false false) := by
  refine returnsInHanded_of_change_and (C := Tryz.checked) (X := fun w _ => laidMetH Tryz.prog Rows.fnExactMusicAfterRow.laid w) (fun _ _ _ hh h => h.of_heap hh) own_fnExactMusicAfter started (by kernel_rfl) Tryz.func6
    (ChangeSpec.witness_shaped (enc := enc) (C := Tryz.checked) (os := os) (X := fun w _ => laidMetH Tryz.prog Rows.fnExactMusicAfterRow.laid w) false (World.laidAll Tryz.prog os Rows.fnExactMusicAfterRow.laid) #[(.string .empty)] 8 (World.laidAll_os _ _ _)
      (World.shaped_of_ZipB (by kernel_rfl) (by kernel_rfl)) (by kernel_rfl) (by kernel_rfl) (by kernel_rfl)
      (by rw [MakeChecks.laidMetH_plain _ _ _ (by kernel_rfl)]; exact laidMet_laidAll _ (by kernel_rfl) (by kernel_rfl))) ?_
  intro W base args ds gs before hval0 hW hcnd hX1 hX2 hX3
  have hval : ∀ (j : Nat) t v, Tryz.f6.params[j]? = some t → args[j]? = some v → Value.okWide Tryz.prog W .any base t v := hval0
  have hW' := hW
  obtain ⟨p, q, hA0, hV, rfl, hfz, hnd⟩ := hW
  have hA : DataW.TrodAll enc Tryz.prog W 0 (fun _ => true) true Tryz.f6.params.toList args.toList ds p := hA0
  rw [Tryz.params6] at hA hval
  obtain ⟨w0, vs0, d0, ds0, p0, ps0, ea0, rfl, rfl, o0, hT0⟩ := trodAll_cons hA
  obtain ⟨rfl, rfl, rfl⟩ := trodAll_nil hT0
  obtain rfl : args = #[w0] := by cases args; simp_all
  obtain ⟨rfl, rfl⟩ := trodVars_none hV
  obtain ⟨nn0, rfl⟩ := okWide_string Tryz.underlying9 (hval 0 9 _ rfl rfl)
  obtain ⟨fu0, kk0⟩ := o0
  have oo0 : DataW.Trod enc Tryz.prog W 0 (fun _ => true) true 9 _ d0 p0 := ⟨fu0, kk0⟩
  obtain ⟨x0, r0, g0⟩ := Aec.op kk0
  obtain rfl : B6 x0 = nn0 := Eq.symm (by simpa [Value.cells, VC, C5, Sh.flat] using r0)
  clear hA0 hval0
  simp only [List.append_nil, List.append_assoc, List.nil_append] at hW'
  have hT : Tab W := (by first | exact tab_fnExactMusicAfter hX1 | exact tab_fnExactMusicAfter hX2 | exact tab_fnExactMusicAfter hX3 | exact tab_fnExactMusicAfter hcnd | exact tab_fnExactMusicAfter hcnd.2)
  refine (Ol W hT _ true (Ok x0 g0)).mono fun e W' he => ?_
  obtain ⟨he, hb⟩ := he
  subst he
  exact ⟨_, rfl, _, _, _, _, _, _, hW', trodAll_mk1 (shut_bool Tryz.underlying4 true), trodAll_mk1 (Below.trod laidOut_fnExactMusicAfter (by kernel_rfl) (of_decide_eq_true (by kernel_rfl)) oo0 hb fun x hx => hW'.lt x (by simp [hx])), by rfl, hb.frame _, fun h => by cases h⟩
theorem facts1_fnExactMusicAfter : (Rows.fnExactMusicAfterRow.inPlace == Tryz.prog.inPlace 6) = true := by kernel_rfl
theorem facts2_fnExactMusicAfter : (Rows.fnExactMusicAfterRow.unfollowed == Tryz.prog.unfollowed 6) = true := by kernel_rfl
theorem facts3_fnExactMusicAfter : (Rows.fnExactMusicAfterRow.recurses == Tryz.prog.recurses 6) = true := by kernel_rfl
theorem facts4_fnExactMusicAfter : (Rows.fnExactMusicAfterRow.named == Tryz.prog.varsNamed 6) = true := by kernel_rfl
theorem facts_fnExactMusicAfter : joinedFacts Tryz.prog 6 Tryz.f6 Rows.fnExactMusicAfterSpec Rows.fnExactMusicAfterRow = true := by
  unfold joinedFacts
  rw [facts1_fnExactMusicAfter, facts2_fnExactMusicAfter, facts3_fnExactMusicAfter, facts4_fnExactMusicAfter]
  kernel_rfl
theorem fnExactMusicAfter_holds : Rows.FnExactMusicAfterSaid :=
  OpenClaim.holds_of_wide 6 Tryz.f6 rfl rfl rfl rfl rfl rfl rfl ⟨rfl, rfl, rfl, rfl, rfl⟩ rfl rfl rfl rfl rfl (by kernel_rfl) Tryz.func6 facts_fnExactMusicAfter
    (of_decide_eq_true (by kernel_rfl)) (by unfold Func.isWrapper; first | (rw [if_pos (by decide +kernel)]; kernel_rfl) | (rw [if_neg (by decide +kernel)]; exact ⟨rfl, rfl⟩))
    (fun os started H enc _ => fnExactMusicAfter_lifted os started H enc)
theorem cd1_fnExactMusicAfter : Rows.fnExactMusicAfterRow.wfByText (OpenSpec.ofChange Rows.fnExactMusicAfterSpec) = true := by kernel_rfl
theorem cd2_fnExactMusicAfter : Tryz.prog.mainIs = some (true, ("23f0adf212c374381fc73e75323df59ab70978951982fe805c9250fa67119762" : String).toList) := by kernel_rfl
theorem cd3_fnExactMusicAfter : Tryz.prog.funcNamed "loop.example/g00939/laws.FnExactMusicAfter" = some 6 := by kernel_rfl
theorem cd4_fnExactMusicAfter : false = Tryz.prog.looks [] := by kernel_rfl
theorem cd5_fnExactMusicAfter : false = Rows.fnExactMusicAfterRow.goesBy Tryz.prog := by kernel_rfl
theorem cd6_fnExactMusicAfter : ([9].all fun u => !Tryz.prog.wantsStandIn u) = true := by kernel_rfl
theorem fnExactMusicAfterCard_holds : Rows.FnExactMusicAfterCardSaid :=
  Claim7.holds_tied_plain_at .later [] [.data, .data, .data, .data, .pinned] true (true, "23f0adf212c374381fc73e75323df59ab70978951982fe805c9250fa67119762") false fnExactMusicAfter_holds (fun _ h => by cases h) cd1_fnExactMusicAfter (fun _ h => by cases h) fnExactMusicAfter_row_tie rfl ⟨rfl, rfl⟩ cd2_fnExactMusicAfter rfl
    (fun f fn hf hfn => by
      obtain rfl : f = 6 := Option.some.inj (cd3_fnExactMusicAfter.symm.trans hf) |>.symm
      obtain rfl : fn = Tryz.f6 := (Option.some.inj (Tryz.func6.symm.trans hfn)).symm
      exact ⟨cd4_fnExactMusicAfter, fun j t ht => by
        rw [Tryz.params6] at ht
        have hm : t ∈ [9] := by simpa using Array.mem_of_getElem? ht
        exact (show Tryz.prog.wantsStandIn t = false by simpa using List.all_eq_true.1 cd6_fnExactMusicAfter t hm)⟩)
    cd5_fnExactMusicAfter
end Go.Proofs.YtellehgihceicaaGreatDoor
