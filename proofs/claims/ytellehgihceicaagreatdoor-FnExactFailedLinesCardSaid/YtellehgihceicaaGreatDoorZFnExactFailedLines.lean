/-
  THE ROW OF FnExactFailedLines: the law returns true, whatever it is given; what it is given reads behind the call as before. No condition.
-/
import Derived.Test.YtellehgihceicaaGreatDoorRows
import Derived.Test.YtellehgihceicaaGreatDoorCards
import Derived.Test.YtellehgihceicaaGreatDoorTie
import Derived.Test.YtellehgihceicaaGreatDoorWXFnExactFailedLinese
import Derived.Test.YtellehgihceicaaGreatDoorPFnExactFailedLines
import Derived.WalkKit
import Derived.ProofKit
import Derived.OpenShut
import Derived.LaidMore
import Derived.Lay
import Derived.SevenTiedAt
import Derived.Stop.Joined
import Derived.Lib.LaidTab
set_option linter.unusedSimpArgs false
set_option linter.unusedVariables false
set_option maxRecDepth 100000
set_option maxHeartbeats 1600000
namespace Go.Proofs.YtellehgihceicaaGreatDoor
open Go Go.ChangeShapes Go.WideShapes Go.ChangeAt Go.RowKit
theorem own_fnExactFailedLines : ownKnob Tryz.prog.godebug = none := by kernel_rfl
theorem laidOut_fnExactFailedLines : laidOutB Tryz.prog = true := by kernel_rfl
theorem laid_tail {P : Program} {x : String × DataW Unit} {l : List (String × DataW Unit)} {W : World} (h : laidMet P (x :: l) W) : laidMet P l W := by
  obtain ⟨ps, hl, hnd, hp⟩ := h
  obtain ⟨g, t, cs, fuel, p, q, h1, h2, h3, h4, h5, rfl⟩ := hl
  exact ⟨q, h5, (List.nodup_append.1 hnd).2.1, fun b off hm => hp b off (List.mem_append_right _ hm)⟩
theorem tab_fnExactFailedLines {W : World} (h : laidMetH Tryz.prog Rows.fnExactFailedLinesRow.laid W) : Tab W := by
  rw [MakeChecks.laidMetH_plain _ _ _ (by kernel_rfl)] at h
  have h3 := (laid_tail (laid_tail h))
  have e : (Rows.laid_internal_strconv_uint64pow10 : DataW Unit) = Lib.tabData .u64 Lib.pow10Tab := by kernel_rfl
  rw [e] at h3
  exact Lib.tabIs_of_head (g := (Tryz.prog.globalNamed "internal/strconv.uint64pow10").getD 0) (t := 240) (e := 89) (n := 20) (by kernel_rfl) (by kernel_rfl) (by kernel_rfl) (by kernel_rfl) (by kernel_rfl) (by kernel_rfl) h3
set_option maxRecDepth 100000 in
theorem fnExactFailedLines_lifted (os : Os) (started : os.Started) (H : Type) (enc : TypeId × Value → H) :
    ReturnsInHanded {} Tryz.checked os 7 .any (fun w args => (Rows.fnExactFailedLinesSpec.pre enc Tryz.prog Tryz.f7 Rows.fnExactFailedLinesRow.domain false w args ∧ laidMetH Tryz.prog Rows.fnExactFailedLinesRow.laid w) ∧ sizedMet enc Tryz.prog Tryz.f7 (OpenSpec.ofChange Rows.fnExactFailedLinesSpec) false w args)
      (Rows.fnExactFailedLinesSpec.post enc Tryz.prog Tryz.f7 false true false false) := by
  refine returnsInHanded_of_change_and (C := Tryz.checked) (X := fun w _ => laidMetH Tryz.prog Rows.fnExactFailedLinesRow.laid w) (fun _ _ _ hh h => h.of_heap hh) own_fnExactFailedLines started (by kernel_rfl) Tryz.func7
    (ChangeSpec.witness_shaped (enc := enc) (C := Tryz.checked) (os := os) (X := fun w _ => laidMetH Tryz.prog Rows.fnExactFailedLinesRow.laid w) false (World.laidAll Tryz.prog os Rows.fnExactFailedLinesRow.laid) #[(.string .empty)] 8 (World.laidAll_os _ _ _)
      (World.shaped_of_ZipB (by kernel_rfl) (by kernel_rfl)) (by kernel_rfl) (by kernel_rfl) (by kernel_rfl)
      (by rw [MakeChecks.laidMetH_plain _ _ _ (by kernel_rfl)]; exact laidMet_laidAll _ (by kernel_rfl) (by kernel_rfl))) ?_
  intro W base args ds gs before hval0 hW hcnd hX1 hX2 hX3
  have hval : ∀ (j : Nat) t v, Tryz.f7.params[j]? = some t → args[j]? = some v → Value.okWide Tryz.prog W .any base t v := hval0
  have hW' := hW
  obtain ⟨p, q, hA0, hV, rfl, hfz, hnd⟩ := hW
  have hA : DataW.TrodAll enc Tryz.prog W 0 (fun _ => true) true Tryz.f7.params.toList args.toList ds p := hA0
  rw [Tryz.params7] at hA hval
  obtain ⟨w0, vs0, d0, ds0, p0, ps0, ea0, rfl, rfl, o0, hT0⟩ := trodAll_cons hA
  obtain ⟨rfl, rfl, rfl⟩ := trodAll_nil hT0
  obtain rfl : args = #[w0] := by cases args; simp_all
  obtain ⟨rfl, rfl⟩ := trodVars_none hV
  obtain ⟨nn0, rfl⟩ := okWide_string Tryz.underlying9 (hval 0 9 _ rfl rfl)
  obtain ⟨fu0, kk0⟩ := o0
  have oo0 : DataW.Trod enc Tryz.prog W 0 (fun _ => true) true 9 _ d0 p0 := ⟨fu0, kk0⟩
  obtain ⟨x0, r0, g0⟩ := Aek.op kk0
  obtain rfl : B5 x0 = nn0 := Eq.symm (by simpa [Value.cells, VM, Cx, Sh.flat] using r0)
  clear hA0 hval0
  simp only [List.append_nil, List.append_assoc, List.nil_append] at hW'
  have hT : Tab W := (by first | exact tab_fnExactFailedLines hX1 | exact tab_fnExactFailedLines hX2 | exact tab_fnExactFailedLines hX3 | exact tab_fnExactFailedLines hcnd | exact tab_fnExactFailedLines hcnd.2)
  refine (NA W hT _ true (N9 x0 g0)).mono fun e W' he => ?_
  obtain ⟨he, hb⟩ := he
  subst he
  exact ⟨_, rfl, _, _, _, _, _, _, hW', trodAll_mk1 (shut_bool Tryz.underlying4 true), trodAll_mk1 (Below.trod laidOut_fnExactFailedLines (by kernel_rfl) (of_decide_eq_true (by kernel_rfl)) oo0 hb fun x hx => hW'.lt x (by simp [hx])), by rfl, hb.frame _, fun h => by cases h⟩
theorem facts1_fnExactFailedLines : (Rows.fnExactFailedLinesRow.inPlace == Tryz.prog.inPlace 7) = true := by kernel_rfl
theorem facts2_fnExactFailedLines : (Rows.fnExactFailedLinesRow.unfollowed == Tryz.prog.unfollowed 7) = true := by kernel_rfl
theorem facts3_fnExactFailedLines : (Rows.fnExactFailedLinesRow.recurses == Tryz.prog.recurses 7) = true := by kernel_rfl
theorem facts4_fnExactFailedLines : (Rows.fnExactFailedLinesRow.named == Tryz.prog.varsNamed 7) = true := by kernel_rfl
theorem facts_fnExactFailedLines : joinedFacts Tryz.prog 7 Tryz.f7 Rows.fnExactFailedLinesSpec Rows.fnExactFailedLinesRow = true := by
  unfold joinedFacts
  rw [facts1_fnExactFailedLines, facts2_fnExactFailedLines, facts3_fnExactFailedLines, facts4_fnExactFailedLines]
  kernel_rfl
theorem fnExactFailedLines_holds : Rows.FnExactFailedLinesSaid :=
  OpenClaim.holds_of_wide 7 Tryz.f7 rfl rfl rfl rfl rfl rfl rfl ⟨rfl, rfl, rfl, rfl, rfl⟩ rfl rfl rfl rfl rfl (by kernel_rfl) Tryz.func7 facts_fnExactFailedLines
    (of_decide_eq_true (by kernel_rfl)) (by unfold Func.isWrapper; first | (rw [if_pos (by decide +kernel)]; kernel_rfl) | (rw [if_neg (by decide +kernel)]; exact ⟨rfl, rfl⟩))
    (fun os started H enc _ => fnExactFailedLines_lifted os started H enc)
theorem cd1_fnExactFailedLines : Rows.fnExactFailedLinesRow.wfByText (OpenSpec.ofChange Rows.fnExactFailedLinesSpec) = true := by kernel_rfl
theorem cd2_fnExactFailedLines : Tryz.prog.mainIs = some (true, ("23f0adf212c374381fc73e75323df59ab70978951982fe805c9250fa67119762" : String).toList) := by kernel_rfl
theorem cd3_fnExactFailedLines : Tryz.prog.funcNamed "loop.example/g00939/laws.FnExactFailedLines" = some 7 := by kernel_rfl
theorem cd4_fnExactFailedLines : false = Tryz.prog.looks [] := by kernel_rfl
theorem cd5_fnExactFailedLines : false = Rows.fnExactFailedLinesRow.goesBy Tryz.prog := by kernel_rfl
theorem cd6_fnExactFailedLines : ([9].all fun u => !Tryz.prog.wantsStandIn u) = true := by kernel_rfl
theorem fnExactFailedLinesCard_holds : Rows.FnExactFailedLinesCardSaid :=
  Claim7.holds_tied_plain_at .later [] [.data, .data, .data, .data, .pinned] true (true, "23f0adf212c374381fc73e75323df59ab70978951982fe805c9250fa67119762") false fnExactFailedLines_holds (fun _ h => by cases h) cd1_fnExactFailedLines (fun _ h => by cases h) fnExactFailedLines_row_tie rfl ⟨rfl, rfl⟩ cd2_fnExactFailedLines rfl
    (fun f fn hf hfn => by
      obtain rfl : f = 7 := Option.some.inj (cd3_fnExactFailedLines.symm.trans hf) |>.symm
      obtain rfl : fn = Tryz.f7 := (Option.some.inj (Tryz.func7.symm.trans hfn)).symm
      exact ⟨cd4_fnExactFailedLines, fun j t ht => by
        rw [Tryz.params7] at ht
        have hm : t ∈ [9] := by simpa using Array.mem_of_getElem? ht
        exact (show Tryz.prog.wantsStandIn t = false by simpa using List.all_eq_true.1 cd6_fnExactFailedLines t hm)⟩)
    cd5_fnExactFailedLines
end Go.Proofs.YtellehgihceicaaGreatDoor
