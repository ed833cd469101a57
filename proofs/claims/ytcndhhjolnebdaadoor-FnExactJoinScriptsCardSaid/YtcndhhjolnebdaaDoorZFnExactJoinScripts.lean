/-
  THE ROW OF FnExactJoinScripts: the law returns true, whatever it is given; what it is given reads behind the call as before. The row lists two tables of Go's library; the card ties them.
-/
import Derived.Test.YtcndhhjolnebdaaDoorRows
import Derived.Test.YtcndhhjolnebdaaDoorCards
import Derived.Test.YtcndhhjolnebdaaDoorTie
import Derived.Test.YtcndhhjolnebdaaDoorWFnExactJoinScripts
import Derived.Test.YtcndhhjolnebdaaDoorPFnExactJoinScripts
import Derived.WalkKit
import Derived.ProofKit
import Derived.OpenShut
import Derived.LaidMore
import Derived.Lay
import Derived.SevenTiedAt
import Derived.Stop.Joined
set_option linter.unusedSimpArgs false
set_option linter.unusedVariables false
set_option maxRecDepth 100000
namespace Go.Proofs.YtcndhhjolnebdaaDoor
open Go Go.ChangeShapes Go.WideShapes Go.ChangeAt Go.RowKit
theorem own_fnExactJoinScripts : ownKnob Tryd.prog.godebug = none := by kernel_rfl
theorem laidOut_fnExactJoinScripts : laidOutB Tryd.prog = true := by kernel_rfl
set_option maxRecDepth 100000 in
theorem fnExactJoinScripts_lifted (os : Os) (started : os.Started) (H : Type) (enc : TypeId × Value → H) :
    ReturnsInHanded {} Tryd.checked os 3 .any (fun w args => (Rows.fnExactJoinScriptsSpec.pre enc Tryd.prog Tryd.f3 Rows.fnExactJoinScriptsRow.domain false w args ∧ laidMetH Tryd.prog Rows.fnExactJoinScriptsRow.laid w) ∧ sizedMet enc Tryd.prog Tryd.f3 (OpenSpec.ofChange Rows.fnExactJoinScriptsSpec) false w args)
      (Rows.fnExactJoinScriptsSpec.post enc Tryd.prog Tryd.f3 false true false false) := by
  refine returnsInHanded_of_change_and (C := Tryd.checked) (X := fun w _ => laidMetH Tryd.prog Rows.fnExactJoinScriptsRow.laid w) (fun _ _ _ hh h => h.of_heap hh) own_fnExactJoinScripts started (by kernel_rfl) Tryd.func3
    (ChangeSpec.witness_shaped (enc := enc) (C := Tryd.checked) (os := os) (X := fun w _ => laidMetH Tryd.prog Rows.fnExactJoinScriptsRow.laid w) false (World.laidAll Tryd.prog os Rows.fnExactJoinScriptsRow.laid) #[(.string .empty), (.string .empty)] 8 (World.laidAll_os _ _ _)
      (World.shaped_of_ZipB (by kernel_rfl) (by kernel_rfl)) (by kernel_rfl) (by kernel_rfl) (by kernel_rfl)
      (by rw [MakeChecks.laidMetH_plain _ _ _ (by kernel_rfl)]; exact laidMet_laidAll _ (by kernel_rfl) (by kernel_rfl))) ?_
  intro W base args ds gs before hval0 hW hcnd _ _ _
  have hval : ∀ (j : Nat) t v, Tryd.f3.params[j]? = some t → args[j]? = some v → Value.okWide Tryd.prog W .any base t v := hval0
  have hW' := hW
  obtain ⟨p, q, hA0, hV, rfl, hfz, hnd⟩ := hW
  have hA : DataW.TrodAll enc Tryd.prog W 0 (fun _ => true) true Tryd.f3.params.toList args.toList ds p := hA0
  rw [Tryd.params3] at hA hval
  obtain ⟨w0, vs0, d0, ds0, p0, ps0, ea0, rfl, rfl, o0, hT0⟩ := trodAll_cons hA
  obtain ⟨w1, vs1, d1, ds1, p1, ps1, ea1, rfl, rfl, o1, hT1⟩ := trodAll_cons hT0
  subst ea1
  obtain ⟨rfl, rfl, rfl⟩ := trodAll_nil hT1
  obtain rfl : args = #[w0, w1] := by cases args; simp_all
  obtain ⟨rfl, rfl⟩ := trodVars_none hV
  obtain ⟨nn0, rfl⟩ := okWide_string Tryd.underlying9 (hval 0 9 _ rfl rfl)
  obtain ⟨fu0, kk0⟩ := o0
  have oo0 : DataW.Trod enc Tryd.prog W 0 (fun _ => true) true 9 _ d0 p0 := ⟨fu0, kk0⟩
  obtain ⟨x0, r0, g0⟩ := op_9.op kk0
  obtain rfl : mkS x0 = nn0 := Eq.symm (by simpa [Value.cells, enc_9, ty_9, Sh.flat] using r0)
  obtain ⟨nn1, rfl⟩ := okWide_string Tryd.underlying9 (hval 1 9 _ rfl rfl)
  obtain ⟨fu1, kk1⟩ := o1
  have oo1 : DataW.Trod enc Tryd.prog W 0 (fun _ => true) true 9 _ d1 p1 := ⟨fu1, kk1⟩
  obtain ⟨x1, r1, g1⟩ := op_9.op kk1
  obtain rfl : mkS x1 = nn1 := Eq.symm (by simpa [Value.cells, enc_9, ty_9, Sh.flat] using r1)
  clear hA0 hval0
  simp only [List.append_nil, List.append_assoc, List.nil_append] at hW'
  refine (C_laws_FnExactJoinScripts W _ _ true (P_laws_FnExactJoinScripts x0 x1)).mono fun e W' he => ?_
  obtain ⟨he, hb⟩ := he
  subst he
  exact ⟨_, rfl, _, _, _, _, _, _, hW', trodAll_mk1 (shut_bool Tryd.underlying4 true), trodAll_cons_mk (Below.trod laidOut_fnExactJoinScripts (by kernel_rfl) (of_decide_eq_true (by kernel_rfl)) oo0 hb fun x hx => hW'.lt x (by simp [hx])) (trodAll_mk1 (Below.trod laidOut_fnExactJoinScripts (by kernel_rfl) (of_decide_eq_true (by kernel_rfl)) oo1 hb fun x hx => hW'.lt x (by simp [hx]))), by rfl, hb.frame _, fun h => by cases h⟩
theorem fnExactJoinScripts_holds : Rows.FnExactJoinScriptsSaid :=
  OpenClaim.holds_of_wide 3 Tryd.f3 rfl rfl rfl rfl rfl rfl rfl ⟨rfl, rfl, rfl, rfl, rfl⟩ rfl rfl rfl rfl rfl (by kernel_rfl) Tryd.func3 (by kernel_rfl)
    (of_decide_eq_true (by kernel_rfl)) (by unfold Func.isWrapper; first | (rw [if_pos (by decide +kernel)]; kernel_rfl) | (rw [if_neg (by decide +kernel)]; exact ⟨rfl, rfl⟩))
    (fun os started H enc _ => fnExactJoinScripts_lifted os started H enc)
theorem fnExactJoinScriptsCard_holds : Rows.FnExactJoinScriptsCardSaid :=
  Claim7.holds_tied_plain_at .later [] [.data, .pinned] true (true, "55e5db59c72ab92aad9b99f8b207b4b4c98faac5765ab5710fcaecb521d1d3c0") false fnExactJoinScripts_holds (fun _ h => by cases h) (by kernel_rfl) (fun _ h => by cases h) fnExactJoinScripts_row_tie rfl ⟨rfl, rfl⟩ (by kernel_rfl) rfl
    (fun f fn hf hfn => by
      obtain rfl : f = 3 := Option.some.inj ((show Tryd.prog.funcNamed "loop.example/g00939/laws.FnExactJoinScripts" = some 3 by kernel_rfl).symm.trans hf) |>.symm
      obtain rfl : fn = Tryd.f3 := (Option.some.inj (Tryd.func3.symm.trans hfn)).symm
      exact ⟨by kernel_rfl, fun j t ht => by
        rw [Tryd.params3] at ht
        have hm : t ∈ [9, 9] := by simpa using Array.mem_of_getElem? ht
        have hall : ([9, 9].all fun u => !Tryd.prog.wantsStandIn u) = true := by kernel_rfl
        exact (show Tryd.prog.wantsStandIn t = false by simpa using List.all_eq_true.1 hall t hm)⟩)
    (by kernel_rfl)
end Go.Proofs.YtcndhhjolnebdaaDoor
