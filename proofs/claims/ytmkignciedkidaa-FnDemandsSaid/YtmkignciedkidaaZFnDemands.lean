/-
  THE ROW OF FnDemands: the law returns true, whatever it is given; what it is given reads behind the call as before. No condition.
-/
import Derived.Test.YtmkignciedkidaaRows
import Derived.Test.YtmkignciedkidaaWXFnDemandse
import Derived.Test.YtmkignciedkidaaPFnDemands
import Derived.WalkKit
import Derived.ProofKit
import Derived.OpenShut
set_option linter.unusedSimpArgs false
set_option linter.unusedVariables false
set_option maxRecDepth 100000
set_option maxHeartbeats 1600000
namespace Go.Proofs.Ytmkignciedkidaa
open Go Go.ChangeShapes Go.WideShapes Go.ChangeAt Go.RowKit
theorem own_fnDemands : ownKnob Try.prog.godebug = none := by kernel_rfl
theorem laidOut_fnDemands : laidOutB Try.prog = true := by kernel_rfl
set_option maxRecDepth 100000 in
theorem fnDemands_lifted (os : Os) (started : os.Started) (H : Type) (enc : TypeId × Value → H) :
    ReturnsInHanded {} Try.checked os 8 .any (Rows.fnDemandsSpec.pre6 enc Try.prog Try.f8 Rows.fnDemandsRow.domain false) (Rows.fnDemandsSpec.post enc Try.prog Try.f8 false true false false) := by
  refine returnsInHanded_of_change (C := Try.checked) own_fnDemands started (by kernel_rfl) Try.func8
    (ChangeSpec.witness6 (enc := enc) (C := Try.checked) false ⟨#[], #[(.slice none 0 0), (.slice none 0 0)], []⟩ 8 (by kernel_rfl) (by kernel_rfl) (by kernel_rfl) (by kernel_rfl)) ?_
  intro W base args ds gs before hval0 hW hcnd _
  have hval : ∀ (j : Nat) t v, Try.f8.params[j]? = some t → args[j]? = some v → Value.okWide Try.prog W .any base t v := hval0
  have hW' := hW
  obtain ⟨p, q, hA0, hV, rfl, hfz, hnd⟩ := hW
  have hA : DataW.TrodAll enc Try.prog W 0 (fun _ => true) true Try.f8.params.toList args.toList ds p := hA0
  rw [Try.params8] at hA hval
  obtain ⟨w0, vs0, d0, ds0, p0, ps0, ea0, rfl, rfl, o0, hT0⟩ := trodAll_cons hA
  obtain ⟨w1, vs1, d1, ds1, p1, ps1, ea1, rfl, rfl, o1, hT1⟩ := trodAll_cons hT0
  subst ea1
  obtain ⟨rfl, rfl, rfl⟩ := trodAll_nil hT1
  obtain rfl : args = #[w0, w1] := by cases args; simp_all
  obtain ⟨rfl, rfl⟩ := trodVars_none hV
  obtain ⟨aa0, al0, ac0, rfl⟩ := okWide_slice Try.underlying22 (hval 0 22 _ rfl rfl)
  obtain ⟨fu0, kk0⟩ := o0
  have oo0 : DataW.Trod enc Try.prog W 0 (fun _ => true) true 22 _ d0 p0 := ⟨fu0, kk0⟩
  obtain ⟨x0, r0, g0⟩ := op_22.op kk0
  obtain ⟨v0_0, e0, h0_0⟩ := r0
  obtain rfl : _ = v0_0 := (List.cons.inj e0).1
  obtain ⟨aa1, al1, ac1, rfl⟩ := okWide_slice Try.underlying22 (hval 1 22 _ rfl rfl)
  obtain ⟨fu1, kk1⟩ := o1
  have oo1 : DataW.Trod enc Try.prog W 0 (fun _ => true) true 22 _ d1 p1 := ⟨fu1, kk1⟩
  obtain ⟨x1, r1, g1⟩ := op_22.op kk1
  obtain ⟨v1_0, e1, h1_0⟩ := r1
  obtain rfl : _ = v1_0 := (List.cons.inj e1).1
  clear hA0 hval0
  simp only [List.append_nil, List.append_assoc, List.nil_append] at hW'
  refine (C_laws_FnDemands W _ _ h0_0 _ _ h1_0 true (P_laws_FnDemands x0 x1 g0 g1)).mono fun e W' he => ?_
  obtain ⟨he, hb⟩ := he
  subst he
  exact ⟨_, rfl, _, _, _, _, _, _, hW', trodAll_mk1 (shut_bool Try.underlying4 true), trodAll_cons_mk (Below.trod laidOut_fnDemands (by kernel_rfl) (of_decide_eq_true (by kernel_rfl)) oo0 hb fun x hx => hW'.lt x (by simp [hx])) (trodAll_mk1 (Below.trod laidOut_fnDemands (by kernel_rfl) (of_decide_eq_true (by kernel_rfl)) oo1 hb fun x hx => hW'.lt x (by simp [hx]))), by rfl, hb.frame _, fun h => by cases h⟩
theorem fnDemands_holds : Rows.FnDemandsSaid :=
  OpenClaim.holds_of_wide 8 Try.f8 rfl rfl rfl rfl rfl rfl rfl ⟨rfl, rfl, rfl, rfl, rfl⟩ rfl rfl rfl rfl rfl (by kernel_rfl) Try.func8 (by kernel_rfl)
    (of_decide_eq_true (by kernel_rfl)) (by unfold Func.isWrapper; first | (rw [if_pos (by decide +kernel)]; kernel_rfl) | (rw [if_neg (by decide +kernel)]; exact ⟨rfl, rfl⟩))
    (fun os started H enc _ => fnDemands_lifted os started H enc)
end Go.Proofs.Ytmkignciedkidaa
