/-
  THE ROW OF FnExactReverseShow: the law returns true, whatever it is given; what it is given reads behind the call as before. No condition.
-/
import Derived.Test.YtadklddedeoniaaRows
import Derived.Test.YtadklddedeoniaaWXFnExactReverseShowb
import Derived.Test.YtadklddedeoniaaPFnExactReverseShow
import Derived.WalkKit
import Derived.ProofKit
import Derived.OpenShut
set_option linter.unusedSimpArgs false
set_option linter.unusedVariables false
set_option maxRecDepth 100000
namespace Go.Proofs.Ytadklddedeoniaa
open Go Go.ChangeShapes Go.WideShapes Go.ChangeAt Go.RowKit
theorem own_fnExactReverseShow : ownKnob Try.prog.godebug = none := by kernel_rfl
theorem laidOut_fnExactReverseShow : laidOutB Try.prog = true := by kernel_rfl
set_option maxRecDepth 100000 in
theorem fnExactReverseShow_lifted (os : Os) (started : os.Started) (H : Type) (enc : TypeId × Value → H) :
    ReturnsInHanded {} Try.checked os 7 .any (Rows.fnExactReverseShowSpec.pre6 enc Try.prog Try.f7 Rows.fnExactReverseShowRow.domain false) (Rows.fnExactReverseShowSpec.post enc Try.prog Try.f7 false true false false) := by
  refine returnsInHanded_of_change (C := Try.checked) own_fnExactReverseShow started (by kernel_rfl) Try.func7
    (ChangeSpec.witness6 (enc := enc) (C := Try.checked) false ⟨#[], #[(.agg #[(.slice none 0 0), (.slice none 0 0), (.int .i64 0), (.int .i64 0)])], []⟩ 8 (by kernel_rfl) (by kernel_rfl) (by kernel_rfl) (by kernel_rfl)) ?_
  intro W base args ds gs before hval0 hW hcnd _
  have hval : ∀ (j : Nat) t v, Try.f7.params[j]? = some t → args[j]? = some v → Value.okWide Try.prog W .any base t v := hval0
  have hW' := hW
  obtain ⟨p, q, hA0, hV, rfl, hfz, hnd⟩ := hW
  have hA : DataW.TrodAll enc Try.prog W 0 (fun _ => true) true Try.f7.params.toList args.toList ds p := hA0
  rw [Try.params7] at hA hval
  obtain ⟨w0, vs0, d0, ds0, p0, ps0, ea0, rfl, rfl, o0, hT0⟩ := trodAll_cons hA
  obtain ⟨rfl, rfl, rfl⟩ := trodAll_nil hT0
  obtain rfl : args = #[w0] := by cases args; simp_all
  obtain ⟨rfl, rfl⟩ := trodVars_none hV
  obtain ⟨cs0, rfl, -⟩ := okWide_struct Try.underlying25 (hval 0 25 _ rfl rfl)
  obtain ⟨fu0, kk0⟩ := o0
  have oo0 : DataW.Trod enc Try.prog W 0 (fun _ => true) true 25 _ d0 p0 := ⟨fu0, kk0⟩
  obtain ⟨x0, r0, g0⟩ := op_25.op kk0
  obtain ⟨_, _, e0, ⟨v0_0, rfl, h0_0⟩, _, _, rfl, ⟨v0_1, rfl, h0_1⟩, _, _, rfl, rfl, rfl⟩ := r0
  obtain rfl : cs0 = #[v0_0, v0_1, (.int .i64 x0.2.2.1), (.int .i64 x0.2.2.2)] := by cases cs0; simpa [Value.cells, enc_3, enc_3] using e0
  clear hA0 hval0
  simp only [List.append_nil, List.append_assoc, List.nil_append] at hW'
  refine (C_laws_FnExactReverseShow W _ _ h0_0 _ h0_1 true (P_laws_FnExactReverseShow x0 g0)).mono fun e W' he => ?_
  obtain ⟨he, hb⟩ := he
  subst he
  exact ⟨_, rfl, _, _, _, _, _, _, hW', trodAll_mk1 (shut_bool Try.underlying4 true), trodAll_mk1 (Below.trod laidOut_fnExactReverseShow (by kernel_rfl) (of_decide_eq_true (by kernel_rfl)) oo0 hb fun x hx => hW'.lt x (by simp [hx])), by rfl, hb.frame _, fun h => by cases h⟩
theorem fnExactReverseShow_holds : Rows.FnExactReverseShowSaid :=
  OpenClaim.holds_of_wide 7 Try.f7 rfl rfl rfl rfl rfl rfl rfl ⟨rfl, rfl, rfl, rfl, rfl⟩ rfl rfl rfl rfl rfl (by kernel_rfl) Try.func7 (by kernel_rfl)
    (of_decide_eq_true (by kernel_rfl)) (by unfold Func.isWrapper; first | (rw [if_pos (by decide +kernel)]; kernel_rfl) | (rw [if_neg (by decide +kernel)]; exact ⟨rfl, rfl⟩))
    (fun os started H enc _ => fnExactReverseShow_lifted os started H enc)
end Go.Proofs.Ytadklddedeoniaa
