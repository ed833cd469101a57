/-
  THE ROW OF FnExactCuesAfterRepeat: the law returns true, whatever it is given; what it is given reads behind the call as before. No condition.
-/
import Derived.Test.YtmbhdelegdhieaaRows
import Derived.Test.YtmbhdelegdhieaaWFnExactCuesAfterRepeat
import Derived.Test.YtmbhdelegdhieaaPFnExactCuesAfterRepeat
import Derived.WalkKit
import Derived.ProofKit
import Derived.OpenShut
set_option linter.unusedSimpArgs false
set_option linter.unusedVariables false
set_option maxRecDepth 100000
namespace Go.Proofs.Ytmbhdelegdhieaa
open Go Go.ChangeShapes Go.WideShapes Go.ChangeAt Go.RowKit
theorem own_fnExactCuesAfterRepeat : ownKnob Try.prog.godebug = none := by kernel_rfl
theorem laidOut_fnExactCuesAfterRepeat : laidOutB Try.prog = true := by kernel_rfl
set_option maxRecDepth 100000 in
theorem fnExactCuesAfterRepeat_lifted (os : Os) (started : os.Started) (H : Type) (enc : TypeId × Value → H) :
    ReturnsInHanded {} Try.checked os 14 .any (Rows.fnExactCuesAfterRepeatSpec.pre6 enc Try.prog Try.f14 Rows.fnExactCuesAfterRepeatRow.domain false) (Rows.fnExactCuesAfterRepeatSpec.post enc Try.prog Try.f14 false true false false) := by
  refine returnsInHanded_of_change (C := Try.checked) own_fnExactCuesAfterRepeat started (by kernel_rfl) Try.func14
    (ChangeSpec.witness6 (enc := enc) (C := Try.checked) false ⟨#[], #[(.slice none 0 0), (.slice none 0 0), (.int .i64 0), (.int .i64 0), (.int .i64 0)], []⟩ 8 (by kernel_rfl) (by kernel_rfl) (by kernel_rfl) (by kernel_rfl)) ?_
  intro W base args ds gs before hval0 hW hcnd _
  have hval : ∀ (j : Nat) t v, Try.f14.params[j]? = some t → args[j]? = some v → Value.okWide Try.prog W .any base t v := hval0
  have hW' := hW
  obtain ⟨p, q, hA0, hV, rfl, hfz, hnd⟩ := hW
  have hA : DataW.TrodAll enc Try.prog W 0 (fun _ => true) true Try.f14.params.toList args.toList ds p := hA0
  rw [Try.params14] at hA hval
  obtain ⟨w0, vs0, d0, ds0, p0, ps0, ea0, rfl, rfl, o0, hT0⟩ := trodAll_cons hA
  obtain ⟨w1, vs1, d1, ds1, p1, ps1, ea1, rfl, rfl, o1, hT1⟩ := trodAll_cons hT0
  subst ea1
  obtain ⟨w2, vs2, d2, ds2, p2, ps2, ea2, rfl, rfl, o2, hT2⟩ := trodAll_cons hT1
  subst ea2
  obtain ⟨w3, vs3, d3, ds3, p3, ps3, ea3, rfl, rfl, o3, hT3⟩ := trodAll_cons hT2
  subst ea3
  obtain ⟨w4, vs4, d4, ds4, p4, ps4, ea4, rfl, rfl, o4, hT4⟩ := trodAll_cons hT3
  subst ea4
  obtain ⟨rfl, rfl, rfl⟩ := trodAll_nil hT4
  obtain rfl : args = #[w0, w1, w2, w3, w4] := by cases args; simp_all
  obtain ⟨rfl, rfl⟩ := trodVars_none hV
  obtain ⟨aa0, al0, ac0, rfl⟩ := okWide_slice Try.underlying36 (hval 0 36 _ rfl rfl)
  obtain ⟨fu0, kk0⟩ := o0
  have oo0 : DataW.Trod enc Try.prog W 0 (fun _ => true) true 36 _ d0 p0 := ⟨fu0, kk0⟩
  obtain ⟨x0, r0, g0⟩ := op_36.op kk0
  obtain ⟨v0_0, e0, h0_0⟩ := r0
  obtain rfl : _ = v0_0 := (List.cons.inj e0).1
  obtain ⟨aa1, al1, ac1, rfl⟩ := okWide_slice Try.underlying37 (hval 1 37 _ rfl rfl)
  obtain ⟨fu1, kk1⟩ := o1
  have oo1 : DataW.Trod enc Try.prog W 0 (fun _ => true) true 37 _ d1 p1 := ⟨fu1, kk1⟩
  obtain ⟨x1, r1, g1⟩ := op_37.op kk1
  obtain ⟨v1_0, e1, h1_0⟩ := r1
  obtain rfl : _ = v1_0 := (List.cons.inj e1).1
  obtain ⟨nn2, rfl⟩ := okWide_int Try.underlying3 (hval 2 3 _ rfl rfl)
  obtain ⟨fu2, kk2⟩ := o2
  have oo2 : DataW.Trod enc Try.prog W 0 (fun _ => true) true 3 _ d2 p2 := ⟨fu2, kk2⟩
  obtain ⟨x2, r2, g2⟩ := op_3.op kk2
  obtain rfl : x2 = nn2 := Eq.symm (by simpa [Value.cells, enc_3, ty_3, Sh.flat] using r2)
  obtain ⟨nn3, rfl⟩ := okWide_int Try.underlying3 (hval 3 3 _ rfl rfl)
  obtain ⟨fu3, kk3⟩ := o3
  have oo3 : DataW.Trod enc Try.prog W 0 (fun _ => true) true 3 _ d3 p3 := ⟨fu3, kk3⟩
  obtain ⟨x3, r3, g3⟩ := op_3.op kk3
  obtain rfl : x3 = nn3 := Eq.symm (by simpa [Value.cells, enc_3, ty_3, Sh.flat] using r3)
  obtain ⟨nn4, rfl⟩ := okWide_int Try.underlying3 (hval 4 3 _ rfl rfl)
  obtain ⟨fu4, kk4⟩ := o4
  have oo4 : DataW.Trod enc Try.prog W 0 (fun _ => true) true 3 _ d4 p4 := ⟨fu4, kk4⟩
  obtain ⟨x4, r4, g4⟩ := op_3.op kk4
  obtain rfl : x4 = nn4 := Eq.symm (by simpa [Value.cells, enc_3, ty_3, Sh.flat] using r4)
  clear hA0 hval0
  simp only [List.append_nil, List.append_assoc, List.nil_append] at hW'
  refine (C_laws_FnExactCuesAfterRepeat W _ _ h0_0 _ _ h1_0 _ _ _ true (P_laws_FnExactCuesAfterRepeat x0 x1 x2 x3 x4 g0 g1 g2 g3 g4)).mono fun e W' he => ?_
  obtain ⟨he, hb⟩ := he
  subst he
  exact ⟨_, rfl, _, _, _, _, _, _, hW', trodAll_mk1 (shut_bool Try.underlying4 true), trodAll_cons_mk (Below.trod laidOut_fnExactCuesAfterRepeat (by kernel_rfl) (of_decide_eq_true (by kernel_rfl)) oo0 hb fun x hx => hW'.lt x (by simp [hx])) (trodAll_cons_mk (Below.trod laidOut_fnExactCuesAfterRepeat (by kernel_rfl) (of_decide_eq_true (by kernel_rfl)) oo1 hb fun x hx => hW'.lt x (by simp [hx])) (trodAll_cons_mk (Below.trod laidOut_fnExactCuesAfterRepeat (by kernel_rfl) (of_decide_eq_true (by kernel_rfl)) oo2 hb fun x hx => hW'.lt x (by simp [hx])) (trodAll_cons_mk (Below.trod laidOut_fnExactCuesAfterRepeat (by kernel_rfl) (of_decide_eq_true (by kernel_rfl)) oo3 hb fun x hx => hW'.lt x (by simp [hx])) (trodAll_mk1 (Below.trod laidOut_fnExactCuesAfterRepeat (by kernel_rfl) (of_decide_eq_true (by kernel_rfl)) oo4 hb fun x hx => hW'.lt x (by simp [hx])))))), by rfl, hb.frame _, fun h => by cases h⟩
theorem fnExactCuesAfterRepeat_holds : Rows.FnExactCuesAfterRepeatSaid :=
  OpenClaim.holds_of_wide 14 Try.f14 rfl rfl rfl rfl rfl rfl rfl ⟨rfl, rfl, rfl, rfl, rfl⟩ rfl rfl rfl rfl rfl (by kernel_rfl) Try.func14 (by kernel_rfl)
    (of_decide_eq_true (by kernel_rfl)) (by unfold Func.isWrapper; first | (rw [if_pos (by decide +kernel)]; kernel_rfl) | (rw [if_neg (by decide +kernel)]; exact ⟨rfl, rfl⟩))
    (fun os started H enc _ => fnExactCuesAfterRepeat_lifted os started H enc)
end Go.Proofs.Ytmbhdelegdhieaa
