/-
  THE ROW OF FnScripts: the law returns true, whatever it is given; what it is given reads behind the call as before. No condition.
-/
import Derived.Test.YtellehgihceicaaGreatDoorRows
import Derived.Test.YtellehgihceicaaGreatDoorCards
import Derived.Test.YtellehgihceicaaGreatDoorTie
import Derived.Test.YtellehgihceicaaGreatDoorWXFnScriptsf
import Derived.Test.YtellehgihceicaaGreatDoorPFnScripts
import Derived.WalkKit
import Derived.ProofKit
import Derived.OpenShut
import Derived.LaidMore
import Derived.Lay
import Derived.SevenTiedAt
import Derived.Stop.Joined
import Derived.Lib.LaidTab
set_option linter.unusedSimpArgs false
set_option linter.unusedVariables false
set_option maxRecDepth 100000
set_option maxHeartbeats 1600000
namespace Go.Proofs.YtellehgihceicaaGreatDoor
open Go Go.ChangeShapes Go.WideShapes Go.ChangeAt Go.RowKit
theorem own_fnScripts : ownKnob Tryz.prog.godebug = none := by kernel_rfl
theorem laidOut_fnScripts : laidOutB Tryz.prog = true := by kernel_rfl
theorem laid_tail {P : Program} {x : String × DataW Unit} {l : List (String × DataW Unit)} {W : World} (h : laidMet P (x :: l) W) : laidMet P l W := by
  obtain ⟨ps, hl, hnd, hp⟩ := h
  obtain ⟨g, t, cs, fuel, p, q, h1, h2, h3, h4, h5, rfl⟩ := hl
  exact ⟨q, h5, (List.nodup_append.1 hnd).2.1, fun b off hm => hp b off (List.mem_append_right _ hm)⟩
theorem tab_fnScripts {W : World} (h : laidMetH Tryz.prog Rows.fnScriptsRow.laid W) : Tab W := by
  rw [MakeChecks.laidMetH_plain _ _ _ (by kernel_rfl)] at h
  have h3 := (laid_tail (laid_tail h))
  have e : (Rows.laid_internal_strconv_uint64pow10 : DataW Unit) = Lib.tabData .u64 Lib.pow10Tab := by kernel_rfl
  rw [e] at h3
  exact Lib.tabIs_of_head (g := (Tryz.prog.globalNamed "internal/strconv.uint64pow10").getD 0) (t := 240) (e := 89) (n := 20) (by kernel_rfl) (by kernel_rfl) (by kernel_rfl) (by kernel_rfl) (by kernel_rfl) (by kernel_rfl) h3
set_option maxRecDepth 100000 in
theorem fnScripts_lifted (os : Os) (started : os.Started) (H : Type) (enc : TypeId × Value → H) :
    ReturnsInHanded {} Tryz.checked os 9 .any (fun w args => (Rows.fnScriptsSpec.pre enc Tryz.prog Tryz.f9 Rows.fnScriptsRow.domain false w args ∧ laidMetH Tryz.prog Rows.fnScriptsRow.laid w) ∧ sizedMet enc Tryz.prog Tryz.f9 (OpenSpec.ofChange Rows.fnScriptsSpec) false w args)
      (Rows.fnScriptsSpec.post enc Tryz.prog Tryz.f9 false true false false) := by
  refine returnsInHanded_of_change_and (C := Tryz.checked) (X := fun w _ => laidMetH Tryz.prog Rows.fnScriptsRow.laid w) (fun _ _ _ hh h => h.of_heap hh) own_fnScripts started (by kernel_rfl) Tryz.func9
    (ChangeSpec.witness_shaped (enc := enc) (C := Tryz.checked) (os := os) (X := fun w _ => laidMetH Tryz.prog Rows.fnScriptsRow.laid w) false (World.laidAll Tryz.prog os Rows.fnScriptsRow.laid) #[(.slice none 0 0), (.slice none 0 0)] 8 (World.laidAll_os _ _ _)
      (World.shaped_of_ZipB (by kernel_rfl) (by kernel_rfl)) (by kernel_rfl) (by kernel_rfl) (by kernel_rfl)
      (by rw [MakeChecks.laidMetH_plain _ _ _ (by kernel_rfl)]; exact laidMet_laidAll _ (by kernel_rfl) (by kernel_rfl))) ?_
  intro W base args ds gs before hval0 hW hcnd hX1 hX2 hX3
  have hval : ∀ (j : Nat) t v, Tryz.f9.params[j]? = some t → args[j]? = some v → Value.okWide Tryz.prog W .any base t v := hval0
  have hW' := hW
  obtain ⟨p, q, hA0, hV, rfl, hfz, hnd⟩ := hW
  have hA : DataW.TrodAll enc Tryz.prog W 0 (fun _ => true) true Tryz.f9.params.toList args.toList ds p := hA0
  rw [Tryz.params9] at hA hval
  obtain ⟨w0, vs0, d0, ds0, p0, ps0, ea0, rfl, rfl, o0, hT0⟩ := trodAll_cons hA
  obtain ⟨w1, vs1, d1, ds1, p1, ps1, ea1, rfl, rfl, o1, hT1⟩ := trodAll_cons hT0
  subst ea1
  obtain ⟨rfl, rfl, rfl⟩ := trodAll_nil hT1
  obtain rfl : args = #[w0, w1] := by cases args; simp_all
  obtain ⟨rfl, rfl⟩ := trodVars_none hV
  obtain ⟨aa0, al0, ac0, rfl⟩ := okWide_slice Tryz.underlying46 (hval 0 46 _ rfl rfl)
  obtain ⟨fu0, kk0⟩ := o0
  have oo0 : DataW.Trod enc Tryz.prog W 0 (fun _ => true) true 46 _ d0 p0 := ⟨fu0, kk0⟩
  obtain ⟨x0, r0, g0⟩ := Af9.op kk0
  obtain ⟨v0_0, e0, h0_0⟩ := r0
  obtain rfl : _ = v0_0 := (List.cons.inj e0).1
  obtain ⟨aa1, al1, ac1, rfl⟩ := okWide_slice Tryz.underlying46 (hval 1 46 _ rfl rfl)
  obtain ⟨fu1, kk1⟩ := o1
  have oo1 : DataW.Trod enc Tryz.prog W 0 (fun _ => true) true 46 _ d1 p1 := ⟨fu1, kk1⟩
  obtain ⟨x1, r1, g1⟩ := Af9.op kk1
  obtain ⟨v1_0, e1, h1_0⟩ := r1
  obtain rfl : _ = v1_0 := (List.cons.inj e1).1
  clear hA0 hval0
  simp only [List.append_nil, List.append_assoc, List.nil_append] at hW'
  have hT : Tab W := (by first | exact tab_fnScripts hX1 | exact tab_fnScripts hX2 | exact tab_fnScripts hX3 | exact tab_fnScripts hcnd | exact tab_fnScripts hcnd.2)
  refine (UJ W hT _ _ h0_0 _ _ h1_0 true (UE x0 x1 g0 g1)).mono fun e W' he => ?_
  obtain ⟨he, hb⟩ := he
  subst he
  exact ⟨_, rfl, _, _, _, _, _, _, hW', trodAll_mk1 (shut_bool Tryz.underlying4 true), trodAll_cons_mk (Below.trod laidOut_fnScripts (by kernel_rfl) (of_decide_eq_true (by kernel_rfl)) oo0 hb fun x hx => hW'.lt x (by simp [hx])) (trodAll_mk1 (Below.trod laidOut_fnScripts (by kernel_rfl) (of_decide_eq_true (by kernel_rfl)) oo1 hb fun x hx => hW'.lt x (by simp [hx]))), by rfl, hb.frame _, fun h => by cases h⟩
theorem facts1_fnScripts : (Rows.fnScriptsRow.inPlace == Tryz.prog.inPlace 9) = true := by kernel_rfl
theorem facts2_fnScripts : (Rows.fnScriptsRow.unfollowed == Tryz.prog.unfollowed 9) = true := by kernel_rfl
theorem facts3_fnScripts : (Rows.fnScriptsRow.recurses == Tryz.prog.recurses 9) = true := by kernel_rfl
theorem facts4_fnScripts : (Rows.fnScriptsRow.named == Tryz.prog.varsNamed 9) = true := by kernel_rfl
theorem facts_fnScripts : joinedFacts Tryz.prog 9 Tryz.f9 Rows.fnScriptsSpec Rows.fnScriptsRow = true := by
  unfold joinedFacts
  rw [facts1_fnScripts, facts2_fnScripts, facts3_fnScripts, facts4_fnScripts]
  kernel_rfl
theorem fnScripts_holds : Rows.FnScriptsSaid :=
  OpenClaim.holds_of_wide 9 Tryz.f9 rfl rfl rfl rfl rfl rfl rfl ⟨rfl, rfl, rfl, rfl, rfl⟩ rfl rfl rfl rfl rfl (by kernel_rfl) Tryz.func9 facts_fnScripts
    (of_decide_eq_true (by kernel_rfl)) (by unfold Func.isWrapper; first | (rw [if_pos (by decide +kernel)]; kernel_rfl) | (rw [if_neg (by decide +kernel)]; exact ⟨rfl, rfl⟩))
    (fun os started H enc _ => fnScripts_lifted os started H enc)
theorem cd1_fnScripts : Rows.fnScriptsRow.wfByText (OpenSpec.ofChange Rows.fnScriptsSpec) = true := by kernel_rfl
theorem cd2_fnScripts : Tryz.prog.mainIs = some (true, ("23f0adf212c374381fc73e75323df59ab70978951982fe805c9250fa67119762" : String).toList) := by kernel_rfl
theorem cd3_fnScripts : Tryz.prog.funcNamed "loop.example/g00939/laws.FnScripts" = some 9 := by kernel_rfl
theorem cd4_fnScripts : false = Tryz.prog.looks [] := by kernel_rfl
theorem cd5_fnScripts : false = Rows.fnScriptsRow.goesBy Tryz.prog := by kernel_rfl
theorem cd6_fnScripts : ([46, 46].all fun u => !Tryz.prog.wantsStandIn u) = true := by kernel_rfl
theorem fnScriptsCard_holds : Rows.FnScriptsCardSaid :=
  Claim7.holds_tied_plain_at .later [] [.data, .data, .data, .data, .pinned] true (true, "23f0adf212c374381fc73e75323df59ab70978951982fe805c9250fa67119762") false fnScripts_holds (fun _ h => by cases h) cd1_fnScripts (fun _ h => by cases h) fnScripts_row_tie rfl ⟨rfl, rfl⟩ cd2_fnScripts rfl
    (fun f fn hf hfn => by
      obtain rfl : f = 9 := Option.some.inj (cd3_fnScripts.symm.trans hf) |>.symm
      obtain rfl : fn = Tryz.f9 := (Option.some.inj (Tryz.func9.symm.trans hfn)).symm
      exact ⟨cd4_fnScripts, fun j t ht => by
        rw [Tryz.params9] at ht
        have hm : t ∈ [46, 46] := by simpa using Array.mem_of_getElem? ht
        exact (show Tryz.prog.wantsStandIn t = false by simpa using List.all_eq_true.1 cd6_fnScripts t hm)⟩)
    cd5_fnScripts
end Go.Proofs.YtellehgihceicaaGreatDoor
