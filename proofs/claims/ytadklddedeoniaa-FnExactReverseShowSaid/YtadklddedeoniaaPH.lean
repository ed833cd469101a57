/-
  THE LAWS' OWN FUNCTIONS: sizes, copies, comparisons; by program (harn.py).
-/
import Derived.Test.YtadklddedeoniaaPB2
import Derived.Test.YtadklddedeoniaaF
import Derived.Test.YtadklddedeoniaaPTxt
set_option linter.unusedVariables false
namespace Go.Proofs.Ytadklddedeoniaa
open Go
def S_Cue (x : (Int × (List UInt8))) : Prop := anyG x.1 ∧ (allS anyG) x.2
theorem eq_Cue (x : (Int × (List UInt8))) (hs : S_Cue x) : F_laws_eqCue x x = some true := eqI (neI _) (eqI (neS _) (rfl))
theorem eq_CueS (x : (List (Int × (List UInt8)))) (hs : (allS S_Cue) x) : F_laws_eqCueS x x = some true := eqL (F_laws_eqCueS_L1 x x) x F_laws_eqCue (fun _ _ => rfl) (fun u hu => eq_Cue u hu) hs
theorem eq_IntS (x : (List Int)) (hs : (allS anyG) x) : F_laws_eqIntS x x = some true := eqLB neI (F_laws_eqIntS_L1 x x) x (fun _ _ => rfl) hs
def S_Show (x : ((List (List (Int × Int))) × (List Int) × Int × Int)) : Prop := (allS (allS anyG)) x.1 ∧ (allS anyG) x.2.1 ∧ anyG x.2.2.1 ∧ anyG x.2.2.2
def S_March (x : (((List (List (Int × Int))) × (List Int) × Int × Int) × Int × (List Int) × (List Int))) : Prop := S_Show x.1 ∧ anyG x.2.1 ∧ (allS anyG) x.2.2.1 ∧ (allS anyG) x.2.2.2
theorem eq_Spot (x : (Int × Int)) (hs : anyG x) : F_laws_eqSpot x x = some true := eqI (neI _) (eqI (neI _) (rfl))
theorem eq_SpotS (x : (List (Int × Int))) (hs : (allS anyG) x) : F_laws_eqSpotS x x = some true := eqL (F_laws_eqSpotS_L1 x x) x F_laws_eqSpot (fun _ _ => rfl) (fun u hu => eq_Spot u hu) hs
theorem eq_SpotSS (x : (List (List (Int × Int)))) (hs : (allS (allS anyG)) x) : F_laws_eqSpotSS x x = some true := eqL (F_laws_eqSpotSS_L1 x x) x F_laws_eqSpotS (fun _ _ => rfl) (fun u hu => eq_SpotS u hu) hs
theorem eq_Show (x : ((List (List (Int × Int))) × (List Int) × Int × Int)) (hs : S_Show x) : F_laws_eqShow x x = some true := eqS (eq_SpotSS x.1 hs.1) (eqS (eq_IntS x.2.1 hs.2.1) (eqI (neI _) (eqI (neI _) (rfl))))
theorem eq_March (x : (((List (List (Int × Int))) × (List Int) × Int × Int) × Int × (List Int) × (List Int))) (hs : S_March x) : F_laws_eqMarch x x = some true := eqS (eq_Show x.1 hs.1) (eqI (neI _) (eqS (eq_IntS x.2.2.1 hs.2.2.1) (eqS (eq_IntS x.2.2.2 hs.2.2.2) (rfl))))
theorem eq_Measure (x : (Int × Int)) (hs : anyG x) : F_laws_eqMeasure x x = some true := eqI (neI _) (eqI (neI _) (rfl))
theorem eq_MeasureS (x : (List (Int × Int))) (hs : (allS anyG) x) : F_laws_eqMeasureS x x = some true := eqL (F_laws_eqMeasureS_L1 x x) x F_laws_eqMeasure (fun _ _ => rfl) (fun u hu => eq_Measure u hu) hs
theorem eq_Move (x : ((Int × Int) × (Int × Int) × Int)) (hs : anyG x) : F_laws_eqMove x x = some true := eqS (eq_Spot x.1 trivial) (eqS (eq_Spot x.2.1 trivial) (eqI (neI _) (rfl)))
theorem eq_MoveS (x : (List ((Int × Int) × (Int × Int) × Int))) (hs : (allS anyG) x) : F_laws_eqMoveS x x = some true := eqL (F_laws_eqMoveS_L1 x x) x F_laws_eqMove (fun _ _ => rfl) (fun u hu => eq_Move u hu) hs
theorem sz_Cue (x : (Int × (List UInt8))) (n : Int) (hg : G_Cue x) (h0 : 0 ≤ n) (h1 : n ≤ 1048576) : Szd (F_laws_szCue x n) n (S_Cue x) :=
  Szd.imp (szI (g := some) h0 h1 hg.2 fun n h0 h1 => szE h0) fun h => ⟨trivial, h.1⟩
theorem sz_CueS (x : (List (Int × (List UInt8)))) (n : Int) (hg : (allG G_Cue) x) (h0 : 0 ≤ n) (h1 : n ≤ 1048576) : Szd (F_laws_szCueS x n) n ((allS S_Cue) x) := szL (F_laws_szCueS_L1 x) x F_laws_szCue (fun _ _ _ => rfl) (fun u n hu h0 h1 => sz_Cue u n hu h0 h1) n h0 h1 hg
theorem sz_IntS (x : (List Int)) (n : Int) (hg : (allG inI64) x) (h0 : 0 ≤ n) (h1 : n ≤ 1048576) : Szd (F_laws_szIntS x n) n ((allS anyG) x) := szNil x n h0 h1 hg
theorem sz_SpotS (x : (List (Int × Int))) (n : Int) (hg : (allG G_Spot) x) (h0 : 0 ≤ n) (h1 : n ≤ 1048576) : Szd (F_laws_szSpotS x n) n ((allS anyG) x) := szNil x n h0 h1 hg
theorem sz_SpotSS (x : (List (List (Int × Int)))) (n : Int) (hg : (allG (allG G_Spot)) x) (h0 : 0 ≤ n) (h1 : n ≤ 1048576) : Szd (F_laws_szSpotSS x n) n ((allS (allS anyG)) x) := szL (F_laws_szSpotSS_L1 x) x F_laws_szSpotS (fun _ _ _ => rfl) (fun u n hu h0 h1 => sz_SpotS u n hu h0 h1) n h0 h1 hg
theorem sz_Show (x : ((List (List (Int × Int))) × (List Int) × Int × Int)) (n : Int) (hg : G_Show x) (h0 : 0 ≤ n) (h1 : n ≤ 1048576) : Szd (F_laws_szShow x n) n (S_Show x) :=
  Szd.imp (szB (sz_SpotSS x.1 n hg.1 h0 h1) h1 fun n h0 h1 => szB (sz_IntS x.2.1 n hg.2.1 h0 h1) h1 fun n h0 h1 => szE h0) fun h => ⟨h.1, h.2.1, trivial, trivial⟩
theorem sz_March (x : (((List (List (Int × Int))) × (List Int) × Int × Int) × Int × (List Int) × (List Int))) (n : Int) (hg : G_March x) (h0 : 0 ≤ n) (h1 : n ≤ 1048576) : Szd (F_laws_szMarch x n) n (S_March x) :=
  Szd.imp (szB (sz_Show x.1 n hg.1 h0 h1) h1 fun n h0 h1 => szB (sz_IntS x.2.2.1 n hg.2.2.1 h0 h1) h1 fun n h0 h1 => szB (sz_IntS x.2.2.2 n hg.2.2.2 h0 h1) h1 fun n h0 h1 => szE h0) fun h => ⟨h.1, trivial, h.2.1, h.2.2.1⟩
theorem sz_MeasureS (x : (List (Int × Int))) (n : Int) (hg : (allG G_Measure) x) (h0 : 0 ≤ n) (h1 : n ≤ 1048576) : Szd (F_laws_szMeasureS x n) n ((allS anyG) x) := szNil x n h0 h1 hg
theorem to_Cue (x : (Int × (List UInt8))) (hs : S_Cue x) : F_laws_toCue x = some x := rfl
theorem to_CueS (x : (List (Int × (List UInt8)))) (hs : (allS S_Cue) x) : F_laws_toCueS x = some x := toL (F_laws_toCueS_L1 x) x F_laws_toCue (0, []) (fun _ _ _ => rfl) (fun u hu => to_Cue u hu) hs
theorem to_IntS (x : (List Int)) (hs : (allS anyG) x) : F_laws_toIntS x = some x := toL (F_laws_toIntS_L1 x) x some 0 (fun _ _ _ => rfl) (fun _ _ => rfl) hs
theorem to_Spot (x : (Int × Int)) (hs : anyG x) : F_laws_toSpot x = some x := rfl
theorem to_SpotS (x : (List (Int × Int))) (hs : (allS anyG) x) : F_laws_toSpotS x = some x := toL (F_laws_toSpotS_L1 x) x F_laws_toSpot (0, 0) (fun _ _ _ => rfl) (fun u hu => to_Spot u hu) hs
theorem to_SpotSS (x : (List (List (Int × Int)))) (hs : (allS (allS anyG)) x) : F_laws_toSpotSS x = some x := toL (F_laws_toSpotSS_L1 x) x F_laws_toSpotS [] (fun _ _ _ => rfl) (fun u hu => to_SpotS u hu) hs
theorem to_Show (x : ((List (List (Int × Int))) × (List Int) × Int × Int)) (hs : S_Show x) : F_laws_toShow x = some x := bindS (to_SpotSS x.1 hs.1) (bindS (to_IntS x.2.1 hs.2.1) (rfl))
theorem to_March (x : (((List (List (Int × Int))) × (List Int) × Int × Int) × Int × (List Int) × (List Int))) (hs : S_March x) : F_laws_toMarch x = some x := bindS (to_Show x.1 hs.1) (bindS (to_IntS x.2.2.1 hs.2.2.1) (bindS (to_IntS x.2.2.2 hs.2.2.2) (rfl)))
theorem to_Measure (x : (Int × Int)) (hs : anyG x) : F_laws_toMeasure x = some x := rfl
theorem to_MeasureS (x : (List (Int × Int))) (hs : (allS anyG) x) : F_laws_toMeasureS x = some x := toL (F_laws_toMeasureS_L1 x) x F_laws_toMeasure (0, 0) (fun _ _ _ => rfl) (fun u hu => to_Measure u hu) hs
theorem mk_CueS (x : (List (Int × (List UInt8)))) (hl : x.length < 4611686018427387904) (k : Int) (h0 : 0 ≤ k) (hb : k + 2 * x.length ≤ BIG) : ∃ k' x', F_laws_markCueS x k = some (k', x') ∧ k ≤ k' ∧ k' ≤ k + 2 * x.length ∧ x'.length = x.length := by
  exact markL0 (S := anyG) F_laws_markCueS_L1 2 x (fun m j cur k u hc hj hu _ h0 hb => by
    refine ⟨k + 2, (k, txt (k + 1)), by omega, by omega, ?_⟩
    rw [F_laws_markCueS_L1, if_pos (by simp; omega)]; simp only [idx_nat, seti_nat, hu, Option.bind_some, List.set_set, List.getElem?_set_self (show j < cur.length by omega), w64_succ (k := j) (by omega), w64_eq (x := k + 1) (by unfold BIG at *; omega) (by unfold BIG at *; omega), w64_eq (x := k + 1 + 1) (by unfold BIG at *; omega) (by unfold BIG at *; omega), txt_mark (k + 1) (by unfold BIG at *; omega)] <;> (congr 1 <;> omega))
    (fun m cur k hc => by rw [F_laws_markCueS_L1, if_neg (by simp; omega)]) hl (fun _ _ => trivial) k h0 hb
theorem mk_IntS (x : (List Int)) (hl : x.length < 4611686018427387904) (k : Int) (h0 : 0 ≤ k) (hb : k + 1 * x.length ≤ BIG) : ∃ k' x', F_laws_markIntS x k = some (k', x') ∧ k ≤ k' ∧ k' ≤ k + 1 * x.length ∧ x'.length = x.length ∧ F_laws_heldIntS x' k = some k' := by
  exact markL (S := anyG) F_laws_markIntS_L1 F_laws_heldIntS_L1 1 x (fun m j cur k u hc hj hu _ h0 hb => by
    refine ⟨k + 1, k, by omega, by omega, ?_, fun m' l' hl' hu' => ?_⟩
    · rw [F_laws_markIntS_L1, if_pos (by simp; omega)]; simp only [idx_nat, seti_nat, hu, Option.bind_some, List.set_set, List.getElem?_set_self (show j < cur.length by omega), w64_succ (k := j) (by omega), w64_eq (x := k + 1) (by unfold BIG at *; omega) (by unfold BIG at *; omega)] <;> (congr 1 <;> omega)
    · rw [F_laws_heldIntS_L1, if_pos (by simp; omega)]; simp only [idx_nat, hu', Option.bind_some, bne_self_eq_false, Bool.false_eq_true, if_false, w64_succ (k := j) (by omega), w64_eq (x := k + 1) (by unfold BIG at *; omega) (by unfold BIG at *; omega)] <;> (congr 1 <;> omega))
    (fun m cur k hc => by rw [F_laws_markIntS_L1, if_neg (by simp; omega)]) (fun l' m k hl' => by rw [F_laws_heldIntS_L1, if_neg (by simp; omega)]) hl (fun _ _ => trivial) k h0 hb
theorem mk_SpotS (x : (List (Int × Int))) (hl : x.length < 4611686018427387904) (k : Int) (h0 : 0 ≤ k) (hb : k + 2 * x.length ≤ BIG) : ∃ k' x', F_laws_markSpotS x k = some (k', x') ∧ k ≤ k' ∧ k' ≤ k + 2 * x.length ∧ x'.length = x.length ∧ F_laws_heldSpotS x' k = some k' := by
  exact markL (S := anyG) F_laws_markSpotS_L1 F_laws_heldSpotS_L1 2 x (fun m j cur k u hc hj hu _ h0 hb => by
    refine ⟨k + 2, (k, k + 1), by omega, by omega, ?_, fun m' l' hl' hu' => ?_⟩
    · rw [F_laws_markSpotS_L1, if_pos (by simp; omega)]; simp only [idx_nat, seti_nat, hu, Option.bind_some, List.set_set, List.getElem?_set_self (show j < cur.length by omega), w64_succ (k := j) (by omega), w64_eq (x := k + 1) (by unfold BIG at *; omega) (by unfold BIG at *; omega), w64_eq (x := k + 1 + 1) (by unfold BIG at *; omega) (by unfold BIG at *; omega)] <;> (congr 1 <;> omega)
    · rw [F_laws_heldSpotS_L1, if_pos (by simp; omega)]; simp only [idx_nat, hu', Option.bind_some, bne_self_eq_false, Bool.false_eq_true, if_false, w64_succ (k := j) (by omega), w64_eq (x := k + 1) (by unfold BIG at *; omega) (by unfold BIG at *; omega), w64_eq (x := k + 1 + 1) (by unfold BIG at *; omega) (by unfold BIG at *; omega)] <;> (congr 1 <;> omega))
    (fun m cur k hc => by rw [F_laws_markSpotS_L1, if_neg (by simp; omega)]) (fun l' m k hl' => by rw [F_laws_heldSpotS_L1, if_neg (by simp; omega)]) hl (fun _ _ => trivial) k h0 hb
theorem mk_SpotSS (x : (List (List (Int × Int)))) (hs : (allS (allS anyG)) x) (k : Int) (h0 : 0 ≤ k) (hb : k + 2199023255552 ≤ BIG) : ∃ k' x', F_laws_markSpotSS x k = some (k', x') ∧ k ≤ k' ∧ k' ≤ k + 2199023255552 ∧ F_laws_heldSpotSS x' k = some k' := by
  have hl := hs.1
  obtain ⟨k', x', a1, a2, a3, a4, a5⟩ := markL F_laws_markSpotSS_L1 F_laws_heldSpotSS_L1 2097152 x (fun m j cur k u hc hj hu hu2 h0 hb => by
    obtain ⟨k1, u', e1, e2, e3, e4, e5⟩ := mk_SpotS u (by have := hu2.1; omega) k h0 (by have := hu2.1; unfold BIG at *; omega)
    refine ⟨k1, u', e2, by have := hu2.1; omega, ?_, fun m' l' hl' hu' => ?_⟩
    · rw [F_laws_markSpotSS_L1, if_pos (by simp; omega), idx_nat, hu, Option.bind_some, e1, Option.bind_some, seti_nat, w64_succ (by omega)]
    · rw [F_laws_heldSpotSS_L1, if_pos (by simp; omega), idx_nat, hu', Option.bind_some, e5, Option.bind_some, if_neg (by simp; omega), w64_succ (by omega)])
    (fun m cur k hc => by rw [F_laws_markSpotSS_L1, if_neg (by simp; omega)]) (fun l' m k hl' => by rw [F_laws_heldSpotSS_L1, if_neg (by simp; omega)]) (by omega) hs.2 k h0 (by unfold BIG at *; omega)
  exact ⟨k', x', a1, a2, by omega, a5⟩
theorem mk_Show (x : ((List (List (Int × Int))) × (List Int) × Int × Int)) (hs : S_Show x) (k : Int) (h0 : 0 ≤ k) (hb : k + 2199024304128 ≤ BIG) : ∃ k' x', F_laws_markShow x k = some (k', x') ∧ k ≤ k' ∧ k' ≤ k + 2199024304128 ∧ F_laws_heldShow x' k = some k' := by
  obtain ⟨k0, u0, a0, b0, c0, e0⟩ := mk_SpotSS x.1 hs.1 k (by omega) (by unfold BIG at *; omega)
  have l1 := hs.2.1.1
  obtain ⟨k1, u1, a1, b1, c1, d1, e1⟩ := mk_IntS x.2.1 (by omega) k0 (by omega) (by unfold BIG at *; omega)
  refine ⟨k1, (u0, u1, x.2.2.1, x.2.2.2), ?_, by omega, by omega, ?_⟩
  · unfold F_laws_markShow
    rw [a0, Option.bind_some, a1, Option.bind_some] <;> rfl
  · unfold F_laws_heldShow
    rw [e0, Option.bind_some, if_neg (by simp; omega), e1, Option.bind_some, if_neg (by simp; omega)] <;> rfl
theorem mk_March (x : (((List (List (Int × Int))) × (List Int) × Int × Int) × Int × (List Int) × (List Int))) (hs : S_March x) (k : Int) (h0 : 0 ≤ k) (hb : k + 2199026401280 ≤ BIG) : ∃ k' x', F_laws_markMarch x k = some (k', x') ∧ k ≤ k' ∧ k' ≤ k + 2199026401280 ∧ F_laws_heldMarch x' k = some k' := by
  obtain ⟨k0, u0, a0, b0, c0, e0⟩ := mk_Show x.1 hs.1 k (by omega) (by unfold BIG at *; omega)
  replace e0 : F_laws_heldShow (u0.1, u0.2.1, x.1.2.2.1, x.1.2.2.2) k = some k0 := e0
  have l1 := hs.2.2.1.1
  obtain ⟨k1, u1, a1, b1, c1, d1, e1⟩ := mk_IntS x.2.2.1 (by omega) k0 (by omega) (by unfold BIG at *; omega)
  have l2 := hs.2.2.2.1
  obtain ⟨k2, u2, a2, b2, c2, d2, e2⟩ := mk_IntS x.2.2.2 (by omega) k1 (by omega) (by unfold BIG at *; omega)
  refine ⟨k2, ((u0.1, u0.2.1, x.1.2.2.1, x.1.2.2.2), x.2.1, u1, u2), ?_, by omega, by omega, ?_⟩
  · unfold F_laws_markMarch
    rw [a0, Option.bind_some, a1, Option.bind_some, a2, Option.bind_some] <;> rfl
  · unfold F_laws_heldMarch
    rw [e0, Option.bind_some, if_neg (by simp; omega), e1, Option.bind_some, if_neg (by simp; omega), e2, Option.bind_some, if_neg (by simp; omega)] <;> rfl
theorem mk_MeasureS (x : (List (Int × Int))) (hl : x.length < 4611686018427387904) (k : Int) (h0 : 0 ≤ k) (hb : k + 2 * x.length ≤ BIG) : ∃ k' x', F_laws_markMeasureS x k = some (k', x') ∧ k ≤ k' ∧ k' ≤ k + 2 * x.length ∧ x'.length = x.length := by
  exact markL0 (S := anyG) F_laws_markMeasureS_L1 2 x (fun m j cur k u hc hj hu _ h0 hb => by
    refine ⟨k + 2, (k, k + 1), by omega, by omega, ?_⟩
    rw [F_laws_markMeasureS_L1, if_pos (by simp; omega)]; simp only [idx_nat, seti_nat, hu, Option.bind_some, List.set_set, List.getElem?_set_self (show j < cur.length by omega), w64_succ (k := j) (by omega), w64_eq (x := k + 1) (by unfold BIG at *; omega) (by unfold BIG at *; omega), w64_eq (x := k + 1 + 1) (by unfold BIG at *; omega) (by unfold BIG at *; omega)] <;> (congr 1 <;> omega))
    (fun m cur k hc => by rw [F_laws_markMeasureS_L1, if_neg (by simp; omega)]) hl (fun _ _ => trivial) k h0 hb
theorem mk_MoveS (x : (List ((Int × Int) × (Int × Int) × Int))) (hl : x.length < 4611686018427387904) (k : Int) (h0 : 0 ≤ k) (hb : k + 5 * x.length ≤ BIG) : ∃ k' x', F_laws_markMoveS x k = some (k', x') ∧ k ≤ k' ∧ k' ≤ k + 5 * x.length ∧ x'.length = x.length ∧ F_laws_heldMoveS x' k = some k' := by
  exact markL (S := anyG) F_laws_markMoveS_L1 F_laws_heldMoveS_L1 5 x (fun m j cur k u hc hj hu _ h0 hb => by
    refine ⟨k + 5, ((k, k + 1), (k + 1 + 1, k + 1 + 1 + 1), k + 1 + 1 + 1 + 1), by omega, by omega, ?_, fun m' l' hl' hu' => ?_⟩
    · rw [F_laws_markMoveS_L1, if_pos (by simp; omega)]; simp only [idx_nat, seti_nat, hu, Option.bind_some, List.set_set, List.getElem?_set_self (show j < cur.length by omega), w64_succ (k := j) (by omega), w64_eq (x := k + 1) (by unfold BIG at *; omega) (by unfold BIG at *; omega), w64_eq (x := k + 1 + 1) (by unfold BIG at *; omega) (by unfold BIG at *; omega), w64_eq (x := k + 1 + 1 + 1) (by unfold BIG at *; omega) (by unfold BIG at *; omega), w64_eq (x := k + 1 + 1 + 1 + 1) (by unfold BIG at *; omega) (by unfold BIG at *; omega), w64_eq (x := k + 1 + 1 + 1 + 1 + 1) (by unfold BIG at *; omega) (by unfold BIG at *; omega)] <;> (congr 1 <;> omega)
    · rw [F_laws_heldMoveS_L1, if_pos (by simp; omega)]; simp only [idx_nat, hu', Option.bind_some, bne_self_eq_false, Bool.false_eq_true, if_false, w64_succ (k := j) (by omega), w64_eq (x := k + 1) (by unfold BIG at *; omega) (by unfold BIG at *; omega), w64_eq (x := k + 1 + 1) (by unfold BIG at *; omega) (by unfold BIG at *; omega), w64_eq (x := k + 1 + 1 + 1) (by unfold BIG at *; omega) (by unfold BIG at *; omega), w64_eq (x := k + 1 + 1 + 1 + 1) (by unfold BIG at *; omega) (by unfold BIG at *; omega), w64_eq (x := k + 1 + 1 + 1 + 1 + 1) (by unfold BIG at *; omega) (by unfold BIG at *; omega)] <;> (congr 1 <;> omega))
    (fun m cur k hc => by rw [F_laws_markMoveS_L1, if_neg (by simp; omega)]) (fun l' m k hl' => by rw [F_laws_heldMoveS_L1, if_neg (by simp; omega)]) hl (fun _ _ => trivial) k h0 hb
end Go.Proofs.Ytadklddedeoniaa
