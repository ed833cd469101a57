/-
  THE LAWS' OWN FUNCTIONS: sizes, copies, comparisons; by program (harn.py).
-/
import Derived.Test.YtejhnpimhjmpdaaDoorPB2
import Derived.Test.YtejhnpimhjmpdaaDoorF
set_option linter.unusedVariables false
namespace Go.Proofs.YtejhnpimhjmpdaaDoor
open Go
def S_Cue (x : (Int × (List UInt8))) : Prop := anyG x.1 ∧ (allS anyG) x.2
theorem eq_Cue (x : (Int × (List UInt8))) (hs : S_Cue x) : F_laws_eqCue x x = some true := eqI (neI _) (eqI (neS _) (rfl))
theorem eq_CueS (x : (List (Int × (List UInt8)))) (hs : (allS S_Cue) x) : F_laws_eqCueS x x = some true := eqL (F_laws_eqCueS_L1 x x) x F_laws_eqCue (fun _ _ => rfl) (fun u hu => eq_Cue u hu) hs
theorem eq_Measure (x : (Int × Int)) (hs : anyG x) : F_laws_eqMeasure x x = some true := eqI (neI _) (eqI (neI _) (rfl))
theorem eq_MeasureS (x : (List (Int × Int))) (hs : (allS anyG) x) : F_laws_eqMeasureS x x = some true := eqL (F_laws_eqMeasureS_L1 x x) x F_laws_eqMeasure (fun _ _ => rfl) (fun u hu => eq_Measure u hu) hs
theorem sz_Cue (x : (Int × (List UInt8))) (n : Int) (hg : G_Cue x) (h0 : 0 ≤ n) (h1 : n ≤ 1048576) : Szd (F_laws_szCue x n) n (S_Cue x) :=
  Szd.imp (szI (g := some) h0 h1 hg.2 fun n h0 h1 => szE h0) fun h => ⟨trivial, h.1⟩
theorem sz_CueS (x : (List (Int × (List UInt8)))) (n : Int) (hg : (allG G_Cue) x) (h0 : 0 ≤ n) (h1 : n ≤ 1048576) : Szd (F_laws_szCueS x n) n ((allS S_Cue) x) := szL (F_laws_szCueS_L1 x) x F_laws_szCue (fun _ _ _ => rfl) (fun u n hu h0 h1 => sz_Cue u n hu h0 h1) n h0 h1 hg
theorem sz_MeasureS (x : (List (Int × Int))) (n : Int) (hg : (allG G_Measure) x) (h0 : 0 ≤ n) (h1 : n ≤ 1048576) : Szd (F_laws_szMeasureS x n) n ((allS anyG) x) := szNil x n h0 h1 hg
theorem to_Cue (x : (Int × (List UInt8))) (hs : S_Cue x) : F_laws_toCue x = some x := rfl
theorem to_CueS (x : (List (Int × (List UInt8)))) (hs : (allS S_Cue) x) : F_laws_toCueS x = some x := toL (F_laws_toCueS_L1 x) x F_laws_toCue (0, []) (fun _ _ _ => rfl) (fun u hu => to_Cue u hu) hs
theorem to_Measure (x : (Int × Int)) (hs : anyG x) : F_laws_toMeasure x = some x := rfl
theorem to_MeasureS (x : (List (Int × Int))) (hs : (allS anyG) x) : F_laws_toMeasureS x = some x := toL (F_laws_toMeasureS_L1 x) x F_laws_toMeasure (0, 0) (fun _ _ _ => rfl) (fun u hu => to_Measure u hu) hs
end Go.Proofs.YtejhnpimhjmpdaaDoor
