/-
  THE LAW OF AddCue, PLAIN: it answers true.
-/
import Derived.Test.YtmbhdelegdhieaaPCueL
import Derived.Test.YtmbhdelegdhieaaPShift
set_option linter.unusedSimpArgs false
set_option linter.unusedVariables false
namespace Go.Proofs.Ytmbhdelegdhieaa
open Go
theorem P_laws_FnExactAddCue (x : MusicT) (l : List CueT) (c : CueT) (h : (allG G_Measure) x) (h' : (allG G_Cue) l) (h'' : G_Cue c) : F_laws_FnExactAddCue x l c = some true := by
  unfold F_laws_FnExactAddCue
  refine gate (sz_MeasureS x 1048576 h (by decide) (by decide)) (by decide) fun m h0 h1 hs => ?_
  refine gate (sz_CueS l m h' h0 h1) h1 fun m h0 h1 hs' => ?_
  refine gate (sz_Cue c m h'' h0 h1) h1 fun m h0 h1 hs'' => ?_
  have hl := S_lens hs hs'
  have hok : (addAns x l c).1.length ≤ 30 ∧ ∀ e ∈ (addAns x l c).1, e.2.length ≤ 8 := by unfold addAns; split; exact ifCues_ok _ _; simp
  have hx1 := hs.1
  have hl1 := hs'.1
  obtain ⟨k1, x1, e1, b1, c1, d1⟩ := mk_MeasureS x (by omega) 1 (by decide) (by unfold BIG; omega)
  obtain ⟨k2, x2, e2, b2, c2, d2, f2⟩ := mk_CueS l (by omega) k1 (by omega) (by unfold BIG; omega)
  obtain ⟨k3, x3, e3, b3, c3, d3, f3⟩ := mk_CueS (addAns x l c).1 (by omega) 1 (by decide) (by unfold BIG; omega)
  have h2 : ¬ k2 < 0 := by omega
  have h3 : ¬ k3 < 0 := by omega
  have q := eq_CueS (addAns x l c).1 ⟨by omega, fun e hc => ⟨trivial, by have := hok.2 e hc; omega, fun _ _ => trivial⟩⟩
  simp [to_MeasureS x hs, to_CueS l hs', to_Cue c hs'', spec_AddCue x l c hl (by have := hs''.2.1; omega), impl_AddCue x l c hl (by have := hs''.2.1; omega), eq_MeasureS x hs, eq_CueS l hs', jK1, q, e1, e2, e3, f3, h2, h3]
end Go.Proofs.Ytmbhdelegdhieaa
