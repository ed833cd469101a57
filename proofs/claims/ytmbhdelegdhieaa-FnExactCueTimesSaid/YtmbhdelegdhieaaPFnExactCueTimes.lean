/-
  THE LAW OF CueTimes, PLAIN: it answers true.
-/
import Derived.Test.YtmbhdelegdhieaaPCueL
set_option linter.unusedSimpArgs false
set_option linter.unusedVariables false
namespace Go.Proofs.Ytmbhdelegdhieaa
open Go
def timesAns (x : MusicT) (l : List CueT) : List Int × Bool := if okBoth x l then (timesC x l, true) else ([], false)
theorem spec_CueTimes (x : MusicT) (l : List CueT) (h : CueLens x l) : F_spec_CueTimes x l = some (timesAns x l) := by
  unfold F_spec_CueTimes timesAns
  rw [spec_tiGood x l h, Option.bind_some]
  cases hb : okBoth x l with
  | false => simp
  | true => simp [spec_tiTimes x l (both_music hb) h.hl]
theorem impl_CueTimes (x : MusicT) (l : List CueT) (h : CueLens x l) : F_impl_CueTimes x l = some (timesAns x l) := by
  unfold F_impl_CueTimes timesAns
  rw [impl_haveCues x l h, Option.bind_some]
  cases hb : okBoth x l with
  | false => simp
  | true => simp [impl_cueTimes x l (both_music hb) h.hl]
theorem timesAns_len (x : MusicT) (l : List CueT) (h : l.length ≤ 1048576) : (timesAns x l).1.length ≤ 1048576 := by
  unfold timesAns timesC
  split <;> simp
  exact h
theorem P_laws_FnExactCueTimes (x : MusicT) (l : List CueT) (h : (allG G_Measure) x) (h' : (allG G_Cue) l) : F_laws_FnExactCueTimes x l = some true := by
  unfold F_laws_FnExactCueTimes
  refine gate (sz_MeasureS x 1048576 h (by decide) (by decide)) (by decide) fun m h0 h1 hs => ?_
  refine gate (sz_CueS l m h' h0 h1) h1 fun m h0 h1 hs' => ?_
  have hl := S_lens hs hs'
  have hlen := timesAns_len x l hs'.1
  have hx1 := hs.1
  have hl1 := hs'.1
  obtain ⟨k1, x1, e1, b1, c1, d1⟩ := mk_MeasureS x (by omega) 1 (by decide) (by unfold BIG; omega)
  obtain ⟨k2, x2, e2, b2, c2, d2, f2⟩ := mk_CueS l (by omega) k1 (by omega) (by unfold BIG; omega)
  obtain ⟨k3, x3, e3, b3, c3, d3, f3⟩ := mk_IntS (timesAns x l).1 (by omega) 1 (by decide) (by unfold BIG; omega)
  have h2 : ¬ k2 < 0 := by omega
  have h3 : ¬ k3 < 0 := by omega
  have q := eq_IntS (timesAns x l).1 ⟨hlen, fun _ _ => trivial⟩
  simp [to_MeasureS x hs, to_CueS l hs', spec_CueTimes x l hl, impl_CueTimes x l hl, eq_MeasureS x hs, eq_CueS l hs', jK1, q, e1, e2, e3, f3, h2, h3]
end Go.Proofs.Ytmbhdelegdhieaa
