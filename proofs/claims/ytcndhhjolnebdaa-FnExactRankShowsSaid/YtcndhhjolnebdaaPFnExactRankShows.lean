/-
  THE LAW OF RankShows, PLAIN: it answers true.
-/
import Derived.Test.YtcndhhjolnebdaaPShowL
import Derived.Test.YtcndhhjolnebdaaPRank
set_option linter.unusedSimpArgs false
set_option linter.unusedVariables false
namespace Go.Proofs.Ytcndhhjolnebdaa
open Go
theorem P_laws_FnExactRankShows (x : List ShowT) (gx : (allG G_Show) x) : F_laws_FnExactRankShows x = some true := by
  unfold F_laws_FnExactRankShows
  refine gate (sz_ShowS x 1048576 gx (by decide) (by decide)) (by decide) fun m h0 h1 sx => ?_
  obtain ⟨k1, x1, e1, b1, c1⟩ := mk_ShowS x sx 1 (by decide) (by unfold BIG; omega)
  have hk : ¬ k1 < 0 := by omega
  have hlen : (rankAns x).1.length ≤ 1048576 := by have := rankAns_len x; omega
  obtain ⟨kr, xr, er, br, cr, dr, fr⟩ := mk_IntS (rankAns x).1 (by omega) 1 (by decide) (by unfold BIG; omega)
  have q := eq_IntS (rankAns x).1 ⟨hlen, fun _ _ => trivial⟩
  have hkr : ¬ kr < 0 := by omega
  simp [jK1, to_ShowS x sx, eq_ShowS x sx, spec_RankShows x (fun u hu => S_lensOk (sx.2 u hu)) sx.1, impl_RankShows x (fun u hu => S_lensOk (sx.2 u hu)) sx.1, e1, q, er, fr, hk, hkr]
end Go.Proofs.Ytcndhhjolnebdaa
