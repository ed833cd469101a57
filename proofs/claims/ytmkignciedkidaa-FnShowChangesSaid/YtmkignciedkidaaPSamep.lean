/-
  THE DRAWN LAWS' OWN COMPARISONS, PLAIN: a thing is the same as itself.
-/
import Derived.Test.YtmkignciedkidaaPDraw
import Derived.Test.YtmkignciedkidaaPRun
set_option linter.unusedSimpArgs false
set_option linter.unusedVariables false
namespace Go.Proofs.Ytmkignciedkidaa
open Go
theorem p_Ints (x : List Int) (hs : x.length ≤ 1048576) : F_laws_sameInts x x = some true := eqLB neI (F_laws_sameInts_L1 x x) x (fun _ _ => rfl) (S := anyG) ⟨hs, fun _ _ => trivial⟩
theorem p_Lists (x : List (List Int)) (hs : x.length ≤ 1048576) (h : ∀ u ∈ x, u.length ≤ 1048576) : F_laws_sameLists x x = some true :=
  eqL (F_laws_sameLists_L1 x x) x F_laws_sameInts (fun _ _ => rfl) (S := fun u => u.length ≤ 1048576) (fun u hu => p_Ints u hu) ⟨hs, h⟩
theorem p_Spots (x : List (Int × Int)) (hs : x.length ≤ 1048576) : F_laws_pSameSpots x x = some true :=
  eqL (F_laws_pSameSpots_L1 x x) x (fun u v => some (eqv_Spot u v)) (fun _ _ => rfl) (S := anyG) (fun u _ => by simp [eqv_Spot]) ⟨hs, fun _ _ => trivial⟩
theorem p_Charts (x : List (List (Int × Int))) (hs : x.length ≤ 1048576) (h : ∀ u ∈ x, u.length ≤ 1048576) : F_laws_pSameCharts x x = some true :=
  eqL (F_laws_pSameCharts_L1 x x) x F_laws_pSameSpots (fun _ _ => rfl) (S := fun u => u.length ≤ 1048576) (fun u hu => p_Spots u hu) ⟨hs, h⟩
def smallShow (x : ShowT) : Prop := x.1.length ≤ 1048576 ∧ (∀ c ∈ x.1, c.length ≤ 1048576) ∧ x.2.1.length ≤ 1048576
theorem p_Show (x : ShowT) (h : smallShow x) : F_laws_pSameShow x x = some true := by
  unfold F_laws_pSameShow jK1
  dsimp only
  rw [p_Charts _ h.1 h.2.1, Option.bind_some, if_pos rfl, p_Ints _ h.2.2, Option.bind_some, if_pos rfl]
  simp
theorem small_ok {x : ShowT} (h : okShow x = true) : smallShow x := by
  have f := facts h
  have h1 := f.n1
  have h2 := f.nc
  exact ⟨by omega, fun c hc => by have := (f.cl c hc).2; omega, by omega⟩
theorem short_lens_of {x : ShowT} (h : okShow x = true) : lensOk x := by
  have s := small_ok h
  exact ⟨by have := s.1; omega, fun c hc => by have := s.2.1 c hc; omega, by have := s.2.2; omega⟩
theorem small_nil : smallShow (([], [], 0, 0) : ShowT) := by unfold smallShow; simp
theorem p_In (x : List Int) (n : Int) (hs : x.length < 4611686018427387904) : F_laws_pIn x n = some (decide (n ∈ x)) := by
  unfold F_laws_pIn
  rw [loopL (F_laws_pIn_L1 x n) x (fun u => u != n) (some false) (some true) hs (fun m k u hk hu => ?_) (fun m => ?_)]
  · by_cases h : n ∈ x
    · rw [if_neg (fun h2 => by have := List.all_eq_true.1 h2 n h; simp at this)]
      simp [h]
    · rw [if_pos (List.all_eq_true.2 fun u hu => by simp; intro e; exact h (e ▸ hu))]
      simp [h]
  · rw [F_laws_pIn_L1, if_pos (by simp; omega), idx_nat, hu, Option.bind_some, w64_succ (by omega)]
    by_cases e : u = n <;> simp [e]
  · rw [F_laws_pIn_L1, if_neg (by simp)]
theorem big_tot {β : Type} (x y : List Int) {f : Bool → Option β} {Q : β → Prop} (h : ∀ b, Tot (f b) Q) : Tot (Option.bind (F_laws_big x y) f) Q := by
  unfold F_laws_big jK1
  dsimp only
  refine Tot.bind (P := fun _ => True) ?_ fun b _ => h b
  split
  · exact Tot.some trivial
  · exact Tot.some trivial
theorem mem_filt {p : Nat → Bool} {n k : Nat} (hk : k < n) : (k : Int) ∈ filt p n ↔ p k = true := by
  unfold filt
  simp only [List.mem_map, List.mem_filter, List.mem_range]
  constructor
  · rintro ⟨j, ⟨h1, h2⟩, e⟩
    have : j = k := by omega
    rwa [← this]
  · intro h
    exact ⟨k, ⟨hk, h⟩, rfl⟩
theorem filt_of_mem {p : Nat → Bool} {n : Nat} {i : Int} (h : i ∈ filt p n) : ∃ k : Nat, i = (k : Int) ∧ k < n ∧ p k = true := by
  unfold filt at h
  simp only [List.mem_map, List.mem_filter, List.mem_range] at h
  obtain ⟨k, ⟨h1, h2⟩, e⟩ := h
  exact ⟨k, e.symm, h1, h2⟩
end Go.Proofs.Ytmkignciedkidaa
