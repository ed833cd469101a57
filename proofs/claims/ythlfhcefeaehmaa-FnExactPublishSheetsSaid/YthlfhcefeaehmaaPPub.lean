/-
  SHEETS PUBLISHED, PLAIN.
-/
import Derived.Test.YthlfhcefeaehmaaPSheet
import Derived.Test.YthlfhcefeaehmaaPShowL
set_option linter.unusedSimpArgs false
set_option linter.unusedVariables false
namespace Go.Proofs.Ythlfhcefeaehmaa
open Go
def sheetsOf (x : ShowT) : List SheetT := (List.range (firstLen' x)).map (sheetOf x)
def pubAns (x : ShowT) : List SheetT × Bool := if okShow x && decide ((unsafs x).length = 0) then (sheetsOf x, true) else ([], false)
theorem pub_loop (F : Nat → List SheetT → Int → Option (List SheetT × Bool)) (g : Int → Option SheetT) (x : ShowT) (c : List (Int × Int)) (hc : c.length = firstLen' x) (h12 : firstLen' x ≤ 12) (hg : ∀ i : Nat, i < firstLen' x → g (i : Int) = some (sheetOf x i))
    (hst : ∀ m s y, F (m + 1) s y = if (decide (y < (List.length c : Int))) = true then Option.bind (g y) fun u => Option.bind (app s [u]) fun v => F m v (w64 (y + 1)) else some (s, true)) : F FU [] 0 = some (sheetsOf x, true) := by
  unfold sheetsOf
  rw [loopMap F (firstLen' x) (sheetOf x) (fun s => some (s, true)) (by omega) (fun m s k hk hsl => ?_) (fun m s => ?_)]
  · rw [hst, if_pos (by simp; omega), hg k hk, Option.bind_some, app_ok (by simp; omega), Option.bind_some, w64_succ (by omega)]
  · rw [hst, if_neg (by simp; omega)]
theorem spec_PublishSheets (x : ShowT) (h : lensOk x) : F_spec_PublishSheets x = some (pubAns x) := by
  unfold F_spec_PublishSheets pubAns jK1
  dsimp only
  rw [spec_swGood x h.1 h.2.1 h.2.2, Option.bind_some]
  cases hs : okShow x with
  | false => simp
  | true =>
    have f := facts hs
    obtain ⟨c, hc, hl, _, h12⟩ := show_first f
    rw [spec_swUnsafe x f, Option.bind_some]
    by_cases h0 : (unsafs x).length = 0
    · rw [if_neg (by simp), if_neg (by simp [h0]), idx_zero, hc, Option.bind_some, pub_loop (F_spec_PublishSheets_L1 c x) (F_spec_shOf x.1 x.2.1) x c hl h12 (fun i hi => spec_shOf x f i hi) (fun m s y => by rw [F_spec_PublishSheets_L1])]
      simp [h0]
    · have : 0 < (unsafs x).length := by omega
      simp [h0, this]
theorem impl_PublishSheets (x : ShowT) (h : lensOk x) : F_impl_PublishSheets x = some (pubAns x) := by
  unfold F_impl_PublishSheets pubAns jK1
  dsimp only
  rw [impl_IsShow x h.1 h.2.1 h.2.2, Option.bind_some]
  cases hs : okShow x with
  | false => simp
  | true =>
    have f := facts hs
    obtain ⟨c, hc, hl, _, h12⟩ := show_first f
    rw [impl_unsafParts x f, Option.bind_some]
    by_cases h0 : (unsafs x).length = 0
    · rw [if_neg (by simp), if_neg (by simp [h0]), idx_zero, hc, Option.bind_some, pub_loop (F_impl_PublishSheets_L1 c x) (F_impl_sheetOf x.1 x.2.1) x c hl h12 (fun i hi => impl_sheetOf x f i hi) (fun m s y => by rw [F_impl_PublishSheets_L1])]
      simp [h0]
    · have : 0 < (unsafs x).length := by omega
      simp [h0, this]
theorem pubAns_S (x : ShowT) : allS S_Sheet (pubAns x).1 := by
  unfold pubAns
  cases hs : okShow x with
  | false => exact ⟨by simp, fun u hu => by simp at hu⟩
  | true =>
    have f := facts hs
    obtain ⟨c, hc, hl, _, h12⟩ := show_first f
    have n1 := f.n1
    have nc := f.nc
    by_cases h0 : (unsafs x).length = 0
    · rw [Bool.true_and, if_pos (by simp [h0])]
      refine ⟨by simp [sheetsOf]; omega, fun u hu => ?_⟩
      obtain ⟨i, _, rfl⟩ := List.mem_map.1 hu
      exact ⟨trivial, trivial, by simp [sheetOf, rowsOf]; omega, fun _ _ => trivial⟩
    · rw [Bool.true_and, if_neg (by simp [h0])]; exact ⟨by simp, fun u hu => by simp at hu⟩
theorem mk_SheetS (x : List SheetT) (hs : allS S_Sheet x) (k : Int) (h0 : 0 ≤ k) (hb : k + 3298540650496 ≤ BIG) : ∃ k' x', F_laws_markSheetS x k = some (k', x') ∧ k ≤ k' ∧ k' ≤ k + 3298540650496 ∧ F_laws_heldSheetS x' k = some k' := by
  have hl := hs.1
  obtain ⟨k', x', a1, a2, a3, a4, a5⟩ := markL F_laws_markSheetS_L1 F_laws_heldSheetS_L1 3145731 x (fun m j cur k u hc hj hu hu2 h0 hb => by
    have hr := hu2.2.2.1
    obtain ⟨k1, u', e1, e2, e3, e4, e5⟩ := mk_RowS u.2.2 (by omega) (k + 3) (by omega) (by unfold BIG at *; omega)
    have w1 : w64 (k + 1) = k + 1 := w64_eq (by unfold BIG at *; omega) (by unfold BIG at *; omega)
    have w2 : w64 (k + 1 + 1) = k + 1 + 1 := w64_eq (by unfold BIG at *; omega) (by unfold BIG at *; omega)
    have w3 : w64 (k + 1 + 1 + 1) = k + 3 := by rw [w64_eq (by unfold BIG at *; omega) (by unfold BIG at *; omega)]; omega
    refine ⟨k1, (k, (k + 1, k + 1 + 1), u'), by omega, by omega, ?_, fun m' l' hl' hu' => ?_⟩
    · rw [F_laws_markSheetS_L1, if_pos (by simp; omega)]
      simp only [idx_nat, seti_nat, hu, Option.bind_some, List.set_set, List.getElem?_set_self (show j < cur.length by omega), w64_succ (k := j) (by omega), w1, w2, w3, e1]
    · rw [F_laws_heldSheetS_L1, if_pos (by simp; omega)]
      simp only [idx_nat, hu', Option.bind_some, bne_self_eq_false, Bool.false_eq_true, if_false, w64_succ (k := j) (by omega), w1, w2, w3, e5]
      rw [if_neg (by simp; omega)])
    (fun m cur k hc => by rw [F_laws_markSheetS_L1, if_neg (by simp; omega)]) (fun l' m k hl' => by rw [F_laws_heldSheetS_L1, if_neg (by simp; omega)]) (by omega) hs.2 k h0 (by unfold BIG at *; omega)
  exact ⟨k', x', a1, a2, by omega, a5⟩
end Go.Proofs.Ythlfhcefeaehmaa
