/-
  SCRIPTS JOINED, PLAIN: lines counted.
-/
import Derived.Test.YtcndhhjolnebdaaDoorPB
import Derived.Test.YtcndhhjolnebdaaDoorF
set_option linter.unusedSimpArgs false
set_option linter.unusedVariables false
namespace Go.Proofs.YtcndhhjolnebdaaDoor
open Go
theorem joinS_take {α : Type} (l : List α) {k : Nat} (h : k ≤ l.length) : sl l 0 (k : Int) = some (l.take k) := sl_take l h
theorem joinS_drop {α : Type} (l : List α) {k : Nat} (h : k ≤ l.length) : sl l (k : Int) (List.length l : Int) = some (l.drop k) := by
  unfold sl
  rw [if_pos (by omega)]
  simp
theorem joinS_any {α : Type} (l : List α) {j k : Nat} (h : j ≤ k) (h2 : k ≤ l.length) : ∃ u, sl l (j : Int) (k : Int) = some u := by
  unfold sl
  rw [if_pos (by omega)]
  exact ⟨_, rfl⟩
theorem join_app {α : Type} {l m : List α} (h : l.length + m.length ≤ 1073741824) : app l m = some (l ++ m) := by
  unfold app
  rw [if_pos h]
def lines (l : List UInt8) : Nat := l.count 10
theorem ten : (10 : Int).toNat.toUInt8 = 10 := by decide
theorem idxB_split (l : List UInt8) : (idxB l 10 = -1 ∧ lines l = 0) ∨ ∃ A B, l = A ++ 10 :: B ∧ idxB l 10 = (A.length : Int) ∧ lines l = lines B + 1 := by
  have key : ∀ l : List UInt8, (idxB l 10 = -1 ∧ lines l = 0) ∨ ∃ A B, l = A ++ 10 :: B ∧ idxB l 10 = (A.length : Int) ∧ lines l = lines B + 1 := by
    intro l
    unfold idxB
    rw [ten]
    cases h : (List.range l.length).find? (fun i => l[i]? == some 10) with
    | none =>
      left
      refine ⟨rfl, ?_⟩
      unfold lines
      rw [List.count_eq_zero]
      intro hm
      obtain ⟨k, hk, e⟩ := List.getElem_of_mem hm
      have := List.find?_eq_none.1 h k (List.mem_range.2 hk)
      rw [List.getElem?_eq_getElem hk, e] at this
      simp at this
    | some i =>
      right
      have hp := List.find?_some h
      have hi : i < l.length := List.mem_range.1 (List.mem_of_find?_eq_some h)
      have he : l[i] = 10 := by
        rw [List.getElem?_eq_getElem hi] at hp
        simpa using hp
      have hfirst : (10 : UInt8) ∉ l.take i := by
        intro hm
        obtain ⟨k, hk, e⟩ := List.getElem_of_mem hm
        rw [List.getElem_take] at e
        have hk' : k < i := by simp at hk; omega
        have hk2 : k < l.length := by omega
        have := List.find?_range_eq_some.1 h
        have h3 := this.2.2 k hk'
        rw [List.getElem?_eq_getElem hk2, e] at h3
        simp at h3
      have hl : l = l.take i ++ 10 :: l.drop (i + 1) := by
        rw [← he, List.getElem_cons_drop, List.take_append_drop]
      refine ⟨l.take i, l.drop (i + 1), hl, by simp; omega, ?_⟩
      unfold lines
      conv => lhs; rw [hl]
      rw [List.count_append, List.count_cons, List.count_eq_zero.2 hfirst]
      simp
  exact key l
theorem index_nl (l : List UInt8) : F_strings_Index l [10] = some (idxB l 10) := by
  unfold F_strings_Index F_stringslite_Index F_stringslite_IndexByte jK1
  dsimp only
  by_cases h : l = [10]
  · subst h
    rfl
  · have h2 : ([10] == l) = false := by
      rw [beq_eq_false_iff_ne]
      exact fun e => h e.symm
    rw [if_neg (by simp), h2, if_neg (by simp), if_pos (by simp)]
    rfl
theorem count_nl (l : List UInt8) : F_strings_Count l [10] = some ((lines l : Nat) : Int) := by
  unfold F_strings_Count
  rw [if_neg (by simp), if_pos (by simp)]
  rfl
theorem split_nl (l : List UInt8) (hl : l.length ≤ 4194304) : ∃ r, F_strings_Split l [10] = some r ∧ r.length = lines l + 1 := by
  have hc : lines l ≤ l.length := List.count_le_length
  unfold F_strings_Split F_strings_genSplit jK1 jK3
  dsimp only
  have hn : minI ((lines l : Int) + 1) ((l.length : Int) + 1) = ((lines l + 1 : Nat) : Int) := by
    unfold minI
    split <;> omega
  rw [if_neg (by simp), if_neg (by simp), if_pos (by simp), count_nl, Option.bind_some, w64_eq (x := ((lines l : Nat) : Int) + 1) (by omega) (by omega), w64_eq (x := (List.length l : Int) + 1) (by omega) (by omega), hn, mkL_nat (by omega), Option.bind_some]
  have key : ∀ (d i m : Nat) (y : List UInt8) (L : List (List UInt8)), lines l - i = d → i ≤ lines l → d < m → lines y = d → L.length = lines l + 1 → y.length ≤ 4194304 →
      ∃ r, F_strings_genSplit_L1 ((lines l : Int) + 1) l [10] (fun y33 l34 y37 => Option.bind (idx l34 y37) fun u41 => Option.bind (sl (seti l34 y37 y33) 0 (w64 (y37 + 1))) fun u50 => some u50) 0 m y L (i : Int) = some r ∧ r.length = lines l + 1 := by
    intro d
    induction d with
    | zero =>
      intro i m y L hd hi hm hy hL hyl
      have : i = lines l := by omega
      subst this
      cases m with
      | zero => omega
      | succ m =>
        rw [F_strings_genSplit_L1, w64_eq (x := (List.length l : Int) + 1) (by omega) (by omega), hn, w64_eq (x := ((lines l + 1 : Nat) : Int) - 1) (by omega) (by omega), if_neg (by simp <;> omega), idx_lt (by omega), Option.bind_some, w64_succ (by omega), joinS_take _ (by simp [seti]; omega), Option.bind_some]
        exact ⟨_, rfl, by simp [seti]; omega⟩
    | succ d ih =>
      intro i m y L hd hi hm hy hL hyl
      cases m with
      | zero => omega
      | succ m =>
        rcases idxB_split y with ⟨_, h0⟩ | ⟨A, B, e, hx, hb⟩
        · omega
        · have hlen : y.length = A.length + (B.length + 1) := by rw [e]; simp
          rw [F_strings_genSplit_L1, w64_eq (x := (List.length l : Int) + 1) (by omega) (by omega), hn, w64_eq (x := ((lines l + 1 : Nat) : Int) - 1) (by omega) (by omega), if_pos (by simp <;> omega), index_nl, Option.bind_some, hx, if_neg (by simp), w64_eq (x := (A.length : Int) + 0) (by omega) (by omega), Int.add_zero, joinS_take _ (by omega), Option.bind_some, idx_lt (by omega), Option.bind_some]
          rw [show (List.length ([10] : List UInt8) : Int) = 1 by rfl, w64_succ (by omega), joinS_drop _ (by omega), Option.bind_some, w64_succ (by omega)]
          have hB : y.drop (A.length + 1) = B := by rw [e, show A ++ 10 :: B = (A ++ [10]) ++ B by simp]; exact List.drop_left' (by simp)
          rw [hB]
          exact ih (i + 1) m B _ (by omega) (by omega) (by omega) (by omega) (by simp [seti]; exact hL) (by omega)
  obtain ⟨r, hr, hrl⟩ := key (lines l) 0 FU l (List.replicate (lines l + 1) []) (by omega) (by omega) (FU_gt (by omega)) rfl (by simp) hl
  rw [show ((0 : Nat) : Int) = 0 by rfl] at hr
  rw [hr]
  exact ⟨r, rfl, hrl⟩
theorem split_spec (l : List UInt8) (hl : l.length ≤ 4194304) : ∃ r, F_spec_l1Split l 10 = some r ∧ r.length = lines l + 1 := by
  unfold F_spec_l1Split
  have key : ∀ (d k m from_ : Nat) (s : List (List UInt8)), l.length - k = d → k ≤ l.length → d < m → from_ ≤ k → s.length = lines (l.take k) → ∃ r, F_spec_l1Split_L1 l 10 m s (from_ : Int) (k : Int) = some r ∧ r.length = lines l + 1 := by
    intro d
    induction d with
    | zero =>
      intro k m fr s hd hk hm hf hs
      have : k = l.length := by omega
      subst this
      rw [List.take_length] at hs
      have hc : lines l ≤ l.length := List.count_le_length
      cases m with
      | zero => omega
      | succ m =>
        rw [F_spec_l1Split_L1, if_neg (by simp), joinS_drop _ (by omega), Option.bind_some, join_app (by simp; omega), Option.bind_some]
        exact ⟨_, rfl, by simp; omega⟩
    | succ d ih =>
      intro k m fr s hd hk hm hf hs
      have hlt : k < l.length := by omega
      have hc : lines (l.take k) ≤ (l.take k).length := List.count_le_length
      have hck : (l.take k).length ≤ k := List.length_take_le k l
      have ht : lines (l.take (k + 1)) = lines (l.take k) + (if l[k] = 10 then 1 else 0) := by
        unfold lines
        rw [List.take_add_one, List.getElem?_eq_getElem hlt, List.count_append]
        by_cases h : l[k] = 10 <;> simp [h]
      cases m with
      | zero => omega
      | succ m =>
        rw [F_spec_l1Split_L1, if_pos (by simp; omega)]
        unfold jK2
        dsimp only
        rw [idx_lt hlt, Option.bind_some]
        by_cases h : l[k] = 10
        · obtain ⟨u, hu⟩ := joinS_any l hf hk
          rw [h, if_pos (by decide), hu, Option.bind_some, join_app (by simp; omega), Option.bind_some, w64_succ (by omega)]
          exact ih (k + 1) m (k + 1) _ (by omega) (by omega) (by omega) (by omega) (by rw [ht, if_pos h]; simp; omega)
        · have hne : ((l[k].toNat : Nat) : Int) ≠ 10 := fun e => h (by
            have : l[k].toNat = 10 := by omega
            exact UInt8.toNat_inj.1 (by rw [this]; rfl))
          rw [if_neg (by simpa using hne), w64_succ (by omega)]
          exact ih (k + 1) m fr s (by omega) (by omega) (by omega) (by omega) (by rw [ht, if_neg h]; simpa using hs)
  exact key l.length 0 FU 0 [] rfl (by omega) (FU_gt (by omega)) (by omega) (by simp [lines])
/-- Is it a script? -/
def okScript (l : List UInt8) : Bool := decide (l.length ≤ 2000) && (decide (l = []) || decide (l.getLast? = some 10)) && decide (lines l ≤ 40)
theorem last_of {l : List UInt8} (h : l ≠ []) : ∃ b, idx l ((l.length : Int) - 1) = some b ∧ l.getLast? = some b ∧ l = l.take (l.length - 1) ++ [b] := by
  have hl : 0 < l.length := List.length_pos_iff.2 h
  have hlt : l.length - 1 < l.length := by omega
  refine ⟨l[l.length - 1], ?_, ?_, ?_⟩
  · rw [show (l.length : Int) - 1 = ((l.length - 1 : Nat) : Int) by omega, idx_lt hlt]
  · rw [List.getLast?_eq_getElem?, List.getElem?_eq_getElem hlt]
  · conv => lhs; rw [← List.take_append_drop (l.length - 1) l]
    rw [List.drop_eq_getElem_cons hlt, List.drop_eq_nil_of_le (by omega)]
theorem spec_csLines (l : List UInt8) (hl : l.length ≤ 4194304) : ∃ r, F_spec_csLines l = some (r, okScript l) := by
  unfold F_spec_csLines jK1 okScript
  dsimp only
  by_cases h1 : l.length ≤ 2000
  · rw [if_neg (by simp; omega)]
    have fin : ∃ r, (Option.bind (F_spec_l1Split l 10) fun u14 => Option.bind (sl u14 0 (w64 ((List.length u14 : Int) - 1))) fun u23 => (if (decide (40 < (List.length u23 : Int))) = true then some (([] : List (List UInt8)), false) else some (u23, true))) = some (r, decide (lines l ≤ 40)) := by
      obtain ⟨r, hr, hrl⟩ := split_spec l hl
      have hc : lines l ≤ l.length := List.count_le_length
      rw [hr, Option.bind_some, w64_eq (by omega) (by omega), show ((r.length : Int) - 1) = ((lines l : Nat) : Int) by omega, joinS_take _ (by omega), Option.bind_some]
      by_cases h3 : lines l ≤ 40
      · rw [if_neg (by simp; omega)]; exact ⟨r.take (lines l), by simp [h3]⟩
      · rw [if_pos (by simp; omega)]; exact ⟨[], by simp [h3]⟩
    obtain ⟨r, hr⟩ := fin
    by_cases h2 : l = []
    · rw [if_neg (by simp [h2]), if_neg (by simp), hr]
      exact ⟨r, by simp [h2]⟩
    · obtain ⟨b, hb, hg, _⟩ := last_of h2
      rw [if_pos (by simp [h2]), w64_eq (by omega) (by omega), hb, Option.bind_some, hg]
      by_cases h4 : b = 10
      · subst h4
        rw [if_neg (by decide), hr]
        exact ⟨r, by simp [h1]⟩
      · have hne : ((b.toNat : Nat) : Int) ≠ 10 := fun e => h4 (by
          have : b.toNat = 10 := by omega
          exact UInt8.toNat_inj.1 (by rw [this]; rfl))
        rw [if_pos (by simpa using hne)]
        exact ⟨[], by simp [h2, h4]⟩
  · rw [if_pos (by simp; omega)]
    exact ⟨[], by simp [h1]⟩
theorem impl_scriptLines (l : List UInt8) (hl : l.length ≤ 4194304) : ∃ r, F_impl_scriptLines l = some (r, okScript l) := by
  unfold F_impl_scriptLines F_impl_linesOf jK1 okScript
  dsimp only
  by_cases h2 : l = []
  · subst h2
    exact ⟨[], by simp [lines]⟩
  · obtain ⟨b, hb, hg, e⟩ := last_of h2
    have hp : 0 < l.length := List.length_pos_iff.2 h2
    rw [if_neg (by simpa using h2), w64_eq (by omega) (by omega), hb, Option.bind_some, hg]
    by_cases h4 : b = 10
    · subst h4
      obtain ⟨r, hr, hrl⟩ := split_nl (l.take (l.length - 1)) (by simp; omega)
      have hcnt : lines l = lines (l.take (l.length - 1)) + 1 := by
        unfold lines
        conv => lhs; rw [e]
        rw [List.count_append]
        simp
      rw [if_neg (by decide), show (l.length : Int) - 1 = ((l.length - 1 : Nat) : Int) by omega, joinS_take _ (by omega), Option.bind_some, hr, Option.bind_some, Option.bind_some]
      by_cases h1 : l.length ≤ 2000
      · by_cases h3 : lines l ≤ 40
        · rw [if_neg (by simp), if_neg (by simp; omega), if_neg (by simp; omega)]
          exact ⟨r, by simp [h1, h3]⟩
        · rw [if_neg (by simp), if_neg (by simp; omega), if_pos (by simp; omega)]
          exact ⟨[], by simp [h3]⟩
      · rw [if_neg (by simp), if_pos (by simp; omega), if_pos rfl]
        exact ⟨[], by simp [h1]⟩
    · have hne : ((b.toNat : Nat) : Int) ≠ 10 := fun e => h4 (by
        have : b.toNat = 10 := by omega
        exact UInt8.toNat_inj.1 (by rw [this]; rfl))
      rw [if_pos (by simpa using hne), Option.bind_some, if_pos (by simp), if_pos rfl]
      exact ⟨[], by simp [h2, h4]⟩
def joinAns (a b : List UInt8) : List UInt8 × Bool := if okScript a && okScript b && okScript (a ++ b) then (a ++ b, true) else ([], false)
theorem spec_JoinScripts (a b : List UInt8) (ha : a.length ≤ 1048576) (hb : b.length ≤ 1048576) : F_spec_JoinScripts a b = some (joinAns a b) := by
  unfold F_spec_JoinScripts joinAns jK1
  dsimp only
  obtain ⟨r1, h1⟩ := spec_csLines a (by omega)
  obtain ⟨r2, h2⟩ := spec_csLines b (by omega)
  obtain ⟨r3, h3⟩ := spec_csLines (a ++ b) (by simp; omega)
  rw [h1, Option.bind_some, h2, Option.bind_some, join_app (by omega), Option.bind_some, h3, Option.bind_some]
  cases okScript a <;> cases okScript b <;> cases okScript (a ++ b) <;> simp
theorem impl_JoinScripts (a b : List UInt8) (ha : a.length ≤ 1048576) (hb : b.length ≤ 1048576) : F_impl_JoinScripts a b = some (joinAns a b) := by
  unfold F_impl_JoinScripts joinAns jK1
  dsimp only
  obtain ⟨r1, h1⟩ := impl_scriptLines a (by omega)
  obtain ⟨r2, h2⟩ := impl_scriptLines b (by omega)
  obtain ⟨r3, h3⟩ := impl_scriptLines (a ++ b) (by simp; omega)
  rw [h1, Option.bind_some, h2, Option.bind_some, join_app (by omega), Option.bind_some, h3, Option.bind_some]
  cases okScript a <;> cases okScript b <;> cases okScript (a ++ b) <;> simp
end Go.Proofs.YtcndhhjolnebdaaDoor
