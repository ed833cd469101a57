/-
  CORE, 16: a slice whose elements own memory, as a slice of raw cells: its cells may be moved about. Over any program.
-/
import Derived.Test.YtmkignciedkidaaCore15
set_option linter.unusedSimpArgs false
set_option linter.unusedVariables false
namespace Go.Proofs.Ytmkignciedkidaa
open Go Go.RowKit
variable {P : Program} {α : Type} {n : Nat} {w w0 : World} {L M : List Res}
def encR (x : RawCell) : List Value := [x.1]
theorem Z3.rev {A B C : Type} {R : A → B → C → Prop} : ∀ {xs : List A} {ys : List B} {zs : List C}, Z3 R xs ys zs → Z3 R xs.reverse ys.reverse zs.reverse
  | [], [], [], _ => trivial
  | a :: xs, b :: ys, c :: zs, hz => by
    rw [List.reverse_cons, List.reverse_cons, List.reverse_cons]
    exact Z3.app (Z3.rev hz.2) ⟨hz.1, trivial⟩
  | [], [], _ :: _, hz => hz.elim
  | [], _ :: _, _, hz => hz.elim
  | _ :: _, [], _, hz => hz.elim
  | _ :: _, _ :: _, [], hz => hz.elim
theorem raw_of : ∀ (css : List (List Value)), (∀ c ∈ css, c.length = 1 ∧ ∀ u ∈ c, u.oneCell' = true) → ∃ ρ : List RawCell, ρ.map encR = css := by
  intro css
  induction css with
  | nil => intro _; exact ⟨[], rfl⟩
  | cons c css ih =>
    intro h
    obtain ⟨ρ, hρ⟩ := ih fun d hd => h d (by simp [hd])
    obtain ⟨h1, h2⟩ := h c (by simp)
    match c, h1, h2 with
    | [u], _, h2 => exact ⟨⟨u, h2 u (by simp)⟩ :: ρ, by rw [List.map_cons, hρ]; rfl⟩
theorem Sep.permF {base : Nat} {r r' : Res} (h : Sep base w (r :: M)) (hp : r'.fp.Perm r.fp) (hk : ∀ w, r.ok w → r'.ok w) : Sep base w (r' :: M) := by
  obtain ⟨h1, h2⟩ := h
  have g := h1 r (by simp)
  cases h2 with
  | cons hd ht =>
    refine ⟨fun s hs => ?_, .cons (fun s hs b hb => hd s hs b (hp.mem_iff.1 hb)) ht⟩
    cases hs with
    | head => exact ⟨hp.nodup_iff.2 g.1, fun b hb => g.2.1 b (hp.mem_iff.1 hb), fun w' hw => hk _ (g.2.2 w' fun b hb => hw b (hp.mem_iff.2 hb))⟩
    | tail _ hs => exact h1 s (.tail _ hs)
/-- The slice as raw cells, and what the cells own apart. -/
theorem Sep.toRaw {e : Ty P α} {er : Ty P RawCell} (he : Flat er encR) (htid : er.tid = e.tid) (hsz : e.sz = 1) (hszr : er.sz = 1) {base : Nat} {F : List Nat} {v : Value} {l : List α} (h : Sep base w (R.own e F v l :: M)) :
    ∃ (F1 : List Nat) (ρ : List RawCell) (bag : Res), ρ.length = l.length ∧ l.length ≤ maxLen ∧ Sep base w (R.own er F1 v ρ :: bag :: M) ∧
      ∀ {base' : Nat} {w' : World} {N : List Res}, Sep base' w' (R.own er F1 v ρ.reverse :: bag :: N) → ∃ F', Sep base' w' (R.own e F' v l.reverse :: N) := by
  have ho : ownS e F w v l := h.ok (i := 0) rfl
  rcases ho with ⟨rfl, rfl, rfl⟩ | ⟨g, cap, cur, css, Fs, hv, hgg, hnn, hm, hc, ht, hz, rfl⟩
  · refine ⟨[], [], ⟨[], fun _ => True⟩, rfl, Nat.zero_le _, h.split2 (r1 := R.own er [] (.slice none 0 0) []) (r2 := ⟨[], fun _ => True⟩) rfl (fun w' _ => .inl ⟨rfl, rfl, rfl⟩) (fun _ _ => trivial), fun {base' w' N} h' => ⟨[], ?_⟩⟩
    exact h'.merge (r := R.own e [] (.slice none 0 0) []) rfl fun _ _ _ => .inl ⟨rfl, rfl, rfl⟩
  · have hcl := hz.sz
    obtain ⟨ρ, hρ⟩ := raw_of css fun c hcm => by
      obtain ⟨k, hk⟩ := List.getElem?_of_mem hcm
      have hlt : k < l.length := by rw [← hz.len.2]; exact (List.getElem?_eq_some_iff.1 hk).1
      obtain ⟨a, b, _, h2, h3⟩ := hz.get k l[k] (by simp [hlt])
      rw [hk] at h2
      cases h2
      exact ⟨by rw [hcl c hcm, hsz], e.rd_one (e.own_rd h3)⟩
    have hρl : ρ.length = l.length := by
      have := congrArg List.length hρ
      rw [List.length_map] at this
      rw [this, hz.len.2]
    have hgn : g ∉ Fs.flatten := by
      have := (h.get (i := 0) rfl).1
      simp only [R.own] at this
      rw [List.nodup_cons] at this
      exact this.1
    refine ⟨[g], ρ, ⟨Fs.flatten, fun w' => Z3 (fun F cs x => e.own F w' cs x) Fs css l⟩, hρl, by omega, h.split2 (r1 := R.own er [g] v ρ) (r2 := ⟨Fs.flatten, fun w' => Z3 (fun F cs x => e.own F w' cs x) Fs css l⟩) rfl (fun w' hk => ?_) (fun w' hk => ?_), fun {base' w' N} h' => ⟨g :: Fs.reverse.flatten, ?_⟩⟩
    · refine (ownS_flat he).2 (.inr ⟨g, cap, cur, by rw [hρl]; exact hv, by rw [htid, hk g (by simp [R.own])]; exact hgg, by omega, hm, by rw [hszr, ← hsz]; exact hc, ?_, rfl⟩)
      rw [hρl, hszr, ← hsz, hρ]
      exact ht
    · refine Z3.of hz.len.1 hz.len.2 fun k a c x ha hcc hx => ?_
      obtain ⟨a', c', h1, h2, h3⟩ := hz.get k x hx
      rw [ha] at h1; rw [hcc] at h2
      cases h1; cases h2
      exact e.own_keep h3 fun b hb => hk b (List.mem_flatten.2 ⟨a, List.mem_of_getElem? ha, hb⟩)
    · have h2 := h'.merge (r := ⟨[g] ++ Fs.flatten, fun w => ownS er [g] w v ρ.reverse ∧ Z3 (fun F cs x => e.own F w cs x) Fs css l⟩) rfl fun _ a b => ⟨a, b⟩
      refine h2.permF (r' := R.own e (g :: Fs.reverse.flatten) v l.reverse) ?_ fun w'' hh => ?_
      · refine List.Perm.cons g ?_
        exact (List.reverse_perm Fs).flatten
      · obtain ⟨ha, hb⟩ := hh
        rcases (ownS_flat he).1 ha with ⟨h3, h4, h5⟩ | ⟨g', cap', cur', h3, h4, h5, h6, h7, h8, h9⟩
        · cases h5
        · cases h9
          refine .inr ⟨g, cap', cur', css.reverse, Fs.reverse, by rw [List.length_reverse, ← hρl, ← List.length_reverse]; exact h3, by rw [← htid]; exact h4, by rw [List.length_reverse, ← hρl, ← List.length_reverse]; exact h5, h6, by rw [hsz, ← hszr]; exact h7, ?_, Z3.rev hb, rfl⟩
          rw [List.length_reverse, ← hρl, ← List.length_reverse, hsz, ← hszr, h8, List.map_reverse, hρ]
theorem w64_id {x : Int} (h1 : -9223372036854775808 ≤ x) (h2 : x ≤ 9223372036854775807) : w64 x = x := by
  unfold w64 IntKind.wrap
  simp only [IntKind.bits, IntKind.signed]
  simp only [ge_iff_le, Bool.true_and, decide_eq_true_eq]
  split <;> omega
theorem rev_raw {α : Type} (f : Nat → List α → Int → Int → Option (List α)) (x0 : List α) (h : x0.length ≤ 9223372036854775807)
    (hst : ∀ m l y z, f (m + 1) l y z = if (decide (y < z)) = true then Option.bind (idx l z) fun a => Option.bind (idx l y) fun b => Option.bind (idx l y) fun _ => Option.bind (idx (seti l y a) z) fun _ => f m (seti (seti l y a) z b) (w64 (y + 1)) (w64 (z - 1)) else some l) :
    f FU x0 0 (w64 ((List.length x0 : Int) - 1)) = some x0.reverse := by
  have atI : ∀ (P T : List α) (x : α) (y : Int), y = (P.length : Int) → idx (P ++ x :: T) y = some x := by
    intro P T x y e; unfold idx; rw [if_pos (by omega), show y.toNat = P.length by omega]; simp
  have atS : ∀ (P T : List α) (x z : α) (y : Int), y = (P.length : Int) → seti (P ++ x :: T) y z = P ++ z :: T := by
    intro P T x z y e; unfold seti; rw [show y.toNat = P.length by omega]; simp
  have key : ∀ (n : Nat) (M A B : List α) (m : Nat) (y z : Int), M.length ≤ 2 * n + 1 → n < m → y = (A.length : Int) → z = (A.length : Int) + (M.length : Int) - 1 → A.length + M.length ≤ 9223372036854775807 → f m (A ++ M ++ B) y z = some (A ++ M.reverse ++ B) := by
    intro n
    induction n with
    | zero =>
      intro M A B m y z hn hm hy hz hl
      cases m with
      | zero => omega
      | succ m =>
        match M, hn with
        | [], _ => rw [hst, if_neg (by simp at hz ⊢; omega)]; simp
        | [a], _ => rw [hst, if_neg (by simp at hz ⊢; omega)]; simp
    | succ n ih =>
      intro M A B m y z hn hm hy hz hl
      cases m with
      | zero => omega
      | succ m =>
        match M with
        | [] => rw [hst, if_neg (by simp at hz ⊢; omega)]; simp
        | a :: M' =>
          rcases List.eq_nil_or_concat M' with rfl | ⟨M2, b, rfl⟩
          · rw [hst, if_neg (by simp at hz ⊢; omega)]; simp
          · rw [List.concat_eq_append] at *
            have hz' : z = (A.length : Int) + (M2.length : Int) + 1 := by rw [hz]; simp; omega
            have hl' : A.length + M2.length + 2 ≤ 9223372036854775807 := by simp at hl; omega
            have e1 : A ++ a :: (M2 ++ [b]) ++ B = (A ++ a :: M2) ++ b :: B := by simp
            have e2 : A ++ a :: (M2 ++ [b]) ++ B = A ++ a :: (M2 ++ [b] ++ B) := by simp
            have i1 : idx (A ++ a :: (M2 ++ [b]) ++ B) z = some b := by rw [e1]; exact atI _ _ _ _ (by rw [hz']; simp; omega)
            have i2 : idx (A ++ a :: (M2 ++ [b]) ++ B) y = some a := by rw [e2]; exact atI _ _ _ _ hy
            have s1 : seti (A ++ a :: (M2 ++ [b]) ++ B) y b = (A ++ b :: M2) ++ b :: B := by rw [e2, atS _ _ _ _ _ hy]; simp
            have i3 : idx ((A ++ b :: M2) ++ b :: B) z = some b := atI _ _ _ _ (by rw [hz']; simp; omega)
            have s2 : seti ((A ++ b :: M2) ++ b :: B) z a = (A ++ [b]) ++ M2 ++ a :: B := by rw [atS _ _ _ _ _ (by rw [hz']; simp; omega)]; simp
            rw [hst, if_pos (by simp; omega), i1, Option.bind_some, i2, Option.bind_some, Option.bind_some, s1, i3, Option.bind_some, s2, w64_id (x := y + 1) (by omega) (by omega), w64_id (x := z - 1) (by omega) (by omega)]
            have := ih M2 (A ++ [b]) (a :: B) m (y + 1) (z - 1) (by simp at hn; omega) (by omega) (by simp; omega) (by simp; omega) (by simp; omega)
            rw [this]
            simp
  have := key (x0.length / 2) x0 [] [] FU 0 (w64 ((List.length x0 : Int) - 1)) (by omega) (show x0.length / 2 < 4611686018427387904 by omega) rfl (by rw [w64_id (by omega) (by omega)]; simp) (by simpa using h)
  simpa using this
end Go.Proofs.Ytmkignciedkidaa
