/-
  CORE, 10: functions that write into what they are given: what is kept; an element lent. Over any program.
-/
import Derived.Test.YtmkignciedkidaaCore9
set_option linter.unusedSimpArgs false
set_option linter.unusedVariables false
namespace Go.Proofs.Ytmkignciedkidaa
open Go Go.RowKit
variable {P : Program} {α β : Type}
/-- The world before it held anything: a walk that starts here owns what it is given. -/
def wE (w : World) : World := { w with heap := #[] }
theorem wE_below (w : World) : Below (wE w).heap.size (wE w) w := ⟨rfl, rfl, rfl, Nat.zero_le _, fun k hk => absurd hk (Nat.not_lt_zero _)⟩
def fps (L : List Res) : List Nat := L.flatMap fun r => r.fp
theorem mem_fps {L : List Res} {b : Nat} : b ∈ fps L ↔ ∃ r ∈ L, b ∈ r.fp := by simp [fps]
/-- All old memory but X stays. -/
def R.rest (w0 : World) (X : List Nat) : Res := ⟨(List.range w0.heap.size).filter (fun b => !X.contains b), fun w => ∀ b, b < w0.heap.size → b ∉ X → w.heap[b]? = w0.heap[b]?⟩
theorem rest_fp {w0 : World} {X : List Nat} {b : Nat} : b ∈ (R.rest w0 X).fp ↔ b < w0.heap.size ∧ b ∉ X := by simp [R.rest]
section
variable {base : Nat} {w w' w0 : World} {L M M' : List Res} {r r1 r2 : Res}
theorem Sep.rest (h : Sep 0 w M) : Sep 0 w (R.rest w (fps M) :: M) := by
  refine ⟨fun s hs => ?_, .cons (fun s hs b hb hb' => (rest_fp.1 hb).2 (mem_fps.2 ⟨s, hs, hb'⟩)) h.2⟩
  cases hs with
  | tail _ hs => exact h.1 s hs
  | head => exact ⟨List.Nodup.sublist List.filter_sublist List.nodup_range, fun b hb => ⟨Nat.zero_le _, (rest_fp.1 hb).1⟩, fun w' hk b hb hx => hk b (rest_fp.2 ⟨hb, hx⟩)⟩
theorem Sep.base0 (h : Sep base w L) : Sep 0 w L := ⟨fun r hr => ⟨(h.1 r hr).1, fun b hb => ⟨Nat.zero_le _, ((h.1 r hr).2.1 b hb).2⟩, (h.1 r hr).2.2⟩, h.2⟩
theorem sel_append : ∀ (is js : List Nat), sel L (is ++ js) = sel L is ++ sel L js
  | [], js => rfl
  | i :: is, js => by
    rw [List.cons_append, sel, sel, sel_append is js]
    cases lget L i <;> rfl
theorem fp_of_map (hfp : M'.map (·.fp) = M.map (·.fp)) (hr : r ∈ M') : ∃ s ∈ M, s.fp = r.fp := by
  have : r.fp ∈ M.map (·.fp) := by rw [← hfp]; exact List.mem_map.2 ⟨r, hr, rfl⟩
  obtain ⟨s, hs, e⟩ := List.mem_map.1 this
  exact ⟨s, hs, e⟩
theorem mut_kept (hS' : Sep 0 w' (R.rest w (fps M) :: M')) : ∀ b, b < w.heap.size → b ∉ fps M → w'.heap[b]? = w.heap[b]? := (hS'.1 _ (List.mem_cons_self ..)).ok
theorem mut_size (hfp : M'.map (·.fp) = M.map (·.fp)) (hS' : Sep 0 w' (R.rest w (fps M) :: M')) : w.heap.size ≤ w'.heap.size := by
  by_cases h0 : w.heap.size = 0
  · omega
  · by_cases hb : w.heap.size - 1 ∈ fps M
    · obtain ⟨r, hr, hb⟩ := mem_fps.1 hb
      have : r.fp ∈ M'.map (·.fp) := by rw [hfp]; exact List.mem_map.2 ⟨r, hr, rfl⟩
      obtain ⟨s, hs, e⟩ := List.mem_map.1 this
      have := ((hS'.1 s (by simp [hs])).2.1 _ (by rw [e]; exact hb)).2
      omega
    · have := ((hS'.1 _ (List.mem_cons_self ..)).2.1 (w.heap.size - 1) (rest_fp.2 ⟨by omega, hb⟩)).2
      omega
theorem Sep.mut (h : Sep base w L) (is js : List Nat) (hn : nodupB (is ++ js) = true) (hM : Ytmkignciedkidaa.sel L is = M) (hfp : M'.map (·.fp) = M.map (·.fp)) (hS' : Sep 0 w' (R.rest w (fps M) :: M')) : Sep base w' (M' ++ Ytmkignciedkidaa.sel L js) := by
  have hsz := mut_size hfp hS'
  have hkept := mut_kept hS'
  have hall := h.sel (is ++ js) hn
  rw [sel_append, hM] at hall
  have hcross := (List.pairwise_append.1 hall.2).2.2
  have hd' := hS'.2
  cases hd' with
  | cons _ hd' =>
    refine ⟨fun r hr => ?_, List.pairwise_append.2 ⟨hd', (List.pairwise_append.1 hall.2).2.1, fun r hr s hs b hb => ?_⟩⟩
    · rcases List.mem_append.1 hr with hr | hr
      · have g := hS'.1 r (by simp [hr])
        obtain ⟨s, hs, e⟩ := fp_of_map hfp hr
        have gs := hall.1 s (by simp [hs])
        exact ⟨g.1, fun b hb => ⟨(gs.2.1 b (by rw [e]; exact hb)).1, (g.2.1 b hb).2⟩, g.2.2⟩
      · have g := hall.1 r (by simp [hr])
        refine g.keep hsz fun b hb => hkept b (g.2.1 b hb).2 fun hx => ?_
        obtain ⟨s, hs, hb'⟩ := mem_fps.1 hx
        exact hcross s hs r hr b hb' hb
    · obtain ⟨t, ht, e⟩ := fp_of_map hfp hr
      exact hcross t ht s hs b (by rw [e]; exact hb)
theorem Sep.mutB (h : Sep base w L) (is : List Nat) (hn : nodupB is = true) (hM : Ytmkignciedkidaa.sel L is = M) (hfp : M'.map (·.fp) = M.map (·.fp)) (hB0 : Below base w0 w) (hb0 : base ≤ w.heap.size) (hE : Below 0 (wE w) w') (hS' : Sep 0 w' (R.rest w (fps M) :: M')) : Below base w0 w' :=
  ⟨hE.os.trans hB0.os, hE.tape.trans hB0.tape, hE.output.trans hB0.output, Nat.le_trans hB0.size (mut_size hfp hS'), fun k hk => (mut_kept hS' k (by omega) fun hx => by
    obtain ⟨s, hs, hb⟩ := mem_fps.1 hx
    have hs' : s ∈ Ytmkignciedkidaa.sel L is := by rw [hM]; exact hs
    have := ((h.sel is hn).1 s hs').2.1 k hb
    omega).trans (hB0.block k hk)⟩
/-- What of an owned slice stays when one element is lent. -/
def R.hole (e : Ty P α) (F Fk : List Nat) (v : Value) (l : List α) (k : Nat) (cs : List Value) : Res :=
  ⟨F.filter (fun b => !Fk.contains b), fun w => ∀ w' u', (∀ b ∈ F, b ∉ Fk → w'.heap[b]? = w.heap[b]?) → e.own Fk w' cs u' → ownS e F w' v (l.set k u')⟩
theorem hole_fp {e : Ty P α} {F Fk : List Nat} {v : Value} {l : List α} {k : Nat} {cs : List Value} {b : Nat} : b ∈ (R.hole e F Fk v l k cs).fp ↔ b ∈ F ∧ b ∉ Fk := by simp [R.hole]
theorem Sep.borrow {e : Ty P α} {F : List Nat} {v : Value} {l : List α} {u : α} {ix : Int} (h : Sep base w (R.own e F v l :: M)) (hi : idx l ix = some u) {p : Addr} (hp : OPtr e.sz v p ix.toNat 0) {cs : List Value} (hc : EAt (· < w.heap.size) w p cs) (hcl : cs.length = e.sz) :
    ∃ Fk, Sep base w (R.cel e Fk cs u :: R.hole e F Fk v l ix.toNat cs :: M) ∧ (∀ b ∈ Fk, b ∈ F) ∧ F.Nodup := by
  have ho : ownS e F w v l := h.ok (i := 0) rfl
  have hg0 := h.get (i := 0) rfl
  have hnd : F.Nodup := hg0.1
  obtain ⟨h0, hl, hlt⟩ := idx_some hi
  rcases ho with ⟨_, rfl, _⟩ | ⟨g, cap, cur, css, Fs, hv, hgg, hnn, hm, hcu, ht, hz, hF⟩
  · simp at hlt
  · obtain ⟨Fk, ck, hFk, hck, hok⟩ := hz.get ix.toNat u hl
    obtain ⟨g', c', m', hv', rfl⟩ := hp
    rw [hv] at hv'
    injection hv' with ha _ _
    injection ha with ha
    injection ha with ha _ _
    subst ha
    have hFnd : Fs.flatten.Nodup ∧ g ∉ Fs.flatten := by
      have := hnd
      rw [hF, List.nodup_cons] at this
      exact ⟨this.2, this.1⟩
    have hsub : ∀ b ∈ Fk, b ∈ Fs.flatten := fun b hb => List.mem_flatten.2 ⟨Fk, List.mem_of_getElem? hFk, hb⟩
    have hck' : ck = cs := by
      have hl1 := e.rd_len (e.own_rd hok)
      apply List.ext_getElem?
      intro j
      by_cases hj : j < e.sz
      · have e1 : ck[j]? = some ck[j] := List.getElem?_eq_getElem (by omega)
        have e2 : cs[j]? = some cs[j] := List.getElem?_eq_getElem (by omega)
        have a1 := hc.2 j _ e2
        have a2 := flatten_get hz.sz ix.toNat j ck hck ck[j] e1
        rw [Addr.add_lit, Nat.add_zero, cell_of_row w g _ cur e.tid (0, 0) hgg] at a1
        rw [← ht, List.getElem?_take] at a2
        split at a2
        · rw [e1, e2]
          have a3 : cur[ix.toNat * e.sz + j]? = some ck[j] := by simpa using a2
          rw [a3] at a1
          exact a1
        · cases a2
      · rw [List.getElem?_eq_none (by omega), List.getElem?_eq_none (by omega)]
    subst hck'
    refine ⟨Fk, ⟨fun s hs => ?_, ?_⟩, fun b hb => by rw [hF]; exact List.mem_cons_of_mem _ (hsub b hb), hnd⟩
    · rcases List.mem_cons.1 hs with rfl | hs
      · refine ⟨?_, fun b hb => hg0.2.1 b (by show b ∈ F; rw [hF]; exact List.mem_cons_of_mem _ (hsub b hb)), fun w' hk => e.own_keep hok hk⟩
        exact (List.pairwise_flatten.1 hFnd.1).1 Fk (List.mem_of_getElem? hFk)
      · rcases List.mem_cons.1 hs with rfl | hs
        · refine ⟨List.Nodup.sublist List.filter_sublist hnd, fun b hb => hg0.2.1 b (hole_fp.1 hb).1, fun w1 hk w2 u' hk2 hu' => ?_⟩
          have hother : ∀ b ∈ F, b ∉ Fk → w2.heap[b]? = w.heap[b]? := fun b hb hn => (hk2 b hb hn).trans (hk b (hole_fp.2 ⟨hb, hn⟩))
          have hgk : g ∉ Fk := fun hb => hFnd.2 (hsub g hb)
          refine .inr ⟨g, cap, cur, css, Fs, by rw [List.length_set]; exact hv, by rw [hother g (by rw [hF]; simp) hgk]; exact hgg, by rw [List.length_set]; exact hnn, hm, hcu, by rw [List.length_set]; exact ht, ?_, hF⟩
          obtain ⟨n1, n2⟩ := hz.len
          refine Z3.of (by rw [List.length_set]; exact n1) (by rw [List.length_set]; exact n2) fun i a c x ha hc' hx => ?_
          by_cases hik : i = ix.toNat
          · subst hik
            rw [List.getElem?_set_self hlt] at hx
            cases hx
            rw [hFk] at ha
            rw [hck] at hc'
            cases ha
            cases hc'
            exact hu'
          · rw [List.getElem?_set_ne (Ne.symm hik)] at hx
            obtain ⟨a', c'', h1, h2, h3⟩ := hz.get i x hx
            rw [ha] at h1
            rw [hc'] at h2
            cases h1
            cases h2
            refine e.own_keep h3 fun b hb => hother b (by rw [hF]; exact List.mem_cons_of_mem _ (List.mem_flatten.2 ⟨a, List.mem_of_getElem? ha, hb⟩)) fun hbk => ?_
            have hpw := (List.pairwise_flatten.1 hFnd.1).2
            rcases Nat.lt_or_gt_of_ne hik with hlt' | hgt'
            · exact List.pairwise_iff_getElem.1 hpw i ix.toNat (List.getElem?_eq_some_iff.1 ha).1 (List.getElem?_eq_some_iff.1 hFk).1 hlt' b (by rw [(List.getElem?_eq_some_iff.1 ha).2]; exact hb) b (by rw [(List.getElem?_eq_some_iff.1 hFk).2]; exact hbk) rfl
            · exact List.pairwise_iff_getElem.1 hpw ix.toNat i (List.getElem?_eq_some_iff.1 hFk).1 (List.getElem?_eq_some_iff.1 ha).1 hgt' b (by rw [(List.getElem?_eq_some_iff.1 hFk).2]; exact hbk) b (by rw [(List.getElem?_eq_some_iff.1 ha).2]; exact hb) rfl
        · exact h.1 s (by simp [hs])
    · have hp := h.2
      cases hp with
      | cons hp1 hp2 =>
        refine .cons (fun s hs b hb hb' => ?_) (.cons (fun s hs b hb => hp1 s hs b (hole_fp.1 hb).1) hp2)
        rcases List.mem_cons.1 hs with rfl | hs
        · exact (hole_fp.1 hb').2 hb
        · exact hp1 s hs b (by show b ∈ F; rw [hF]; exact List.mem_cons_of_mem _ (hsub b hb)) hb'
/-- The lent element comes back. -/
theorem Sep.unborrow {e : Ty P α} {F Fk : List Nat} {v : Value} {l : List α} {u' : α} {k : Nat} {cs : List Value} (h : Sep base w (R.cel e Fk cs u' :: R.hole e F Fk v l k cs :: M)) (hsub : ∀ b ∈ Fk, b ∈ F) (hnd : F.Nodup) : Sep base w (R.own e F v (l.set k u') :: M) := by
  have g1 := h.1 _ (List.mem_cons_self ..)
  have g2 := h.1 _ (List.mem_cons_of_mem _ (List.mem_cons_self ..))
  have hp := h.2
  cases hp with
  | cons hp1 hp2 =>
    cases hp2 with
    | cons hp2 hp3 =>
      have split : ∀ b ∈ F, b ∈ Fk ∨ b ∈ (R.hole e F Fk v l k cs).fp := fun b hb => by
        by_cases hk : b ∈ Fk
        · exact .inl hk
        · exact .inr (hole_fp.2 ⟨hb, hk⟩)
      refine ⟨fun s hs => ?_, .cons (fun s hs b hb hb' => ?_) hp3⟩
      · rcases List.mem_cons.1 hs with rfl | hs
        · refine ⟨hnd, fun b hb => ?_, fun w' hk => ?_⟩
          · rcases split b hb with hb | hb
            · exact g1.2.1 b hb
            · exact g2.2.1 b hb
          · exact g2.ok w' u' (fun b hb _ => hk b hb) (g1.2.2 w' fun b hb => hk b (hsub b hb))
        · exact h.1 s (by simp [hs])
      · rcases split b hb with hb | hb
        · exact hp1 s (List.mem_cons_of_mem _ hs) b hb hb'
        · exact hp2 s hs b hb hb'
end
end Go.Proofs.Ytmkignciedkidaa
