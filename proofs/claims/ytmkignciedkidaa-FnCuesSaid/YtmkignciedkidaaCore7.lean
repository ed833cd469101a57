/-
  CORE, 7: owned slices whose elements own memory. Over any program.
-/
import Derived.Test.YtmkignciedkidaaCore6
set_option linter.unusedSimpArgs false
set_option linter.unusedVariables false
namespace Go.Proofs.Ytmkignciedkidaa
open Go Go.RowKit
variable {P : Program} {α β : Type}
/-- The cells of an owned datum. -/
def R.cel (e : Ty P α) (F : List Nat) (cs : List Value) (x : α) : Res := ⟨F, fun w => e.own F w cs x⟩
section
variable {base : Nat} {w w' : World} {M L : List Res} {r r1 r2 r' : Res}
theorem Sep.head (h : Sep base w (r :: M)) (hf : r'.fp = r.fp) (hk : ∀ w, r.ok w → r'.ok w) : Sep base w (r' :: M) := by
  obtain ⟨h1, h2⟩ := h
  cases h2 with
  | cons hd ht =>
    refine ⟨fun s hs => ?_, .cons (fun s hs b hb => hd s hs b (by rw [← hf]; exact hb)) ht⟩
    cases hs with
    | head =>
      have hg := h1 r (by simp)
      exact ⟨by rw [hf]; exact hg.1, fun b hb => hg.2.1 b (by rw [← hf]; exact hb), fun w' hw => hk _ (hg.2.2 w' fun b hb => hw b (by rw [hf]; exact hb))⟩
    | tail _ hs => exact h1 s (.tail _ hs)
theorem Sep.merge (h : Sep base w (r1 :: r2 :: M)) (hf : r.fp = r1.fp ++ r2.fp) (hk : ∀ w, r1.ok w → r2.ok w → r.ok w) : Sep base w (r :: M) := by
  obtain ⟨h1, h2⟩ := h
  have g1 := h1 r1 (by simp)
  have g2 := h1 r2 (by simp)
  cases h2 with
  | cons hd ht =>
    cases ht with
    | cons hd2 ht =>
      refine ⟨fun s hs => ?_, .cons (fun s hs b hb => ?_) ht⟩
      · cases hs with
        | head =>
          refine ⟨?_, fun b hb => ?_, fun w' hw => hk _ (g1.2.2 w' fun b hb => hw b (by rw [hf]; exact List.mem_append_left _ hb)) (g2.2.2 w' fun b hb => hw b (by rw [hf]; exact List.mem_append_right _ hb))⟩
          · rw [hf, List.nodup_append]
            exact ⟨g1.1, g2.1, fun a ha b hb e => hd r2 (by simp) a ha (by rw [e]; exact hb)⟩
          · rw [hf] at hb
            rcases List.mem_append.1 hb with hb | hb
            · exact g1.2.1 b hb
            · exact g2.2.1 b hb
        | tail _ hs => exact h1 s (.tail _ (.tail _ hs))
      · rw [hf] at hb
        rcases List.mem_append.1 hb with hb | hb
        · exact hd s (by simp [hs]) b hb
        · exact hd2 s hs b hb
theorem Sep.cel1 {e' : Ty P β} {e : Ty P (List β)} {F : List Nat} {v : Value} {x : List β} (he : ∀ F w v x, ownS e' F w v x → e.own F w [v] x) (h : Sep base w (R.own e' F v x :: M)) : Sep base w (R.cel e F [v] x :: M) :=
  h.head rfl fun w hw => he _ _ _ _ hw
end
theorem flatten_set_nodup : ∀ {Fs : List (List Nat)} {k : Nat} {F2 : List Nat}, Fs.flatten.Nodup → F2.Nodup → (∀ b ∈ F2, b ∉ Fs.flatten) → (Fs.set k F2).flatten.Nodup
  | [], _, _, _, _, _ => by simp
  | F :: Fs, 0, F2, h, h2, hd => by
    rw [List.set_cons_zero, List.flatten_cons, List.nodup_append]
    rw [List.flatten_cons, List.nodup_append] at h
    exact ⟨h2, h.2.1, fun a ha b hb e => hd a ha (by rw [List.flatten_cons]; exact List.mem_append_right _ (by rw [e]; exact hb))⟩
  | F :: Fs, k + 1, F2, h, h2, hd => by
    rw [List.set_cons_succ, List.flatten_cons, List.nodup_append]
    rw [List.flatten_cons, List.nodup_append] at h
    refine ⟨h.1, flatten_set_nodup h.2.1 h2 (fun b hb hb' => hd b hb (by rw [List.flatten_cons]; exact List.mem_append_right _ hb')), fun a ha b hb e => ?_⟩
    subst e
    obtain ⟨G, hG, hb2⟩ := List.mem_flatten.1 hb
    rcases List.mem_or_eq_of_mem_set hG with hG | hG
    · exact h.2.2 a ha a (List.mem_flatten.2 ⟨G, hG, hb2⟩) rfl
    · rw [hG] at hb2
      exact hd a hb2 (by rw [List.flatten_cons]; exact List.mem_append_left _ ha)
theorem mem_flatten_set {Fs : List (List Nat)} {k b : Nat} {F2 : List Nat} (h : b ∈ (Fs.set k F2).flatten) : b ∈ Fs.flatten ∨ b ∈ F2 := by
  obtain ⟨G, hG, hb⟩ := List.mem_flatten.1 h
  rcases List.mem_or_eq_of_mem_set hG with hG | rfl
  · exact .inl (List.mem_flatten.2 ⟨G, hG, hb⟩)
  · exact .inr hb
section
variable {n : Nat} {σ : Env} {w w0 : World} {Q : Exit → Act → World → Prop} {L M : List Res}
variable {ds : List (Option Tmp)} {d : Nat} {T U : TypeId} {pos : String} {af : Array Edge} {rest : List Oper} {x y z : Operand} {sz : Nat} {agg : Bool} {zv : Value}
/-- 'a[i] = x', x a datum that owns memory: it is moved in. -/
theorem wl_storen {e : Ty P α} {F F2 : List Nat} {v vx : Value} {l : List α} {u u' : α} {ix : Int} {p : Addr} {vs : List Value} (tf : TF P U sz agg zv)
    (hx : eop σ x = some (.pointer (some p))) (hy : eop σ y = some vx) (hv : vx.cells = vs.toArray) (hsz : vs.length = sz) (hp : OPtr e.sz v p ix.toNat 0) (hi : idx l ix = some u)
    (hB : Below w0.heap.size w0 w) (hS : Sep w0.heap.size w (R.own e F v l :: R.cel e F2 vs u' :: M)) (hle : Nat.beq sz e.sz = true) (h1 : Ones vs)
    (h : ∀ w' F', Below w0.heap.size w0 w' → Sep w0.heap.size w' (R.own e F' v (seti l ix u') :: M) → WL P n ds rest σ w' Q) :
    WL P n ds (⟨none, .store U x y, T, pos, af, none⟩ :: rest) σ w Q := by
  have ho : ownS e F w v l := hS.ok (i := 0) rfl
  have hg0 := hS.get (i := 0) rfl
  have hg1 := hS.get (i := 1) rfl
  have hdis : ∀ b ∈ F, b ∉ F2 := hS.disj (i := 0) (j := 1) rfl rfl rfl
  obtain ⟨h0, hl, hlt⟩ := idx_some hi
  have hsz' : sz = e.sz := Nat.eq_of_beq_eq_true hle
  rcases ho with ⟨_, rfl, _⟩ | ⟨g, cap, cur, css, Fs, hvv, hgg, hnn, hm, hc, ht, hz, hF⟩
  · simp at hlt
  · obtain ⟨g', c', m', hv', rfl⟩ := hp
    rw [hvv] at hv'
    injection hv' with ha _ _
    injection ha with ha
    injection ha with ha _ _
    subst ha
    have hin : (ix.toNat + 1) * e.sz ≤ cur.size := by rw [hc]; exact Nat.mul_le_mul_right _ (by omega)
    rw [Nat.succ_mul] at hin
    have hgF : g ∈ F := by rw [hF]; simp
    have hgbase := (hg0.2.1 g hgF).1
    have hst := run_storeVar_cells (P := P) w g (ix.toNat * e.sz + 0) e.tid U cur.toList vs vx hv (fun w => by rw [hsz]; exact tf.hsize w) (by simpa using hgg) (by simp; omega) h1
    have hkeep : ∀ b, b ≠ g → (w.setRow g (splice cur.toList (ix.toNat * e.sz + 0) vs).toArray).heap[b]? = w.heap[b]? := fun b hb => setRow_other w g b _ hb
    have hcl := hz.sz
    obtain ⟨Fk, ck, hFk, hck, hok⟩ := hz.get _ _ hl
    have hFnd : Fs.flatten.Nodup ∧ g ∉ Fs.flatten := by
      have := hg0.1
      simp only [R.own] at this
      rw [hF, List.nodup_cons] at this
      exact ⟨this.2, this.1⟩
    have hgF2 : g ∉ F2 := hdis g hgF
    refine wl_u (w' := w.setRow g (splice cur.toList (ix.toNat * e.sz + 0) vs).toArray) (fun ρ hρ => ?_)
      (h _ (g :: (Fs.set ix.toNat F2).flatten) (hB.trans (setRow_below w g _ hgbase)) ?_)
    · simp only [Nat.add_zero] at hst ⊢
      simp [execOp, hρ _ _ hx, hρ _ _ hy, Instr.storeAt, Instr.sureAddr, hst]
    · -- the element's resource becomes a part of the slice's
      have hS2 : Sep w0.heap.size w (⟨F ++ F2, fun _ => True⟩ :: M) := hS.merge rfl fun _ _ _ => trivial
      have hS3 := hS2.upd (i := 0) (w' := w.setRow g (splice cur.toList (ix.toNat * e.sz + 0) vs).toArray) (r' := R.own e (g :: (Fs.set ix.toNat F2).flatten) v (seti l ix u')) rfl (by simp)
        (fun b _ _ hb => hkeep b fun e => hb (by rw [e]; exact List.mem_append_left _ hgF)) ?_ ?_ hB.size ?_
      · exact hS3
      · simp only [R.own, List.nodup_cons]
        refine ⟨fun hb => ?_, flatten_set_nodup hFnd.1 hg1.1 fun b hb hb' => hdis b (by rw [hF]; simp only [List.mem_cons]; exact .inr hb') hb⟩
        rcases mem_flatten_set hb with hb | hb
        · exact hFnd.2 hb
        · exact hgF2 hb
      · intro b hb
        left
        simp only [R.own, List.mem_cons] at hb
        rcases hb with rfl | hb
        · exact List.mem_append_left _ hgF
        · rcases mem_flatten_set hb with hb | hb
          · exact List.mem_append_left _ (by rw [hF]; simp only [List.mem_cons]; exact .inr hb)
          · exact List.mem_append_right _ hb
      · intro w'' hk
        have hh := hk g (by simp [R.own])
        refine .inr ⟨g, cap, _, css.set ix.toNat vs, Fs.set ix.toNat F2, by simpa [seti] using hvv, by rw [hh, setRow_heap w g cur _ e.tid _ hgg], by simpa [seti] using hnn, hm, ?_, ?_, ?_, rfl⟩
        · rw [List.size_toArray, splice_len (by simp; omega)]
          simpa using hc
        · have hfl := flatten_splice (sz := e.sz) (css := css) hcl ix.toNat 0 vs ck hck (by omega)
          have hsp : splice ck 0 vs = vs := by
            unfold splice
            have : ck.length = vs.length := by rw [hcl ck (List.mem_of_getElem? hck)]; omega
            simp [← this]
          rw [hsp] at hfl
          simp only [seti]
          rw [← hfl, ← ht, List.toList_toArray, List.length_set]
          have hb2 : ix.toNat * e.sz + 0 + vs.length ≤ l.length * e.sz := by
            have : (ix.toNat + 1) * e.sz ≤ l.length * e.sz := Nat.mul_le_mul_right _ hlt
            rw [Nat.succ_mul] at this
            omega
          unfold splice
          rw [List.take_append, List.take_append, List.length_take, List.take_take, List.drop_take]
          have hcs : l.length * e.sz ≤ cur.toList.length := by simp [hc]; exact Nat.mul_le_mul_right _ hnn
          rw [Nat.min_eq_left (by omega : ix.toNat * e.sz + 0 ≤ cur.toList.length), List.take_take, List.take_of_length_le (l := vs) (by omega)]
          rw [Nat.min_eq_right (by omega), Nat.min_eq_left (by omega)]
          congr 2
          congr 1
          omega
        · have hbl : ∀ b ∈ Fs.flatten, w''.heap[b]? = w.heap[b]? ∨ b ∈ Fk := fun b hb => by
            obtain ⟨G, hG, hbG⟩ := List.mem_flatten.1 hb
            obtain ⟨j, hj⟩ := List.getElem?_of_mem hG
            by_cases e : j = ix.toNat
            · rw [e, hFk] at hj
              cases hj
              exact .inr hbG
            · left
              have hmem : b ∈ (Fs.set ix.toNat F2).flatten := List.mem_flatten.2 ⟨G, List.mem_of_getElem? (i := j) (by rw [List.getElem?_set_ne (Ne.symm e)]; exact hj), hbG⟩
              rw [hk b (by simp only [R.own, List.mem_cons]; exact .inr hmem)]
              exact hkeep b fun e => hFnd.2 (by rw [← e]; exact hb)
          refine Z3.of (by simp [hz.len.1, seti]) (by simp [hz.len.2, seti]) fun j A B C hA hB hC => ?_
          by_cases e : j = ix.toNat
          · subst e
            rw [List.getElem?_set_self (by rw [hz.len.1]; exact hlt)] at hA
            rw [List.getElem?_set_self (by rw [hz.len.2]; exact hlt)] at hB
            simp only [seti] at hC
            rw [List.getElem?_set_self hlt] at hC
            cases hA; cases hB; cases hC
            refine hg1.2.2 w'' fun b hb => ?_
            simp only [R.cel] at hb
            have hltF : ix.toNat < Fs.length := by rw [hz.len.1]; exact hlt
            rw [hk b (by simp only [R.own, List.mem_cons]; exact .inr (List.mem_flatten.2 ⟨F2, List.mem_of_getElem? (i := ix.toNat) (List.getElem?_set_self hltF), hb⟩))]
            exact hkeep b fun e => hgF2 (by rw [← e]; exact hb)
          · rw [List.getElem?_set_ne (Ne.symm e)] at hA hB
            simp only [seti] at hC
            rw [List.getElem?_set_ne (Ne.symm e)] at hC
            obtain ⟨A', B', h1', h2', h3'⟩ := hz.get j C hC
            rw [hA] at h1'; rw [hB] at h2'
            cases h1'; cases h2'
            refine Sh.own_keep _ h3' fun b hb => ?_
            have hmem : b ∈ (Fs.set ix.toNat F2).flatten := List.mem_flatten.2 ⟨A, List.mem_of_getElem? (i := j) (by rw [List.getElem?_set_ne (Ne.symm e)]; exact hA), hb⟩
            rw [hk b (by simp only [R.own, List.mem_cons]; exact .inr hmem)]
            exact hkeep b fun e => hFnd.2 (by rw [← e]; exact List.mem_flatten.2 ⟨A, List.mem_of_getElem? hA, hb⟩)
end
end Go.Proofs.Ytmkignciedkidaa
