/-
  CORE, 17: functions for which the model stands in. Over any program.
-/
import Derived.Test.YtmkignciedkidaaCore16
import Derived.Laws.Externs
import Derived.Lib.Bytealg
set_option linter.unusedSimpArgs false
set_option linter.unusedVariables false
namespace Go.Proofs.Ytmkignciedkidaa
open Go Go.RowKit
variable {P : Program} {α : Type} {n : Nat} {ds : List (Option Tmp)} {d : Nat} {T U : TypeId} {pos : String} {af : Array Edge} {rest : List Oper} {x y z : Operand} {σ : Env} {w w0 : World} {Q : Exit → Act → World → Prop}
theorem wl_ext {f : FuncId} {fn : Func} {e : Array Value → Sem Value} {xs : List Operand} {ts : Array TypeId} {vs : List Value} {v : Value} (hn : Nat.blt d n = true)
    (hf : P.funcs[f]? = some fn) (hname : (fn.name == "runtime.NumGoroutine") = false) (hb : fn.body.isNone = true) (hnx : Extern.findNext fn = none) (he : Extern.find fn = some e)
    (hx : xs.map (eop σ) = vs.map some) (hr : (e vs.toArray).run P w = .ok v w) (h : WL P n ds rest ((d, v) :: σ) w Q) :
    WL P n ds (⟨some d, .call ⟨.value (.func f), xs.toArray, ts⟩, T, pos, af, none⟩ :: rest) σ w Q :=
  wl_run hn (fun ρ hρ => by
    have hxs := eops_eval hx ρ hρ
    have hc : (callFunc f vs.toArray).run P w = .ok (.value v) w := by rw [run_callFunc_extern hf hname hb hnx he, hr]; rfl
    have hf' := hρ (.func f) _ rfl
    simp [execOp, resolve, Deferred.ofValue, invoke, hxs, hc, hf']) h
theorem find_same {p q : Nat → Bool} : ∀ {l : List Nat}, (∀ x ∈ l, p x = q x) → l.find? p = l.find? q := by
  intro l
  induction l with
  | nil => intro _; rfl
  | cons a l ih => intro h; rw [List.find?_cons, List.find?_cons, h a (by simp), ih fun x hx => h x (by simp [hx])]
theorem first_mkS (l : List UInt8) (c : Int) : firstIdx (mkS l) c.toNat.toUInt8 = idxB l c := by
  unfold firstIdx idxB
  have hs : (mkS l).size = l.length := by simp [mkS, ByteArray.size]
  have key : ∀ i ∈ List.range l.length, ((mkS l)[i]! == c.toNat.toUInt8) = (l[i]? == some c.toNat.toUInt8) := by
    intro i hi
    have hlt : i < l.length := List.mem_range.1 hi
    have : (mkS l)[i]! = l[i] := by
      rw [getElem!_pos (mkS l) i (by rw [hs]; exact hlt)]
      rfl
    rw [this, List.getElem?_eq_getElem hlt]
    simp
  rw [hs, find_same key]
  rfl
theorem run_idxB (l : List UInt8) (c : Int) : (Extern.BytealgIndexByte.indexByte #[.string (mkS l), .int .u8 c]).run P w = .ok (.int .i64 (idxB l c)) w := by
  rw [run_indexByte_string, first_mkS]
theorem run_cntB (l : List UInt8) (c : Int) : (Extern.BytealgCount.count #[.string (mkS l), .int .u8 c]).run P w = .ok (.int .i64 (cntB l c)) w := by
  rw [Lib.run_countString]
  rfl
theorem wl_nilCheck {p : Addr} (hn : Nat.blt d n = true) (hx : eop σ x = some (.pointer (some p))) (h : WL P n ds rest ((d, .pointer (some p)) :: σ) w Q) :
    WL P n ds (⟨some d, .nilCheck x, T, pos, af, none⟩ :: rest) σ w Q :=
  wl_run hn (fun ρ hρ => by simp [execOp, hρ _ _ hx]) h
theorem pr_nilCheck {S : World → Prop} {G : Value → Prop} {p : Addr} (hn : Nat.blt d n = true) (hx : eop σ x = some (.pointer (some p))) (h : G (.pointer (some p))) : ∃ v, PR P n σ S d (.nilCheck x) T v ∧ G v :=
  ⟨_, ⟨hn, fun ρ hρ w hw dst pos af gd => by simp [execOp, hρ _ _ hx]⟩, h⟩
theorem EAt.kxr {base i : Nat} {X0 X : List Nat} {p : Addr} {cs : List Value} {L : List Res} {wS : World} (h : EAt (Out X0 w0) w0 p cs) (hS : Sep base wS L) (hg : lget L i = some (R.rest w0 X0)) (hX : ∀ b ∈ (R.rest w0 X0).fp, b ∉ X) :
    ∀ w, KeepX wS X w → EAt (· < wS.heap.size) w p cs := fun w hw => by
  have hb : Out X0 w0 p.block := h.1
  have hlt := (rest_ok hS hg).2 _ hb
  exact ⟨hlt, fun j c hc => by
    rw [cell_keep (w := w0) (w' := w) (a := p.add j) (by rw [add_block, hw.blk _ hlt (hX _ (rest_fp.2 hb)), (rest_ok hS hg).1 _ hb])]
    exact h.2 j c hc⟩
/-! an element of one's own slice, read in the owner's memory -/
theorem wl_indexoF {e : Ty P α} {F : List Nat} {v : Value} {l : List α} {k : IntKind} {ix : Int} {u : α} {i : Nat} {L : List Res} (hu : P.underlying U = some (.slice e.tid)) (hn : Nat.blt d n = true)
    (hx : eop σ x = some v) (hy : eop σ y = some (.int k ix)) (hS : Sep w0.heap.size w L) (hg : lget L i = some (R.own e F v l)) (hi : idx l ix = some u)
    (h : ∀ p cs, e.rd (· ∈ F) w cs u → EAt (· ∈ F) w p cs → OPtr e.sz v p ix.toNat 0 → WL P n ds rest ((d, .pointer (some p)) :: σ) w Q) : WL P n ds (⟨some d, .indexAddr U x y, T, pos, af, none⟩ :: rest) σ w Q := by
  have ho : ownS e F w v l := hS.ok hg
  have hr := ho.rd
  obtain ⟨h0, hl, hlt⟩ := idx_some hi
  rcases ho with ⟨_, rfl, _⟩ | ⟨g, cap, cur, css, Fs, hv, hgg, hnn, hm, hc, ht, hz, hF⟩
  · simp at hlt
  · subst hv
    obtain ⟨a, cap', he, hcap, hel⟩ := hr
    injection he with ha hl' hc'
    rcases hel with rfl | ⟨ad, rfl, hel⟩
    · simp at hlt
    · injection ha with ha
      subst ha
      obtain ⟨ii, zz, hinfo, hsz, _⟩ := e.info
      obtain ⟨hb, cs, hcs, hcc⟩ := hel _ _ hl
      have hc2 : 0 ≤ ix ∧ ix < (l.length : Int) := ⟨h0, by omega⟩
      refine wl_run hn (fun ρ hρ => ?_) (h _ cs hcs ⟨hb, hcc⟩ ⟨g, _, _, rfl, by rw [Addr.add_lit, Nat.zero_add, Nat.add_zero]⟩)
      simp [execOp, hρ _ _ hx, hρ _ _ hy, Instr.indexAt, asIntOf, run_underlying hu, sizeOf, typeInfo, hinfo, hsz, hc2]
theorem pr_indexoF {S : World → Prop} {G : Value → Prop} {e : Ty P α} {F : List Nat} {v : Value} {l : List α} {k : IntKind} {ix : Int} {u : α} {i : Nat} {L : List Res} {w : World} (hu : P.underlying U = some (.slice e.tid)) (hn : Nat.blt d n = true)
    (hx : eop σ x = some v) (hy : eop σ y = some (.int k ix)) (hS : Sep w0.heap.size w L) (hg : lget L i = some (R.own e F v l)) (hi : idx l ix = some u)
    (h : ∀ p cs, e.rd (· ∈ F) w cs u → EAt (· ∈ F) w p cs → OPtr e.sz v p ix.toNat 0 → G (.pointer (some p))) : ∃ v, PR P n σ S d (.indexAddr U x y) T v ∧ G v := by
  have ho : ownS e F w v l := hS.ok hg
  have hr := ho.rd
  obtain ⟨h0, hl, hlt⟩ := idx_some hi
  rcases ho with ⟨_, rfl, _⟩ | ⟨g, cap, cur, css, Fs, hv, hgg, hnn, hm, hc, ht, hz, hF⟩
  · simp at hlt
  · subst hv
    obtain ⟨a, cap', he, hcap, hel⟩ := hr
    injection he with ha hl' hc'
    rcases hel with rfl | ⟨ad, rfl, hel⟩
    · simp at hlt
    · injection ha with ha
      subst ha
      obtain ⟨ii, zz, hinfo, hsz, _⟩ := e.info
      obtain ⟨hb, cs, hcs, hcc⟩ := hel _ _ hl
      have hc2 : 0 ≤ ix ∧ ix < (l.length : Int) := ⟨h0, by omega⟩
      refine ⟨_, ⟨hn, fun ρ hρ w _ dst pos af gd => ?_⟩, h _ cs hcs ⟨hb, hcc⟩ ⟨g, _, _, rfl, by rw [Addr.add_lit, Nat.zero_add, Nat.add_zero]⟩⟩
      simp [execOp, hρ _ _ hx, hρ _ _ hy, Instr.indexAt, asIntOf, run_underlying hu, sizeOf, typeInfo, hinfo, hsz, hc2]
theorem nf_nil {b : Nat} : b ∉ fps [] := by simp [fps]
theorem nf_cons {b : Nat} {r : Res} {M : List Res} (h : b ∉ r.fp) (h2 : b ∉ fps M) : b ∉ fps (r :: M) := by
  intro hb
  rw [mem_fps] at hb h2
  obtain ⟨s, hs, hx⟩ := hb
  rcases List.mem_cons.1 hs with rfl | hs
  · exact h hx
  · exact h2 ⟨s, hs, hx⟩
/-! a box that is lent comes back -/
theorem box_kept {b : Nat} {V V' : TypeId} {cs cs' : List Value} {N : List Res} {w w' : World} (hS' : Sep 0 w' (R.rest w (fps [R.blk b V cs]) :: R.blk b V' cs' :: N)) :
    w.heap.size ≤ w'.heap.size ∧ (∀ c, c < w.heap.size → c ∉ [b] → w'.heap[c]? = w.heap[c]?) ∧ ∀ c ∈ [b], c ∈ [b] ∨ w.heap.size ≤ c := by
  have hfp : ∀ c, c ∈ fps [R.blk b V cs] ↔ c = b := fun c => by simp [fps, R.blk]
  refine ⟨?_, fun c hc hb => mut_kept hS' c hc (fun hx => hb (by rw [(hfp c).1 hx]; simp)), fun c hc => .inl hc⟩
  by_cases h0 : w.heap.size = 0
  · omega
  · by_cases hb : w.heap.size - 1 = b
    · have := ((hS'.1 (R.blk b V' cs') (by simp)).2.1 b (by simp [R.blk])).2
      omega
    · have := ((hS'.1 _ (List.mem_cons_self ..)).2.1 (w.heap.size - 1) (rest_fp.2 ⟨by omega, fun hx => hb ((hfp _).1 hx)⟩)).2
      omega
theorem lget_mem : ∀ {L : List Res} {i : Nat} {r : Res}, lget L i = some r → r ∈ L
  | [], _, _, h => by cases h
  | a :: L, 0, r, h => by cases h; simp
  | a :: L, i + 1, r, h => List.mem_cons_of_mem _ (lget_mem (L := L) h)
theorem box_new {b i : Nat} {V V' : TypeId} {cs cs' : List Value} {N : List Res} {w w' : World} {r : Res} (hS' : Sep 0 w' (R.rest w (fps [R.blk b V cs]) :: R.blk b V' cs' :: N)) (hg : lget N i = some r) : ∀ c ∈ r.fp, w.heap.size ≤ c := by
  intro c hc
  have hm := lget_mem hg
  have hfp : ∀ c, c ∈ fps [R.blk b V cs] ↔ c = b := fun c => by simp [fps, R.blk]
  have hd := hS'.2
  cases hd with
  | cons h1 hd =>
    cases hd with
    | cons h2 _ =>
      by_cases hlt : c < w.heap.size
      · by_cases hb : c = b
        · exact absurd hc (h2 r hm c (by simp [R.blk, hb]))
        · exact absurd hc (h1 r (by simp [hm]) c (rest_fp.2 ⟨hlt, fun hx => hb ((hfp _).1 hx)⟩))
      · omega
end Go.Proofs.Ytmkignciedkidaa
