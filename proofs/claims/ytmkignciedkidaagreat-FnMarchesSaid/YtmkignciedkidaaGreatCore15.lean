/-
  CORE, 15: slices of slices of one's own: prefixes that are appended to, tails that are cleared. Over any program.
-/
import Derived.Test.YtmkignciedkidaaGreatCore14
set_option linter.unusedSimpArgs false
set_option linter.unusedVariables false
namespace Go.Proofs.YtmkignciedkidaaGreat
open Go Go.RowKit
variable {P : Program} {α : Type} {n : Nat} {ds : List (Option Tmp)} {d : Nat} {T U : TypeId} {pos : String} {af : Array Edge} {rest : List Oper} {x y z : Operand} {σ : Env} {w w0 : World} {Q : Exit → Act → World → Prop} {L M : List Res} {S : World → Prop} {G : Value → Prop}
/-- 'v[lo:hi]' as a value. -/
def SlOf (sz : Nat) (v v' : Value) (lo hi : Nat) : Prop := ∃ a n c, v = .slice a n c ∧ v' = .slice (if c = lo then a else a.map (·.add (lo * sz))) (hi - lo) (c - lo)
def CapGe (v : Value) (k : Nat) : Prop := ∃ a n c, v = .slice a n c ∧ k ≤ c
theorem cutL_some {l u : List α} {k j : Int} (h : cutL l k j = some u) : u = l.take k.toNat ++ l.drop j.toNat ∧ k.toNat ≤ j.toNat ∧ j.toNat ≤ l.length ∧ u.length ≤ l.length := by
  unfold cutL at h
  split at h
  · rename_i hb
    have e := (Option.some.inj h).symm
    refine ⟨e, by omega, by omega, ?_⟩
    rw [e]
    simp
    omega
  · cases h
theorem sl_le {l u : List α} {lo hi : Int} (h : sl l lo hi = some u) : hi.toNat ≤ l.length ∧ u = (l.take hi.toNat).drop lo.toNat := by
  unfold sl at h
  split at h
  · exact ⟨by omega, (Option.some.inj h).symm⟩
  · cases h
theorem Sep.shrink {base : Nat} {w : World} {M : List Res} {r r' : Res} (h : Sep base w (r :: M)) (hnd : r'.fp.Nodup) (hsub : ∀ b ∈ r'.fp, b ∈ r.fp) (hok : ∀ w', (∀ b ∈ r'.fp, w'.heap[b]? = w.heap[b]?) → r'.ok w') : Sep base w (r' :: M) := by
  obtain ⟨h1, h2⟩ := h
  cases h2 with
  | cons hd ht =>
    refine ⟨fun s hs => ?_, .cons (fun s hs b hb => hd s hs b (hsub b hb)) ht⟩
    cases hs with
    | head =>
      have hg := h1 r (by simp)
      exact ⟨hnd, fun b hb => hg.2.1 b (hsub b hb), hok⟩
    | tail _ hs => exact h1 s (.tail _ hs)
theorem run_sliceOf {e : Ty P α} {a : Option Addr} {len cap : Nat} {lo hi : Int} (hu : P.underlying U = some (.slice e.tid)) (h0 : 0 ≤ lo) (h1 : lo ≤ hi) (h2 : hi ≤ (cap : Int)) (hlc : len ≤ cap) (vlo vhi vmax : Option Value) (w : World)
    (hlo : (vlo = none ∧ lo = 0) ∨ ∃ k, vlo = some (.int k lo)) (hhi : (vhi = none ∧ hi = len) ∨ ∃ k, vhi = some (.int k hi)) (hm : vmax = none) :
    (Instr.sliceAt U (.slice a len cap) vlo vhi vmax).run P w = .ok (.slice (if cap = lo.toNat then a else a.map (·.add (lo.toNat * e.sz))) (hi.toNat - lo.toNat) (cap - lo.toNat)) w := by
  subst hm
  obtain ⟨i, z, hinfo, hsz, _⟩ := e.info
  have key : (Instr.sliceBounds true len cap vlo vhi none).run P w = .ok (lo.toNat, hi.toNat, cap) w := by
    have hh : 0 ≤ hi ∧ hi ≤ (cap : Int) := ⟨by omega, h2⟩
    rcases hhi with ⟨rfl, rfl⟩ | ⟨k, rfl⟩
    · rcases hlo with ⟨rfl, rfl⟩ | ⟨k', rfl⟩
      · simp [Instr.sliceBounds]
      · have hlo' : 0 ≤ lo ∧ lo ≤ (len : Int) := ⟨h0, h1⟩
        simp [Instr.sliceBounds, Instr.sliceBound, asIntOf, hlo']
    · rcases hlo with ⟨rfl, rfl⟩ | ⟨k', rfl⟩
      · simp [Instr.sliceBounds, Instr.sliceBound, asIntOf, hh]
      · have e1 : ((hi.toNat : Nat) : Int) = hi := by omega
        have hlo' : 0 ≤ lo ∧ lo ≤ ((hi.toNat : Nat) : Int) := ⟨h0, by omega⟩
        simp only [Instr.sliceBounds, Instr.sliceBound, asIntOf, Sem.run_bind, Sem.run_pure, Result.andThen_ok, hh, and_self, if_true, hlo', Option.isSome_none]
  simp [Instr.sliceAt, Instr.slice, run_underlying hu, key, sizeOf, typeInfo, hinfo, hsz]
/-- 'v[lo:hi]' within the length, with what it reads and what it is. -/
theorem wl_sliceof {e : Ty P α} {S1 : Nat → Prop} {w1 : World} {v : Value} {l m : List α} {lo hi : Int} {olo ohi : Option Operand} (hu : P.underlying U = some (.slice e.tid)) (hn : Nat.blt d n = true)
    (hx : eop σ x = some v) (hr : rdS e S1 w1 v l) (hm : sl l lo hi = some m)
    (hlo : (olo = none ∧ lo = 0) ∨ ∃ o k, olo = some o ∧ eop σ o = some (.int k lo)) (hhi : (ohi = none ∧ hi = l.length) ∨ ∃ o k, ohi = some o ∧ eop σ o = some (.int k hi))
    (h : ∀ v', rdS e S1 w1 v' m → SlOf e.sz v v' lo.toNat hi.toNat → WL P n ds rest ((d, v') :: σ) w Q) : WL P n ds (⟨some d, .slice U x olo ohi none, T, pos, af, none⟩ :: rest) σ w Q := by
  obtain ⟨v', hrun, hr'⟩ := run_slice_rd hu hr hm
  obtain ⟨a, cap, hv, hc, _⟩ := hr
  unfold sl at hm
  split at hm
  case isFalse => cases hm
  rename_i hb
  have hlo' : (olo.map (fun _ => Value.int .i64 lo) = none ∧ lo = 0) ∨ ∃ k, olo.map (fun _ => Value.int .i64 lo) = some (.int k lo) := by
    rcases hlo with ⟨h, h'⟩ | ⟨o, k, h, _⟩
    · exact .inl ⟨by rw [h]; rfl, h'⟩
    · exact .inr ⟨.i64, by rw [h]; rfl⟩
  have hhi' : (ohi.map (fun _ => Value.int .i64 hi) = none ∧ hi = l.length) ∨ ∃ k, ohi.map (fun _ => Value.int .i64 hi) = some (.int k hi) := by
    rcases hhi with ⟨h, h'⟩ | ⟨o, k, h, _⟩
    · exact .inl ⟨by rw [h]; rfl, h'⟩
    · exact .inr ⟨.i64, by rw [h]; rfl⟩
  have h1 := hrun _ _ w hlo' hhi'
  have h2 := run_sliceOf (P := P) (e := e) (a := a) (len := l.length) (cap := cap) hu hb.1 hb.2.1 (by omega) hc _ _ none w hlo' hhi' rfl
  rw [hv] at h1
  rw [h1] at h2
  injection h2 with h2 _
  refine wl_run hn (fun ρ hρ => ?_) (h v' hr' ⟨a, l.length, cap, hv, h2⟩)
  have := hrun (olo.map ρ) (ohi.map ρ) w (hlo.imp (fun ⟨h, h'⟩ => ⟨by rw [h]; rfl, h'⟩) fun ⟨o, k, h, h'⟩ => ⟨k, by rw [h]; simp [hρ _ _ h']⟩)
    (hhi.imp (fun ⟨h, h'⟩ => ⟨by rw [h]; rfl, h'⟩) fun ⟨o, k, h, h'⟩ => ⟨k, by rw [h]; simp [hρ _ _ h']⟩)
  simp [execOp, hρ _ _ hx, this]
theorem pr_sliceof {e : Ty P α} {S1 : Nat → Prop} {w1 : World} {v : Value} {l m : List α} {lo hi : Int} {olo ohi : Option Operand} (hu : P.underlying U = some (.slice e.tid)) (hn : Nat.blt d n = true)
    (hx : eop σ x = some v) (hr : rdS e S1 w1 v l) (hm : sl l lo hi = some m)
    (hlo : (olo = none ∧ lo = 0) ∨ ∃ o k, olo = some o ∧ eop σ o = some (.int k lo)) (hhi : (ohi = none ∧ hi = l.length) ∨ ∃ o k, ohi = some o ∧ eop σ o = some (.int k hi))
    (h : ∀ v', rdS e S1 w1 v' m → SlOf e.sz v v' lo.toNat hi.toNat → G v') : ∃ v, PR P n σ S d (.slice U x olo ohi none) T v ∧ G v := by
  obtain ⟨v', hrun, hr'⟩ := run_slice_rd hu hr hm
  obtain ⟨a, cap, hv, hc, _⟩ := hr
  unfold sl at hm
  split at hm
  case isFalse => cases hm
  rename_i hb
  have hlo' : (olo.map (fun _ => Value.int .i64 lo) = none ∧ lo = 0) ∨ ∃ k, olo.map (fun _ => Value.int .i64 lo) = some (.int k lo) := by
    rcases hlo with ⟨h, h'⟩ | ⟨o, k, h, _⟩
    · exact .inl ⟨by rw [h]; rfl, h'⟩
    · exact .inr ⟨.i64, by rw [h]; rfl⟩
  have hhi' : (ohi.map (fun _ => Value.int .i64 hi) = none ∧ hi = l.length) ∨ ∃ k, ohi.map (fun _ => Value.int .i64 hi) = some (.int k hi) := by
    rcases hhi with ⟨h, h'⟩ | ⟨o, k, h, _⟩
    · exact .inl ⟨by rw [h]; rfl, h'⟩
    · exact .inr ⟨.i64, by rw [h]; rfl⟩
  have h1 := hrun _ _ w1 hlo' hhi'
  have h2 := run_sliceOf (P := P) (e := e) (a := a) (len := l.length) (cap := cap) hu hb.1 hb.2.1 (by omega) hc _ _ none w1 hlo' hhi' rfl
  rw [hv] at h1
  rw [h1] at h2
  injection h2 with h2 _
  refine ⟨v', ⟨hn, fun ρ hρ w _ dst pos af gd => ?_⟩, h v' hr' ⟨a, l.length, cap, hv, h2⟩⟩
  have := hrun (olo.map ρ) (ohi.map ρ) w (hlo.imp (fun ⟨h, h'⟩ => ⟨by rw [h]; rfl, h'⟩) fun ⟨o, k, h, h'⟩ => ⟨k, by rw [h]; simp [hρ _ _ h']⟩)
    (hhi.imp (fun ⟨h, h'⟩ => ⟨by rw [h]; rfl, h'⟩) fun ⟨o, k, h, h'⟩ => ⟨k, by rw [h]; simp [hρ _ _ h']⟩)
  simp [execOp, hρ _ _ hx, this]
theorem SlOf.inv {sz : Nat} {a : Option Addr} {n c lo hi : Nat} {v' : Value} (h : SlOf sz (.slice a n c) v' lo hi) : v' = .slice (if c = lo then a else a.map (·.add (lo * sz))) (hi - lo) (c - lo) := by
  obtain ⟨a', n', c', e, h⟩ := h
  cases e
  exact h
theorem sub_flatten {Fs Gs : List (List Nat)} (h : Gs.Sublist Fs) : Gs.flatten.Sublist Fs.flatten := by
  induction h with
  | slnil => exact .slnil
  | cons a _ ih => rw [List.flatten_cons]; exact List.Sublist.trans ih (List.sublist_append_right _ _)
  | cons_cons a _ ih => rw [List.flatten_cons, List.flatten_cons]; exact List.Sublist.append (List.Sublist.refl _) ih
theorem Z3.take {R : List Nat → List Value → α → Prop} : ∀ (k : Nat) {Fs : List (List Nat)} {css : List (List Value)} {l : List α}, Z3 R Fs css l → Z3 R (Fs.take k) (css.take k) (l.take k)
  | 0, _, _, _, _ => by simp only [List.take_zero]; trivial
  | k + 1, [], [], [], h => by simp only [List.take_nil]; trivial
  | k + 1, _ :: _, _ :: _, _ :: _, h => by simp only [List.take_succ_cons]; exact ⟨h.1, Z3.take k h.2⟩
theorem Z3.drop {R : List Nat → List Value → α → Prop} : ∀ (k : Nat) {Fs : List (List Nat)} {css : List (List Value)} {l : List α}, Z3 R Fs css l → Z3 R (Fs.drop k) (css.drop k) (l.drop k)
  | 0, _, _, _, h => by simpa only [List.drop_zero] using h
  | k + 1, [], [], [], h => by simp only [List.drop_nil]; trivial
  | k + 1, _ :: _, _ :: _, _ :: _, h => by simp only [List.drop_succ_cons]; exact Z3.drop k h.2
theorem flatten_take {sz : Nat} : ∀ (css : List (List Value)) (k : Nat), (∀ c ∈ css, c.length = sz) → k ≤ css.length → css.flatten.take (k * sz) = (css.take k).flatten
  | css, 0, _, _ => by simp
  | [], k + 1, _, h => by simp at h
  | c :: css, k + 1, hc, h => by
    have h1 := hc c (by simp)
    rw [List.flatten_cons, List.take_succ_cons, List.flatten_cons, Nat.succ_mul, Nat.add_comm, ← h1, List.take_length_add_append, h1, flatten_take css k (fun c hc' => hc c (by simp [hc'])) (by simpa using h)]
theorem flatten_drop {sz : Nat} : ∀ (css : List (List Value)) (k : Nat), (∀ c ∈ css, c.length = sz) → k ≤ css.length → css.flatten.drop (k * sz) = (css.drop k).flatten
  | css, 0, _, _ => by simp
  | [], k + 1, _, h => by simp at h
  | c :: css, k + 1, hc, h => by
    have h1 := hc c (by simp)
    rw [List.flatten_cons, List.drop_succ_cons, Nat.succ_mul, Nat.add_comm, ← h1, List.drop_length_add_append, h1, flatten_drop css k (fun c hc' => hc c (by simp [hc'])) (by simpa using h)]
/-- A prefix of what is owned is owned. -/
theorem own_pre {e : Ty P α} {F : List Nat} {v v' : Value} {l : List α} {k : Nat} (ho : ownS e F w v l) (hnd : F.Nodup) (hs : SlOf e.sz v v' 0 k) (hk : k ≤ l.length) : ∃ F', ownS e F' w v' (l.take k) ∧ F'.Nodup ∧ ∀ b ∈ F', b ∈ F := by
  rcases ho with ⟨rfl, rfl, rfl⟩ | ⟨g, cap, cur, css, Fs, rfl, hg, hn, hm, hc, ht, hz, rfl⟩
  · have hv := hs.inv
    simp at hk
    subst hk
    exact ⟨[], .inl ⟨by simpa using hv, by simp, rfl⟩, .nil, fun _ h => h⟩
  · have hv := hs.inv
    have hv' : v' = .slice (some ⟨g, 0, none⟩) k cap := by
      rw [hv]
      by_cases h0 : cap = 0
      · simp [h0]
      · simp [h0, Addr.add_zero']
    obtain ⟨n1, n2⟩ := hz.len
    refine ⟨g :: (Fs.take k).flatten, .inr ⟨g, cap, cur, css.take k, Fs.take k, by rw [hv', List.length_take, Nat.min_eq_left hk], hg, by rw [List.length_take]; omega, hm, hc, ?_, Z3.take k hz, rfl⟩, ?_, fun b hb => ?_⟩
    · rw [List.length_take, Nat.min_eq_left hk, ← flatten_take css k hz.sz (by omega), ← ht, List.take_take, Nat.min_eq_left (Nat.mul_le_mul_right _ hk)]
    · exact List.Nodup.sublist (List.Sublist.cons_cons g (sub_flatten (List.take_sublist k Fs))) hnd
    · exact (List.Sublist.cons_cons g (sub_flatten (List.take_sublist k Fs))).subset hb
/-- 'append(v[:k], v[j:]...)', k at most j: it stays in its place. -/
theorem run_appendcut {e : Ty P α} (hu : P.underlying U = some (.slice e.tid)) {F : List Nat} {v vx vy : Value} {l : List α} {k j : Nat} (ho : ownS e F w v l) (hnd : F.Nodup) (hx : SlOf e.sz v vx 0 k) (hy : SlOf e.sz v vy j l.length) (hkj : k ≤ j) (hj : j ≤ l.length) :
    ∃ v' w' F', (Builtin.append_ #[U, U] T #[vx, vy]).run P w = .ok v' w' ∧ ownS e F' w' v' (l.take k ++ l.drop j) ∧ F'.Nodup ∧ (∀ b ∈ F', b ∈ F) ∧ CapGe v' l.length ∧ w'.heap.size = w.heap.size ∧ (∀ b, b ∉ F → w'.heap[b]? = w.heap[b]?) ∧ w'.os = w.os ∧ w'.tape = w.tape ∧ w'.output = w.output := by
  obtain ⟨i, zz, hinfo, hsz, hby, hz0, hzc⟩ := e.info
  rcases ho with ⟨rfl, rfl, rfl⟩ | ⟨g, cap, cur, css, Fs, rfl, hg, hn, hm, hc, ht, hz, rfl⟩
  · have hvx := hx.inv
    have hvy := hy.inv
    simp at hj
    subst hj
    have hk0 : k = 0 := by omega
    subst hk0
    have ex : vx = .slice none 0 0 := by simpa using hvx
    have ey : vy = .slice none 0 0 := by simpa using hvy
    subst ex; subst ey
    exact ⟨.slice none 0 0, w, [], by simp [Builtin.append_, run_underlying hu, sizeOf, typeInfo, hinfo, Builtin.lenOf, Builtin.firstCells, loadCells, loadCellsFrom], .inl ⟨rfl, by simp, rfl⟩, .nil, fun _ h => h, ⟨_, _, _, rfl, by simp⟩, rfl, fun _ _ => rfl, rfl, rfl, rfl⟩
  · obtain ⟨n1, n2⟩ := hz.len
    have hszs := hz.sz
    have hvx : vx = .slice (some ⟨g, 0, none⟩) k cap := by
      rw [hx.inv]
      by_cases h0 : cap = 0
      · simp [h0]
      · simp [h0, Addr.add_zero']
    obtain ⟨ya, hvy, hya⟩ : ∃ ya, vy = .slice (some ya) (l.length - j) (cap - j) ∧ (j < l.length → ya = ⟨g, j * e.sz, none⟩) := by
      rw [hy.inv]
      by_cases h0 : cap = j
      · exact ⟨⟨g, 0, none⟩, by simp [h0], fun h => by omega⟩
      · exact ⟨⟨g, j * e.sz, none⟩, by simp [h0, Addr.add_lit], fun _ => rfl⟩
    have hnl : (css.drop j).flatten.length = (l.length - j) * e.sz := by
      rw [flatten_len (sz := e.sz) (fun c hc => hszs c (List.mem_of_mem_drop hc)), List.length_drop, n2]
    have hcurl : cur.toList.length = cap * e.sz := by simpa using hc
    have hnews : ∀ (q : Nat) u, (css.drop j).flatten[q]? = some u → w.cell? (ya.add q) = some u := by
      intro q u hq
      have hlt : q < (l.length - j) * e.sz := by rw [← hnl]; exact (List.getElem?_eq_some_iff.1 hq).1
      have hjl : j < l.length := by
        rcases Nat.lt_or_ge j l.length with h | h
        · exact h
        · rw [show l.length - j = 0 by omega, Nat.zero_mul] at hlt
          omega
      rw [hya hjl, Addr.add_lit, cell_of_row w g _ cur e.tid (0, 0) hg]
      rw [← flatten_drop css j hszs (by omega), ← ht, List.getElem?_drop, List.getElem?_take] at hq
      split at hq
      · simpa using hq
      · cases hq
    have hones : ∀ u ∈ (css.drop j).flatten, u.oneCell' = true := by
      intro u hu'
      obtain ⟨c, hc', hu'⟩ := List.mem_flatten.1 hu'
      obtain ⟨q, hq⟩ := List.getElem?_of_mem (List.mem_of_mem_drop hc')
      have hlt : q < l.length := by rw [← n2]; exact (List.getElem?_eq_some_iff.1 hq).1
      obtain ⟨a, b, _, h2, h3⟩ := hz.get q l[q] (by simp [hlt])
      rw [hq] at h2
      cases h2
      exact e.rd_one (e.own_rd h3) u hu'
    have hroom : k + (l.length - j) ≤ cap := by omega
    have hfit : k * i.size + (css.drop j).flatten.length ≤ cur.size := by
      rw [hsz, hnl, ← Nat.add_mul, hc]
      exact Nat.mul_le_mul_right _ hroom
    have hr := run_append_room (P := P) w U T e.tid i hu hinfo g k cap cur hg ya (l.length - j) (cap - j) (css.drop j).flatten (by rw [hsz]; exact hnl) hnews hones hroom hfit
    have hnd' := hnd
    rw [List.nodup_cons] at hnd'
    have hsub : (Fs.take k ++ Fs.drop j).Sublist Fs := by
      have h1 : (Fs.drop j).Sublist (Fs.drop k) := by
        have : Fs.drop j = (Fs.drop k).drop (j - k) := by rw [List.drop_drop]; congr 1; omega
        rw [this]
        exact List.drop_sublist _ _
      have := List.Sublist.append (List.Sublist.refl (Fs.take k)) h1
      rwa [List.take_append_drop] at this
    subst hvx
    subst hvy
    have hlen2 : (l.take k ++ l.drop j).length = k + (l.length - j) := by simp; omega
    refine ⟨_, _, g :: (Fs.take k ++ Fs.drop j).flatten, hr, .inr ⟨g, cap, _, css.take k ++ css.drop j, Fs.take k ++ Fs.drop j, by rw [hlen2], setRow_heap w g cur _ e.tid _ hg, by rw [hlen2]; exact hroom, hm, ?_, ?_, ?_, rfl⟩, ?_, fun b hb => ?_, ⟨_, _, _, rfl, hn⟩, by simp, fun b hb => setRow_other w g b _ fun h => hb (by rw [h]; simp), rfl, rfl, rfl⟩
    · simp only [List.size_toArray, List.length_append, List.length_take, List.length_drop, Array.length_toList]
      rw [hc] at hfit ⊢
      omega
    · rw [hlen2, List.toList_toArray, hsz, List.flatten_append, ← flatten_take css k hszs (by omega), ← ht, List.take_take, Nat.min_eq_left (Nat.mul_le_mul_right _ (by omega))]
      have h1 : (cur.toList.take (k * e.sz) ++ (css.drop j).flatten).length = (k + (l.length - j)) * e.sz := by
        rw [List.length_append, List.length_take, hnl, hcurl, Nat.min_eq_left (Nat.mul_le_mul_right _ (by omega)), Nat.add_mul]
      rw [← h1, List.take_left]
    · refine Z3.of (by simp [n1]) (by simp [n2]) fun q a c u ha hc' hu' => ?_
      have hz2 := Z3.app (Z3.take k hz) (Z3.drop j hz)
      obtain ⟨a', c', h1, h2, h3⟩ := hz2.get q u hu'
      rw [ha] at h1
      rw [hc'] at h2
      cases h1
      cases h2
      refine e.own_keep h3 fun b hb => setRow_other w g b _ fun h => hnd'.1 ?_
      rw [← h]
      exact (sub_flatten hsub).subset (List.mem_flatten.2 ⟨a, List.mem_of_getElem? ha, hb⟩)
    · exact List.Nodup.sublist (List.Sublist.cons_cons g (sub_flatten hsub)) hnd
    · exact (List.Sublist.cons_cons g (sub_flatten hsub)).subset hb
theorem wl_appendcut {e : Ty P α} {F : List Nat} {v vx vy : Value} {l : List α} {k j : Nat} (hu : P.underlying U = some (.slice e.tid)) (hn : Nat.blt d n = true)
    (hx : eop σ x = some vx) (hy : eop σ y = some vy) (hB : Below w0.heap.size w0 w) (hS : Sep w0.heap.size w (R.own e F v l :: M)) (sx : SlOf e.sz v vx 0 k) (sy : SlOf e.sz v vy j l.length) (hkj : k ≤ j) (hj : j ≤ l.length)
    (h : ∀ v' F' w', (w.heap.size ≤ w'.heap.size ∧ (∀ b, b < w.heap.size → b ∉ F → w'.heap[b]? = w.heap[b]?) ∧ ∀ b ∈ F', b ∈ F ∨ w.heap.size ≤ b) → CapGe v' l.length → Below w0.heap.size w0 w' → Sep w0.heap.size w' (R.own e F' v' (l.take k ++ l.drop j) :: M) → WL P n ds rest ((d, v') :: σ) w' Q) :
    WL P n ds (⟨some d, .call ⟨.builtin .append, #[x, y], #[U, U]⟩, T, pos, af, none⟩ :: rest) σ w Q := by
  have hg0 := hS.get (i := 0) rfl
  obtain ⟨v', w', F', hrun, ho, hnd, hF, hcap, hsz, hkp, h1, h2, h3⟩ := run_appendcut (T := T) hu (hS.ok (i := 0) rfl : ownS e F w v l) hg0.1 sx sy hkj hj
  have hS3 := hS.upd (i := 0) (w' := w') (r' := R.own e F' v' (l.take k ++ l.drop j)) rfl (by omega) (fun b _ _ hb => hkp b hb) hnd (fun b hb => .inl (hF b hb)) hB.size fun w'' hk => ho.keep hk
  exact wl_run hn (fun ρ hρ => by simp [execOp, resolve, invoke, builtin, hρ _ _ hx, hρ _ _ hy, hrun])
    (h v' F' w' ⟨by omega, fun b _ hb => hkp b hb, fun b hb => .inl (hF b hb)⟩ hcap ⟨h1.trans hB.os, h2.trans hB.tape, h3.trans hB.output, by have := hB.size; omega, fun b hb => (hkp b fun hx => by have := (hg0.2.1 b hx).1; omega).trans (hB.block b hb)⟩ hS3)
/-- 'v[lo:hi]' up to the capacity: a value only. -/
theorem wl_slicetail {e : Ty P α} {v : Value} {lo hi : Int} {olo ohi : Operand} {k1 k2 : IntKind} {S1 : Nat → Prop} {w1 : World} {l : List α} (hu : P.underlying U = some (.slice e.tid)) (hn : Nat.blt d n = true)
    (hx : eop σ x = some v) (hr : rdS e S1 w1 v l) (hlo : eop σ olo = some (.int k1 lo)) (hhi : eop σ ohi = some (.int k2 hi)) (h0 : 0 ≤ lo) (h1 : lo ≤ hi) (hc : CapGe v hi.toNat)
    (h : ∀ v', SlOf e.sz v v' lo.toNat hi.toNat → WL P n ds rest ((d, v') :: σ) w Q) : WL P n ds (⟨some d, .slice U x (some olo) (some ohi) none, T, pos, af, none⟩ :: rest) σ w Q := by
  obtain ⟨a, cap, rfl, hlc, _⟩ := hr
  obtain ⟨a', n', c', e1, hc⟩ := hc
  cases e1
  refine wl_run hn (fun ρ hρ => ?_) (h _ ⟨a, l.length, cap, rfl, rfl⟩)
  have := run_sliceOf (P := P) (e := e) (a := a) (len := l.length) (cap := cap) hu h0 h1 (by omega) hlc (some (ρ olo)) (some (ρ ohi)) none w (.inr ⟨k1, by rw [hρ _ _ hlo]⟩) (.inr ⟨k2, by rw [hρ _ _ hhi]⟩) rfl
  simp [execOp, hρ _ _ hx, this]
/-- 'v[lo:hi:max]' with the length for the greatest: a check of bounds. -/
theorem wl_slice3 {e : Ty P α} {v : Value} {lo hi : Int} {olo ohi omax : Operand} {k1 k2 k3 : IntKind} {S1 : Nat → Prop} {w1 : World} {l m : List α} (hu : P.underlying U = some (.slice e.tid)) (hn : Nat.blt d n = true)
    (hx : eop σ x = some v) (hr : rdS e S1 w1 v l) (hlo : eop σ olo = some (.int k1 lo)) (hhi : eop σ ohi = some (.int k2 hi)) (hmax : eop σ omax = some (.int k3 (l.length : Int))) (hm : sl l lo hi = some m)
    (h : ∀ v', WL P n ds rest ((d, v') :: σ) w Q) : WL P n ds (⟨some d, .slice U x (some olo) (some ohi) (some omax), T, pos, af, none⟩ :: rest) σ w Q := by
  obtain ⟨a, cap, rfl, hlc, _⟩ := hr
  unfold sl at hm
  split at hm
  case isFalse => cases hm
  rename_i hb
  obtain ⟨i, z, hinfo, hsz, _⟩ := e.info
  have c1 : 0 ≤ (l.length : Int) ∧ (l.length : Int) ≤ (cap : Int) := ⟨by omega, by omega⟩
  have c2 : 0 ≤ hi ∧ hi ≤ (((l.length : Int).toNat : Nat) : Int) := ⟨by omega, by omega⟩
  have c3 : 0 ≤ lo ∧ lo ≤ ((hi.toNat : Nat) : Int) := ⟨by omega, by omega⟩
  refine wl_runx hn fun ρ hρ => ?_
  have key : (Instr.sliceBounds true l.length cap (some (ρ olo)) (some (ρ ohi)) (some (ρ omax))).run P w = .ok (lo.toNat, hi.toNat, (l.length : Int).toNat) w := by
    simp only [Instr.sliceBounds, Instr.sliceBound, asIntOf, hρ _ _ hlo, hρ _ _ hhi, hρ _ _ hmax, Sem.run_bind, Sem.run_pure, Result.andThen_ok, c1, c2, c3, and_self, if_true, Option.isSome_some]
  refine ⟨.slice (if l.length = lo.toNat then a else a.map (·.add (lo.toNat * e.sz))) (hi.toNat - lo.toNat) (l.length - lo.toNat), w, ?_, h _⟩
  simp only [Int.toNat_natCast] at key
  simp [execOp, hρ _ _ hx, Instr.sliceAt, Instr.slice, run_underlying hu, key, sizeOf, typeInfo, hinfo, hsz]
theorem wl_uv {op : Op} {v : Value} {w' : World}
    (hr : ∀ ρ : Operand → Value, (∀ x v, eop σ x = some v → ρ x = v) → (execOp ρ ⟨none, op, T, pos, af, none⟩).run P w = .ok (.value v) w')
    (h : WL P n ds rest σ w' Q) : WL P n ds (⟨none, op, T, pos, af, none⟩ :: rest) σ w Q := by
  intro ops ho a ha
  refine wpList_plain rfl fun K hK => ?_
  unfold Oper.wp
  rw [hr a.eval (fun x v hx => ha.eval hx)]
  exact hK _ _ (h ops ho _ ha)
/-- 'clear(v[len(v):k])': what is owned stays. -/
theorem wl_clear {e : Ty P α} {F : List Nat} {v vt : Value} {l : List α} {k : Nat} (hu : P.underlying U = some (.slice e.tid))
    (hx : eop σ x = some vt) (hB : Below w0.heap.size w0 w) (hS : Sep w0.heap.size w (R.own e F v l :: M)) (st : SlOf e.sz v vt l.length k) (hk : l.length ≤ k) (hc : CapGe v k)
    (h : ∀ w', (w.heap.size ≤ w'.heap.size ∧ (∀ b, b < w.heap.size → b ∉ F → w'.heap[b]? = w.heap[b]?) ∧ ∀ b ∈ F, b ∈ F ∨ w.heap.size ≤ b) → Below w0.heap.size w0 w' → Sep w0.heap.size w' (R.own e F v l :: M) → WL P n ds rest σ w' Q) :
    WL P n ds (⟨none, .call ⟨.builtin .clear, #[x], #[U]⟩, T, pos, af, none⟩ :: rest) σ w Q := by
  have hg0 := hS.get (i := 0) rfl
  have ho : ownS e F w v l := hS.ok (i := 0) rfl
  have hkp0 : ∀ b ∈ F, b ∈ F ∨ w.heap.size ≤ b := fun b hb => .inl hb
  have hpure : ∀ vt, eop σ x = some vt → (∃ a c, vt = .slice a 0 c) → WL P n ds (⟨none, .call ⟨.builtin .clear, #[x], #[U]⟩, T, pos, af, none⟩ :: rest) σ w Q := by
    intro vt hx ⟨a, c, e1⟩
    subst e1
    refine wl_uv (v := .tuple #[]) (fun ρ hρ => ?_) (h w ⟨Nat.le_refl _, fun _ _ _ => rfl, hkp0⟩ hB hS)
    cases a <;> simp [execOp, resolve, invoke, builtin, hρ _ _ hx, Builtin.clear_, run_underlying hu]
  rcases ho with ⟨rfl, rfl, rfl⟩ | ⟨g, cap, cur, css, Fs, rfl, hg, hn, hm, hcs, ht, hz, rfl⟩
  · obtain ⟨a, n, c, e1, hc⟩ := hc
    cases e1
    have hv := st.inv
    simp only [List.length_nil] at hv
    exact hpure vt hx ⟨_, _, by rw [hv]; congr 1; omega⟩
  · obtain ⟨a, n, c, e1, hc⟩ := hc
    cases e1
    by_cases h0 : k = l.length
    · exact hpure vt hx ⟨_, _, by rw [st.inv, h0, Nat.sub_self]⟩
    · obtain ⟨i, zz, hinfo, hsz, hby, hz0, hzc⟩ := e.info
      have hzl : e.zero.length = e.sz := e.rd_len (e.own_rd (e.zero_own w))
      have hzone : ∀ u ∈ e.zero, u.oneCell' = true := e.rd_one (e.own_rd (e.zero_own w))
      have hcne : ¬ cap = l.length := by omega
      have hvt : vt = .slice (some ⟨g, l.length * e.sz, none⟩) (k - l.length) (cap - l.length) := by rw [st.inv]; simp [hcne, Addr.add_lit]
      subst hvt
      have hzs : zz.cells.size = e.sz := by rw [hzc]; simpa using hzl
      generalize hvs : (Builtin.zeroCells zz.cells (k - l.length)).toList = vs
      have hvl : vs.length = (k - l.length) * e.sz := by rw [← hvs, Array.length_toList, size_zeroCells, hzs]
      have hone : ∀ u ∈ vs, u.oneCell' = true := by
        intro u hu'
        rw [← hvs] at hu'
        simp only [Builtin.zeroCells, Array.toList_map, List.mem_map] at hu'
        obtain ⟨q, _, rfl⟩ := hu'
        have hpos : 0 < zz.cells.size := by rw [hzs]; exact e.sz_pos
        have hlt : q % zz.cells.size < zz.cells.size := Nat.mod_lt _ hpos
        rw [getElem!_pos zz.cells _ hlt]
        refine hzone _ ?_
        have h1 : zz.cells[q % zz.cells.size] ∈ zz.cells := Array.getElem_mem hlt
        have h2 : ∀ u, u ∈ zz.cells → u ∈ e.zero := fun u hu => by rw [hzc] at hu; simpa using hu
        exact h2 _ h1
      have hfit : l.length * e.sz + 0 + vs.length ≤ cur.size := by
        rw [hvl, hcs, Nat.add_zero, ← Nat.add_mul]
        exact Nat.mul_le_mul_right _ (by omega)
      have hst := run_storeCells_at P g (l.length * e.sz) e.tid vs 0 cur w hg hfit hone
      obtain ⟨m1, hm1⟩ : ∃ m1, k - l.length = m1 + 1 := ⟨k - l.length - 1, by omega⟩
      have hgb := (hg0.2.1 g (by simp [R.own])).1
      have hnd := hg0.1
      simp only [R.own, List.nodup_cons] at hnd
      generalize hw' : w.setRow g (cur.toList.take (l.length * e.sz + 0) ++ vs ++ cur.toList.drop (l.length * e.sz + 0 + vs.length)).toArray = w' at hst
      have hkeep : ∀ b, b ≠ g → w'.heap[b]? = w.heap[b]? := fun b hb => by rw [← hw']; exact setRow_other w g b _ hb
      have hsize : w'.heap.size = w.heap.size := by rw [← hw']; simp
      refine wl_uv (v := .tuple #[]) (w' := w') (fun ρ hρ => ?_) (h w' ⟨by omega, fun b _ hb => hkeep b fun h => hb (by rw [h]; simp), hkp0⟩ (by rw [← hw']; exact hB.trans (setRow_below w g _ hgb))
        (hS.upd (i := 0) (w' := w') (r' := R.own e (g :: Fs.flatten) (.slice (some ⟨g, 0, none⟩) l.length cap) l) rfl (by omega) (fun b _ _ hb => hkeep b fun h => hb (by rw [h]; simp [R.own])) hg0.1 (fun b hb => .inl hb) hB.size fun w'' hk => ?_))
      · have hzv : (zeroValue e.tid).run P w = .ok zz w := by simp [zeroValue, typeInfo, hinfo, hz0]
        simp [execOp, resolve, invoke, builtin, hρ _ _ hx, Builtin.clear_, run_underlying hu, hm1, hzv]
        rw [← hm1, hvs]
        simp [hst]
      · have hh := hk g (by simp [R.own])
        refine .inr ⟨g, cap, (cur.toList.take (l.length * e.sz + 0) ++ vs ++ cur.toList.drop (l.length * e.sz + 0 + vs.length)).toArray, css, Fs, rfl, by rw [hh, ← hw', setRow_heap w g cur _ e.tid _ hg], hn, hm, ?_, ?_, ?_, rfl⟩
        · simp only [List.size_toArray, List.length_append, List.length_take, List.length_drop, Array.length_toList]
          rw [← hcs]
          omega
        · have hlt : l.length * e.sz ≤ cur.toList.length := by
            have : l.length * e.sz ≤ cap * e.sz := Nat.mul_le_mul_right _ hn
            simp only [Array.length_toList]
            omega
          rw [List.toList_toArray, Nat.add_zero, List.append_assoc, List.take_append_of_le_length (by rw [List.length_take]; omega), List.take_take, Nat.min_self, ht]
        · refine Z3.of hz.len.1 hz.len.2 fun q a c u ha hc' hu' => ?_
          obtain ⟨a', c', h1, h2, h3⟩ := hz.get q u hu'
          rw [ha] at h1
          rw [hc'] at h2
          cases h1
          cases h2
          have hmem : ∀ b ∈ a, b ∈ Fs.flatten := fun b hb => List.mem_flatten.2 ⟨a, List.mem_of_getElem? ha, hb⟩
          exact e.own_keep h3 fun b hb => (hk b (by simp only [R.own, List.mem_cons]; exact .inr (hmem b hb))).trans (hkeep b fun h => hnd.1 (by rw [← h]; exact hmem b hb))
/-- A function without results. -/
theorem calls_mkn' {f : FuncId} {fn : Func} {c : Code} {args : List Value} {w : World} {R : Ending → World → Prop} {n : Nat}
    (hf : P.funcs[f]? = some fn) (hb : fn.body = some c) (hn : fn.ntmps = n) (hl : args.length + (n - args.length) = n) {σ : Env} (hσ : σ = args.zipIdx.map (fun p => (p.2, p.1)))
    (h : ∀ Q : Exit → Act → World → Prop, (∀ a w, bodyPost P fn R .normal a w → Q .normal a w) → (∀ a w, bodyPost P fn R .ret a w → Q .ret a w) → PanicOk Q → W P n c σ w Q) : Calls P f args.toArray w R :=
  calls_mk hf hb hn hl hσ (h _ (fun _ _ h => h) (fun _ _ h => h) fun c a d v w h => by cases d <;> exact h)
theorem retsn {fn : Func} {R : Ending → World → Prop} {rs : List ResultVar} {vs : List Value} {Q : Exit → Act → World → Prop} (hQ : ∀ a w, bodyPost P fn R .normal a w → Q .normal a w) (hr : fn.results = rs.toArray) (h0 : RVs P n σ w rs vs) (h : R (.returned (tupV vs)) w) :
    ∀ a, St n σ a → Q .normal a w :=
  rets (Q := fun _ a w => Q .normal a w) (fun a w h => hQ a w h) hr h0 h
/-- Outside of what is lent: old memory that a function which writes only reads. -/
def Out (X : List Nat) (w : World) (b : Nat) : Prop := b < w.heap.size ∧ b ∉ X
theorem rest_ok {base i : Nat} {X : List Nat} (hS : Sep base w L) (hg : lget L i = some (R.rest w0 X)) : (∀ b, Out X w0 b → w.heap[b]? = w0.heap[b]?) ∧ ∀ b, Out X w0 b → b < w.heap.size :=
  ⟨fun b hb => (hS.ok hg : ∀ b, b < w0.heap.size → b ∉ X → w.heap[b]? = w0.heap[b]?) b hb.1 hb.2, fun b hb => ((hS.get hg).2.1 b (rest_fp.2 hb)).2⟩
theorem rdS.rst {e : Ty P α} {base i : Nat} {X : List Nat} {v : Value} {l : List α} (h : rdS e (Out X w0) w0 v l) (hS : Sep base w L) (hg : lget L i = some (R.rest w0 X)) : rdS e (· < w.heap.size) w v l :=
  (h.keep (rest_ok hS hg).1).mono (rest_ok hS hg).2
theorem EAt.keepS {S S' : Nat → Prop} {p : Addr} {cs : List Value} {w w' : World} (h : EAt S w p cs) (hk : ∀ b, S b → w'.heap[b]? = w.heap[b]?) (hm : ∀ b, S b → S' b) : EAt S' w' p cs :=
  ⟨hm _ h.1, fun j c hc => by
    rw [cell_keep (w := w) (w' := w') (a := p.add j) (by rw [add_block]; exact hk _ h.1)]
    exact h.2 j c hc⟩
theorem EAt.rst {base i : Nat} {X : List Nat} {p : Addr} {cs : List Value} (h : EAt (Out X w0) w0 p cs) (hS : Sep base w L) (hg : lget L i = some (R.rest w0 X)) : EAt (· < w.heap.size) w p cs :=
  h.keepS (rest_ok hS hg).1 (rest_ok hS hg).2
theorem out_rest {base : Nat} {X : List Nat} (hS : Sep base w (R.rest w0 X :: M)) : ∀ b, Out X w0 b → Out (fps M) w b := fun b hb =>
  ⟨(rest_ok (i := 0) hS rfl).2 b hb, fun hm => by
    obtain ⟨s, hs, hb'⟩ := mem_fps.1 hm
    have hd := hS.2
    cases hd with
    | cons h1 _ => exact h1 s hs b (rest_fp.2 hb) hb'⟩
theorem rdS.rsto {e : Ty P α} {base : Nat} {X : List Nat} {v : Value} {l : List α} (h : rdS e (Out X w0) w0 v l) (hS : Sep base w (R.rest w0 X :: M)) : rdS e (Out (fps M) w) w v l :=
  (h.keep (rest_ok (i := 0) hS rfl).1).mono (out_rest hS)
theorem EAt.rsto {base : Nat} {X : List Nat} {p : Addr} {cs : List Value} (h : EAt (Out X w0) w0 p cs) (hS : Sep base w (R.rest w0 X :: M)) : EAt (Out (fps M) w) w p cs :=
  h.keepS (rest_ok (i := 0) hS rfl).1 (out_rest hS)
theorem old_out (hS : Sep w0.heap.size w M) (hB : Below w0.heap.size w0 w) : ∀ b, b < w0.heap.size → Out (fps M) w b := fun b hb =>
  ⟨Nat.lt_of_lt_of_le hb hB.size, fun hm => by
    obtain ⟨s, hs, hb'⟩ := mem_fps.1 hm
    have := ((hS.1 s hs).2.1 b hb').1
    omega⟩
theorem rdS.oldo {e : Ty P α} {v : Value} {l : List α} (h : rdS e (· < w0.heap.size) w0 v l) (hB : Below w0.heap.size w0 w) (hS : Sep w0.heap.size w M) : rdS e (Out (fps M) w) w v l :=
  (h.keep fun b hlt => hB.block b hlt).mono (old_out hS hB)
theorem EAt.oldo {p : Addr} {cs : List Value} (h : EAt (· < w0.heap.size) w0 p cs) (hB : Below w0.heap.size w0 w) (hS : Sep w0.heap.size w M) : EAt (Out (fps M) w) w p cs :=
  h.keepS (fun b hlt => hB.block b hlt) (old_out hS hB)
theorem fp_out {base : Nat} {r : Res} (hS : Sep base w (r :: M)) : ∀ b ∈ r.fp, Out (fps M) w b := fun b hb =>
  ⟨((hS.get (i := 0) rfl).2.1 b hb).2, fun hm => by
    obtain ⟨s, hs, hb'⟩ := mem_fps.1 hm
    have hd := hS.2
    cases hd with
    | cons h1 _ => exact h1 s hs b hb hb'⟩
theorem own_out {e : Ty P α} {base : Nat} {F : List Nat} {v : Value} {l : List α} (hS : Sep base w (R.own e F v l :: M)) : rdS e (Out (fps M) w) w v l :=
  (hS.ok (i := 0) rfl : ownS e F w v l).rd.mono (fp_out hS)
end Go.Proofs.YtmkignciedkidaaGreat
