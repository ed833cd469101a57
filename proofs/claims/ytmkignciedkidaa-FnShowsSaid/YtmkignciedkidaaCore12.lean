/-
  CORE, 12: slices of data that own memory are put together: literals of one part, appending. Over any program.
-/
import Derived.Test.YtmkignciedkidaaCore11
set_option linter.unusedSimpArgs false
set_option linter.unusedVariables false
namespace Go.Proofs.Ytmkignciedkidaa
open Go Go.RowKit
variable {P : Program} {α β : Type} {n : Nat} {ds : List (Option Tmp)} {d : Nat} {T U V : TypeId} {pos : String} {af : Array Edge} {rest : List Oper} {x y z : Operand} {σ : Env} {w w0 : World} {Q : Exit → Act → World → Prop} {L M : List Res}
/-- 'append(x, y...)', both owned: y is used up. -/
theorem run_append_own {e : Ty P α} (hu : P.underlying U = some (.slice e.tid)) {base : Nat} {F F2 : List Nat} {v v2 : Value} {l m r : List α}
    (ho : ownS e F w v l) (ho2 : ownS e F2 w v2 m) (hF : ∀ b ∈ F, base ≤ b) (hnd1 : F.Nodup) (hnd2 : F2.Nodup) (hdis : ∀ b ∈ F, b ∉ F2) (happ : app l m = some r) (hbase : base ≤ w.heap.size) :
    ∃ v' w' F', (Builtin.append_ #[U, U] T #[v, v2]).run P w = .ok v' w' ∧ ownS e F' w' v' r ∧ w.grownBy w' v.ownBlock ∧ F'.Nodup ∧ (∀ b ∈ F', b ∈ F ∨ b ∈ F2 ∨ (w.heap.size ≤ b ∧ b < w'.heap.size)) ∧ (∀ k, v.ownBlock = some k → k ∈ F) := by
  obtain ⟨rfl, hlen⟩ := app_some happ
  obtain ⟨i, zz, hinfo, hsz, hby, hz, hzc⟩ := e.info
  have hsz0 : zz.cells.size = e.sz := by rw [hzc]; simp; exact e.rd_len (e.own_rd (e.zero_own w))
  have hblk : ∀ k, v.ownBlock = some k → k ∈ F := by
    intro k hk
    rcases ho with ⟨h1, h2, h3⟩ | ⟨g, cap, cur, css, Fs, h1, h2, h3, h4, h5, h6, h7, h8⟩
    · rw [h1] at hk; cases hk
    · rw [h1] at hk
      simp [Value.ownBlock] at hk
      rw [h8, ← hk]; simp
  have own1 : ∃ css Fs, w.ownsRow base e.tid e.sz v l.length css.flatten ∧ Z3 (fun F cs x => e.own F w cs x) Fs css l ∧ (∀ b ∈ Fs.flatten, b ∈ F) ∧ Fs.flatten.Nodup ∧ (∀ k, v.ownBlock = some k → k ∉ Fs.flatten) := by
    rcases ho with ⟨h1, h2, h3⟩ | ⟨g, cap, cur, css, Fs, h1, h2, h3, h4, h5, h6, h7, h8⟩
    · subst h2
      refine ⟨[], [], ⟨by simp, .inl ⟨h1, rfl⟩⟩, trivial, fun b hb => by simp at hb, by simp, fun k _ => by simp⟩
    · subst h8
      rw [List.nodup_cons] at hnd1
      refine ⟨css, Fs, ⟨by rw [flatten_len h7.sz, h7.len.2], .inr ⟨g, cap, cur, h1, hF g (by simp), h2, h3, h4, h5, h6⟩⟩, h7, fun b hb => List.mem_cons_of_mem _ hb, hnd1.2, fun k hk => ?_⟩
      rw [h1] at hk
      simp [Value.ownBlock] at hk
      rw [← hk]
      exact hnd1.1
  obtain ⟨css, Fs, hown, hz1, hFs, hFn, hgn⟩ := own1
  rcases ho2 with ⟨rfl, rfl, rfl⟩ | ⟨g2, cap2, cur2, css2, Fs2, rfl, hg2, hn2, hm2, hc2, ht2, hz2, rfl⟩
  · -- nothing is appended
    have key : (Builtin.append_ #[U, U] T #[v, .slice none 0 0]).run P w = .ok v w := by
      rcases hown.2 with ⟨rfl, hn⟩ | ⟨g, c, cur, rfl, hb, hg, hn, hm, hc, ht⟩
      · simp [Builtin.append_, run_underlying hu, sizeOf, typeInfo, hinfo, Builtin.lenOf, Builtin.firstCells, loadCells, loadCellsFrom]
      · simp [Builtin.append_, run_underlying hu, sizeOf, typeInfo, hinfo, Builtin.lenOf, Builtin.firstCells, loadCells, loadCellsFrom, hn, storeCells]
    exact ⟨v, w, F, key, by simpa using ho, ⟨rfl, rfl, rfl, Nat.le_refl _, fun _ _ _ => rfl⟩, hnd1, fun b hb => .inl hb, hblk⟩
  · have hl2 : css2.flatten.length = m.length * e.sz := by rw [flatten_len hz2.sz, hz2.len.2]
    have hnews : ∀ (j : Nat) u, css2.flatten[j]? = some u → w.cell? ((⟨g2, 0, none⟩ : Addr).add j) = some u := by
      intro j u hj
      rw [Addr.add_lit, Nat.zero_add, cell_of_row w g2 _ cur2 e.tid (0, 0) hg2]
      rw [← ht2, List.getElem?_take] at hj
      split at hj
      · simpa using hj
      · cases hj
    have hones : ∀ u ∈ css2.flatten, u.oneCell' = true := by
      intro u hu
      obtain ⟨c, hc, hu⟩ := List.mem_flatten.1 hu
      obtain ⟨k, hk⟩ := List.getElem?_of_mem hc
      have hlt : k < m.length := by rw [← hz2.len.2]; exact (List.getElem?_eq_some_iff.1 hk).1
      obtain ⟨a, b, _, h2, h3⟩ := hz2.get k m[k] (by simp [hlt])
      rw [hk] at h2
      cases h2
      exact e.rd_one (e.own_rd h3) u hu
    have hbl : (l.length + m.length) * e.bts ≤ 140737488355328 := bytes_ok hlen e.bts_le
    obtain ⟨v', w', hr, h2, h3, hb4⟩ := run_append_mine (P := P) w base U T e.tid i zz e.sz e.bts hu hinfo hz hsz hby hsz0 v l.length _ hown ⟨g2, 0, none⟩ m.length cap2 css2.flatten
      hl2 hnews hones (by simp only [maxLen]; omega) hbl hbase
    rw [List.nodup_cons] at hnd2
    have kept : ∀ b, b ∈ Fs.flatten ∨ b ∈ Fs2.flatten → w'.heap[b]? = w.heap[b]? ∧ b < w.heap.size := by
      intro b hb
      rcases hb with hb | hb
      · obtain ⟨G, hG, hb'⟩ := List.mem_flatten.1 hb
        obtain ⟨k, hk⟩ := List.getElem?_of_mem hG
        have hlt : k < l.length := by rw [← hz1.len.1]; exact (List.getElem?_eq_some_iff.1 hk).1
        obtain ⟨a, c, h1', _, h3'⟩ := hz1.get k l[k] (by simp [hlt])
        rw [hk] at h1'
        cases h1'
        have hlt := e.own_lt h3' b hb'
        exact ⟨h3.block b hlt fun h => hgn b h.symm hb, hlt⟩
      · obtain ⟨G, hG, hb'⟩ := List.mem_flatten.1 hb
        obtain ⟨k, hk⟩ := List.getElem?_of_mem hG
        have hlt : k < m.length := by rw [← hz2.len.1]; exact (List.getElem?_eq_some_iff.1 hk).1
        obtain ⟨a, c, h1', _, h3'⟩ := hz2.get k m[k] (by simp [hlt])
        rw [hk] at h1'
        cases h1'
        have hlt := e.own_lt h3' b hb'
        exact ⟨h3.block b hlt fun h => hdis b (hblk b h.symm) (List.mem_cons_of_mem _ hb), hlt⟩
    have hz12 : Z3 (fun F cs x => e.own F w' cs x) (Fs ++ Fs2) (css ++ css2) (l ++ m) := by
      refine Z3.of (by simp [hz1.len.1, hz2.len.1]) (by simp [hz1.len.2, hz2.len.2]) fun k a c x ha hc hx => ?_
      have hz0 := Z3.app hz1 hz2
      obtain ⟨a', c', h1', h2', h3'⟩ := hz0.get k x hx
      rw [ha] at h1'
      rw [hc] at h2'
      cases h1'
      cases h2'
      refine e.own_keep h3' fun b hb => (kept b ?_).1
      rcases List.mem_append.1 (List.mem_of_getElem? ha) with h | h
      · exact .inl (List.mem_flatten.2 ⟨a, h, hb⟩)
      · exact .inr (List.mem_flatten.2 ⟨a, h, hb⟩)
    rcases h2.2 with ⟨rfl, hn⟩ | ⟨g, c, cur, rfl, hb, hg, hn, hm, hc, ht⟩
    · have e1 : l = [] := List.eq_nil_of_length_eq_zero (by omega)
      have e2 : m = [] := List.eq_nil_of_length_eq_zero (by omega)
      subst e1; subst e2
      exact ⟨_, w', [], hr, .inl ⟨rfl, rfl, rfl⟩, h3, .nil, fun b hb => (by cases hb), hblk⟩
    · have hgg : g ∉ (Fs ++ Fs2).flatten := by
        intro hb'
        rw [List.flatten_append, List.mem_append] at hb'
        rcases hb4 with h | h
        · have hgF := hblk g (by rw [← h]; rfl)
          rcases hb' with hb' | hb'
          · exact hgn g (by rw [← h]; rfl) hb'
          · exact hdis g hgF (List.mem_cons_of_mem _ hb')
        · simp [Value.ownBlock] at h
          have := (kept g hb').2
          omega
      refine ⟨_, w', g :: (Fs ++ Fs2).flatten, hr, .inr ⟨g, c, cur, css ++ css2, Fs ++ Fs2, by simp, hg, by simpa using hn, hm, hc, by simpa using ht, hz12, rfl⟩, h3, ?_, fun b hb' => ?_, hblk⟩
      · rw [List.nodup_cons]
        refine ⟨hgg, ?_⟩
        rw [List.flatten_append, List.nodup_append]
        exact ⟨hFn, hnd2.2, fun a ha b hb e => by subst e; exact hdis a (hFs a ha) (List.mem_cons_of_mem _ hb)⟩
      · rcases List.mem_cons.1 hb' with rfl | hb'
        · rcases hb4 with h | h
          · exact .inl (hblk b (by rw [← h]; rfl))
          · simp [Value.ownBlock] at h
            exact .inr (.inr ⟨by omega, (Array.getElem?_eq_some_iff.1 hg).1⟩)
        · rw [List.flatten_append, List.mem_append] at hb'
          rcases hb' with hb' | hb'
          · exact .inl (hFs b hb')
          · exact .inr (.inl (List.mem_cons_of_mem _ hb'))
theorem wl_appendn {e : Ty P α} {F F2 : List Nat} {v v2 : Value} {l m r : List α} (hu : P.underlying U = some (.slice e.tid)) (hn : Nat.blt d n = true)
    (hx : eop σ x = some v) (hy : eop σ y = some v2) (hB : Below w0.heap.size w0 w) (hS : Sep w0.heap.size w (R.own e F v l :: R.own e F2 v2 m :: M)) (happ : app l m = some r)
    (h : ∀ v' F' w', (w.heap.size ≤ w'.heap.size ∧ (∀ b, b < w.heap.size → b ∉ F → w'.heap[b]? = w.heap[b]?) ∧ ∀ b ∈ F', b ∈ F ∨ b ∈ F2 ∨ w.heap.size ≤ b) → Below w0.heap.size w0 w' → Sep w0.heap.size w' (R.own e F' v' r :: M) → WL P n ds rest ((d, v') :: σ) w' Q) :
    WL P n ds (⟨some d, .call ⟨.builtin .append, #[x, y], #[U, U]⟩, T, pos, af, none⟩ :: rest) σ w Q := by
  have hg0 := hS.get (i := 0) rfl
  have hg1 := hS.get (i := 1) rfl
  have hdis : ∀ b ∈ F, b ∉ F2 := hS.disj (i := 0) (j := 1) rfl rfl rfl
  obtain ⟨v', w', F', hrun, ho, hgr, hnd, hF, hblk⟩ := run_append_own (T := T) hu (hS.ok (i := 0) rfl : ownS e F w v l) (hS.ok (i := 1) rfl : ownS e F2 w v2 m) (fun b hb => (hg0.2.1 b hb).1) hg0.1 hg1.1 hdis happ hB.size
  have hfp := hg0.2.1
  have hS2 : Sep w0.heap.size w (⟨F ++ F2, fun _ => True⟩ :: M) := hS.merge rfl fun _ _ _ => trivial
  have hS3 := hS2.upd (i := 0) (w' := w') (r' := R.own e F' v' r) rfl hgr.size (fun b _ hlt hb => hgr.block b hlt fun e => hb (List.mem_append_left _ (hblk b e.symm))) hnd
    (fun b hb => (hF b hb).elim (fun h => .inl (List.mem_append_left _ h)) fun h => h.elim (fun h => .inl (List.mem_append_right _ h)) .inr) hB.size fun w'' hk => ho.keep hk
  exact wl_run hn (fun ρ hρ => by simp [execOp, resolve, invoke, builtin, hρ _ _ hx, hρ _ _ hy, hrun])
    (h v' F' w' ⟨hgr.size, fun b hlt hb => hgr.block b hlt fun e => hb (hblk b e.symm), fun b hb => (hF b hb).imp id fun h => h.imp id fun h => h.1⟩ (hB.grown hgr hB.size fun k hk => (hfp k (hblk k hk)).1) hS3)
/-- 'T{x}': an element that owns memory is moved in. -/
theorem wl_lit1 {e : Ty P α} {F2 : List Nat} {vx : Value} {vs : List Value} {u : α} (hu : P.underlying U = some (.slice e.tid)) (hn : Nat.blt d n = true)
    (hx : eop σ x = some vx) (hc : vx.cells = vs.toArray) (hlim : Nat.ble e.sz 65536 = true) (hB : Below w0.heap.size w0 w) (hS : Sep w0.heap.size w (R.cel e F2 vs u :: M))
    (h : ∀ v F w', Below w.heap.size w w' → (∀ b ∈ F, b ∈ F2 ∨ w.heap.size ≤ b) → Below w0.heap.size w0 w' → Sep w0.heap.size w' (R.own e F v [u] :: M) → WL P n ds rest ((d, v) :: σ) w' Q) :
    WL P n ds (⟨some d, .buildSlice U 1 #[(0, x)], T, pos, af, none⟩ :: rest) σ w Q := by
  have ho : e.own F2 w vs u := hS.ok (i := 0) rfl
  have hg0 := hS.get (i := 0) rfl
  have hlen : vs.length = e.sz := e.rd_len (e.own_rd ho)
  have hlim' := Nat.le_of_ble_eq_true hlim
  have hb2 : Below w.heap.size w (w.alloc (.cells vs.toArray e.tid)) := alloc_below w _
  have hS2 := (hS.push (r := ⟨[w.heap.size], fun w' => w'.heap[w.heap.size]? = some (.cells vs.toArray e.tid (0, 0))⟩) hb2 (by simp) (fun b hb => by simp at hb; subst hb; simp) hB.size
    (fun w'' hk => by
      show w''.heap[w.heap.size]? = _
      rw [hk w.heap.size (by simp), heap_alloc_new]))
  have hS3 := hS2.merge (r := R.own e (w.heap.size :: F2) (.slice (some ⟨w.heap.size, 0, none⟩) 1 1) [u]) rfl (fun w1 h1 h2 =>
    .inr ⟨w.heap.size, 1, vs.toArray, [vs], [F2], rfl, h1, Nat.le_refl _, by simp [maxLen], by simp [hlen], by simp [← hlen], ⟨h2, trivial⟩, by simp⟩)
  refine wl_run (w' := w.alloc (.cells vs.toArray e.tid)) (v := .slice (some ⟨w.heap.size, 0, none⟩) 1 1) hn (fun ρ hρ => ?_)
    (h _ (w.heap.size :: F2) _ hb2 (fun b hb => (List.mem_cons.1 hb).elim (fun h => .inr (by omega)) .inl) (hB.trans (hb2.mono hB.size)) hS3)
  have hb := run_buildSlice (P := P) hu (parts := [(0, ρ x)]) (css := [vs]) (by simp [hρ _ _ hx, hc]) (fun c hc => by simp at hc; subst hc; exact hlen) (by simp; omega) w
  simp only [List.length_singleton, List.flatten_cons, List.flatten_nil, List.append_nil] at hb
  simp only [execOp, Array.map, List.map_toArray, Sem.run_bind, hb, Result.andThen_ok, Sem.run_pure]
  simp [hb]
/-- What was handed over comes back in other data. -/
theorem Sep.take {base : Nat} {w' : World} {L M N : List Res} (h : Sep base w L) (is js : List Nat) (hn : nodupB (is ++ js) = true) (hM : Ytmkignciedkidaa.sel L is = M) (hS' : Sep 0 w' (R.rest w (fps M) :: N)) (hb : base ≤ w.heap.size) : Sep base w' (N ++ Ytmkignciedkidaa.sel L js) := by
  have hkept := mut_kept hS'
  have hall := h.sel (is ++ js) hn
  rw [sel_append, hM] at hall
  have hcross := (List.pairwise_append.1 hall.2).2.2
  have hrest := hS'.1 _ (List.mem_cons_self ..)
  have hd' := hS'.2
  cases hd' with
  | cons hr hd' =>
    have injs : ∀ s ∈ Ytmkignciedkidaa.sel L js, ∀ b ∈ s.fp, b ∈ (R.rest w (fps M)).fp := fun s hs b hb => by
      have g := hall.1 s (by simp [hs])
      refine rest_fp.2 ⟨(g.2.1 b hb).2, fun hx => ?_⟩
      obtain ⟨t, ht, hb'⟩ := mem_fps.1 hx
      exact hcross t ht s hs b hb' hb
    refine ⟨fun r hr' => ?_, List.pairwise_append.2 ⟨hd', (List.pairwise_append.1 hall.2).2.1, fun r hr' s hs b hb hb' => hr r hr' b (injs s hs b hb') hb⟩⟩
    rcases List.mem_append.1 hr' with hr' | hr'
    · have g := hS'.1 r (by simp [hr'])
      refine ⟨g.1, fun b hb' => ⟨?_, (g.2.1 b hb').2⟩, g.2.2⟩
      by_cases hlt : b < w.heap.size
      · by_cases hx : b ∈ fps M
        · obtain ⟨t, ht, hb''⟩ := mem_fps.1 hx
          exact ((hall.1 t (by simp [ht])).2.1 b hb'').1
        · exact absurd hb' (hr r hr' b (rest_fp.2 ⟨hlt, hx⟩))
      · omega
    · have g := hall.1 r (by simp [hr'])
      refine ⟨g.1, fun b hb' => ⟨(g.2.1 b hb').1, (hrest.2.1 b (injs r hr' b hb')).2⟩, fun w'' hk => g.2.2 w'' fun b hb' => (hk b hb').trans ?_⟩
      have := rest_fp.1 (injs r hr' b hb')
      exact hkept b this.1 this.2
theorem Sep.takeB {w' : World} {L M N : List Res} (h : Sep w0.heap.size w L) (is : List Nat) (hn : nodupB is = true) (hM : Ytmkignciedkidaa.sel L is = M) (hB0 : Below w0.heap.size w0 w) (hE : Below 0 (wE w) w') (hS' : Sep 0 w' (R.rest w (fps M) :: N)) : Below w0.heap.size w0 w' := by
  have hin : ∀ b, b < w0.heap.size → b ∈ (R.rest w (fps M)).fp := fun b hb => rest_fp.2 ⟨by have := hB0.size; omega, fun hx => by
    obtain ⟨s, hs, hb'⟩ := mem_fps.1 hx
    have hs' : s ∈ Ytmkignciedkidaa.sel L is := by rw [hM]; exact hs
    have := ((h.sel is hn).1 s hs').2.1 b hb'
    omega⟩
  have hrest := hS'.1 _ (List.mem_cons_self ..)
  refine ⟨hE.os.trans hB0.os, hE.tape.trans hB0.tape, hE.output.trans hB0.output, ?_, fun k hk => (mut_kept hS' k (by have := hB0.size; omega) (rest_fp.1 (hin k hk)).2).trans (hB0.block k hk)⟩
  by_cases h0 : w0.heap.size = 0
  · omega
  · have := (hrest.2.1 (w0.heap.size - 1) (hin _ (by omega))).2
    omega
end Go.Proofs.Ytmkignciedkidaa
