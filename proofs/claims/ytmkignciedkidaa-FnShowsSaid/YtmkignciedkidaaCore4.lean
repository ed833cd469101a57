/-
  CORE, 4: rules for slices that the call makes: append, make, literals, stores; structs built; results. Over any program.
-/
import Derived.Test.YtmkignciedkidaaCore3
set_option linter.unusedSimpArgs false
set_option linter.unusedVariables false
namespace Go.Proofs.Ytmkignciedkidaa
open Go Go.RowKit
variable {P : Program} {α : Type}
/-- A type whose values hold no memory. -/
structure Flat (e : Ty P α) (f : α → List Value) : Prop where
  rd : ∀ {S w cs x}, e.rd S w cs x → cs = f x
  own : ∀ w x, e.own [] w (f x) x
  none : ∀ {F w cs x}, e.own F w cs x → F = []
theorem Flat.len {e : Ty P α} {f : α → List Value} (hf : Flat e f) (w : World) (x : α) : (f x).length = e.sz := e.rd_len (e.own_rd (hf.own w x))
theorem Flat.ones {e : Ty P α} {f : α → List Value} (hf : Flat e f) (w : World) (x : α) : ∀ c ∈ f x, c.oneCell' = true := e.rd_one (e.own_rd (hf.own w x))
theorem Flat.z3 {e : Ty P α} {f : α → List Value} (hf : Flat e f) (w : World) : ∀ l : List α, Z3 (fun F cs x => e.own F w cs x) (l.map fun _ => []) (l.map f) l
  | [] => trivial
  | x :: l => ⟨hf.own w x, Flat.z3 hf w l⟩
theorem Flat.of_z3 {e : Ty P α} {f : α → List Value} (hf : Flat e f) {w : World} : ∀ {Fs : List (List Nat)} {css : List (List Value)} {l : List α}, Z3 (fun F cs x => e.own F w cs x) Fs css l → Fs.flatten = [] ∧ css = l.map f
  | [], [], [], _ => ⟨rfl, rfl⟩
  | F :: Fs, cs :: css, x :: l, h => by
    obtain ⟨h1, h2⟩ := Flat.of_z3 hf h.2
    have e1 := hf.none h.1
    subst e1
    exact ⟨by simpa using h1, by rw [h2, hf.rd (e.own_rd h.1)]; rfl⟩
  | [], [], _ :: _, h => h.elim
  | [], _ :: _, _, h => h.elim
  | _ :: _, [], _, h => h.elim
  | _ :: _, _ :: _, [], h => h.elim
theorem flatten_nil (l : List α) : (l.map fun _ => ([] : List Nat)).flatten = [] := by induction l <;> simp_all
theorem flat_len (f : α → List Value) (sz : Nat) (h : ∀ x, (f x).length = sz) (l : List α) : (l.map f).flatten.length = l.length * sz := by
  rw [flatten_len (sz := sz) (fun c hc => by obtain ⟨x, _, rfl⟩ := List.mem_map.1 hc; exact h x), List.length_map]
/-- An owned slice of a flat type, as cells. -/
theorem ownS_flat {e : Ty P α} {f : α → List Value} (hf : Flat e f) {F : List Nat} {w : World} {v : Value} {l : List α} :
    ownS e F w v l ↔ (v = .slice none 0 0 ∧ l = [] ∧ F = []) ∨ ∃ g cap cur, v = .slice (some ⟨g, 0, none⟩) l.length cap ∧ w.heap[g]? = some (.cells cur e.tid (0, 0)) ∧ l.length ≤ cap ∧ cap ≤ maxLen ∧
      cur.size = cap * e.sz ∧ cur.toList.take (l.length * e.sz) = (l.map f).flatten ∧ F = [g] := by
  constructor
  · rintro (h | ⟨g, cap, cur, css, Fs, h1, h2, h3, h4, h5, h6, h7, h8⟩)
    · exact .inl h
    · obtain ⟨e1, e2⟩ := hf.of_z3 h7
      exact .inr ⟨g, cap, cur, h1, h2, h3, h4, h5, by rw [h6, e2], by rw [h8, e1]⟩
  · rintro (h | ⟨g, cap, cur, h1, h2, h3, h4, h5, h6, h7⟩)
    · exact .inl h
    · exact .inr ⟨g, cap, cur, l.map f, l.map fun _ => [], h1, h2, h3, h4, h5, h6, hf.z3 w l, by rw [h7, flatten_nil]⟩
theorem rd_cells {e : Ty P α} {f : α → List Value} (hf : Flat e f) {S : Nat → Prop} {w : World} {l : List α} {ad : Addr} (hel : ∀ (i : Nat) x, l[i]? = some x → ElemAt e S w (ad.add (i * e.sz)) x) :
    ∀ (j : Nat) u, (l.map f).flatten[j]? = some u → w.cell? (ad.add j) = some u := by
  have h2 : ∀ (m : List α) (k : Nat), (∀ (i : Nat) x, m[i]? = some x → ElemAt e S w (ad.add ((k + i) * e.sz)) x) → ∀ (j : Nat) u, (m.map f).flatten[j]? = some u → w.cell? (ad.add (k * e.sz + j)) = some u := by
    intro m
    induction m with
    | nil => intro k _ j u hu; simp at hu
    | cons x m ih =>
      intro k hm j u hu
      have hlen := hf.len w x
      rw [List.map_cons, List.flatten_cons, List.getElem?_append] at hu
      split at hu
      · obtain ⟨_, cs, hcs, hc⟩ := hm 0 x rfl
        rw [hf.rd hcs] at hc
        have := hc j u hu
        rwa [add_add] at this
      · rename_i hj
        have := ih (k + 1) (fun i y hy => by
          have := hm (i + 1) y (by simpa using hy)
          rwa [show k + 1 + i = k + (i + 1) by omega]) (j - (f x).length) u hu
        rw [hlen] at this
        rwa [show (k + 1) * e.sz + (j - e.sz) = k * e.sz + j by rw [Nat.succ_mul]; rw [hlen] at hj; omega] at this
  intro j u hu
  have := h2 l 0 (fun i x hx => by simpa using hel i x hx) j u hu
  simpa using this
theorem app_some {l m r : List α} (h : app l m = some r) : r = l ++ m ∧ l.length + m.length ≤ 1073741824 := by
  unfold app at h
  split at h
  · rename_i hl
    exact ⟨(Option.some.inj h).symm, hl⟩
  · cases h
theorem bytes_ok {k b : Nat} (h : k ≤ 1073741824) (hb : b ≤ 65536) : k * b ≤ 140737488355328 :=
  Nat.le_trans (Nat.mul_le_mul h hb) (by decide)

/-- 'append' of known cells to a row of the call's own: the new row is the old one or lies in new memory. -/
theorem run_append_mine {P : Program} (w : World) (base : Nat) (t ty e : TypeId) (i : TypeInfo) (z : Value) (size bytes : Nat) (ht : P.underlying t = some (.slice e)) (hi : P.info? e = some i) (hz : i.zero = some z)
    (hsize : i.size = size) (hby : i.bytes = bytes) (hzs : z.cells.size = size)
    (v : Value) (n : Nat) (xs : List Value) (hown : w.ownsRow base e size v n xs)
    (a : Addr) (m c : Nat) (news : List Value) (hl : news.length = m * size) (hnews : ∀ (j : Nat) u, news[j]? = some u → w.cell? (a.add j) = some u) (h1 : ∀ u ∈ news, u.oneCell' = true)
    (h63 : n + m ≤ maxLen) (hbytes : (n + m) * bytes ≤ 140737488355328) (hbase : base ≤ w.heap.size) :
    ∃ v' w', (Builtin.append_ #[t, t] ty #[v, .slice (some a) m c]).run P w = .ok v' w' ∧ w'.ownsRow base e size v' (n + m) (xs ++ news) ∧ w.grownBy w' v.ownBlock ∧
      (v'.ownBlock = v.ownBlock ∨ v'.ownBlock = some w.heap.size) := by
  subst hsize
  subst hby
  have hsmall : n + m ≤ 9223372036854775807 := by simp only [maxLen] at h63; omega
  have hlen : (xs ++ news).length = (n + m) * i.size := by rw [List.length_append, hown.1, hl, Nat.add_mul]
  have grown : ∀ (old : Nat), old < n + m → ∀ (row : Option Nat),
      (w.drew.alloc (.cells (xs.toArray ++ news.toArray ++ Builtin.zeroCells z.cells (grownCap w (n + m) old e - (n + m))) e)).ownsRow base e i.size
        (.slice (some ⟨w.heap.size, 0, none⟩) (n + m) (grownCap w (n + m) old e)) (n + m) (xs ++ news) ∧
      w.grownBy (w.drew.alloc (.cells (xs.toArray ++ news.toArray ++ Builtin.zeroCells z.cells (grownCap w (n + m) old e - (n + m))) e)) row := by
    intro old ho row
    have hge := grownCap_ge w (n + m) old e
    have hcm : grownCap w (n + m) old e ≤ maxLen := grownCap_le_maxLen w (n + m) old e h63
    refine ⟨⟨hlen, .inr ⟨w.heap.size, _, _, rfl, hbase, heap_alloc_new w.drew _, hge, hcm, ?_, ?_⟩⟩, ⟨rfl, rfl, rfl, by simp, fun k hk _ => Below.heap_alloc w.drew _ k hk⟩⟩
    · simp only [Array.size_append, List.size_toArray, size_zeroCells, hzs, hown.1, hl, ← Nat.add_mul]
      congr 1
      omega
    · simp only [Array.toList_append, List.append_assoc]
      rw [← List.append_assoc, ← hlen]
      exact List.take_left
  rcases hown.2 with ⟨rfl, rfl⟩ | ⟨g, cap, cur, rfl, hbg, hg, hnc, hcm, hcs, htake⟩
  · have hx : xs = [] := List.eq_nil_of_length_eq_zero (by simpa using hown.1)
    subst hx
    by_cases hm : m = 0
    · subst hm
      have hn : news = [] := List.eq_nil_of_length_eq_zero (by simpa using hl)
      subst hn
      refine ⟨.slice none 0 0, w, ?_, World.ownsRow_nil w base e i.size, ⟨rfl, rfl, rfl, Nat.le_refl _, fun _ _ _ => rfl⟩, .inl rfl⟩
      simp [Builtin.append_, run_underlying ht, sizeOf, typeInfo, hi, Builtin.lenOf, Builtin.firstCells, loadCells, loadCellsFrom]
    · have hr := run_append_nil (P := P) w t ty e i z ht hi hz a m c news hl hnews (by omega) (by omega) (by have hb := hbytes; simp only [Nat.zero_add] at hb; omega)
      have hgr := grown 0 (by omega) (Value.ownBlock (.slice none 0 0))
      simp only [Nat.zero_add, List.nil_append, Array.empty_append] at hgr ⊢
      exact ⟨_, _, hr, hgr.1, hgr.2, .inr rfl⟩
  · by_cases hroom : n + m ≤ cap
    · have hfit : n * i.size + news.length ≤ cur.size := by rw [hl, hcs, ← Nat.add_mul]; exact Nat.mul_le_mul_right _ hroom
      have hr := run_append_room (P := P) w t ty e i ht hi g n cap cur hg a m c news hl hnews h1 hroom hfit
      refine ⟨_, _, hr, ⟨hlen, .inr ⟨g, cap, _, rfl, hbg, setRow_heap w g cur _ e _ hg, hroom, hcm, ?_, ?_⟩⟩, ⟨rfl, rfl, rfl, by simp, fun k _ hk => setRow_other w g k _ (fun e => hk (by simp [Value.ownBlock, e]))⟩, .inl rfl⟩
      · simp only [List.size_toArray, List.length_append, List.length_take, List.length_drop, Array.length_toList]
        omega
      · rw [htake, ← hlen]
        exact List.take_left
    · have holds : ∀ (j : Nat) u, xs[j]? = some u → w.cell? ((⟨g, 0, none⟩ : Addr).add j) = some u := hown.cells (g := g) rfl
      have hr := run_append_grow (P := P) w t ty e i z ht hi hz ⟨g, 0, none⟩ n cap xs hown.1 holds a m c news hl hnews (by omega) (by omega) (growslice_fits (by omega) hbytes)
      have hgr := grown cap (by omega) (Value.ownBlock (.slice (some ⟨g, 0, none⟩) n cap))
      exact ⟨_, _, hr, hgr.1, hgr.2, .inr rfl⟩
section
variable {n : Nat} {σ : Env} {w w0 : World} {Q : Exit → Act → World → Prop} {L : List Res}
variable {ds : List (Option Tmp)} {d : Nat} {T U : TypeId} {pos : String} {af : Array Edge} {rest : List Oper} {x y z : Operand} {sz : Nat} {agg : Bool} {zv : Value}
theorem run_append_flat {e : Ty P α} {f : α → List Value} (hf : Flat e f) (hu : P.underlying U = some (.slice e.tid)) {base : Nat} {F : List Nat} {v v2 : Value} {l m r : List α} {S : Nat → Prop}
    (ho : ownS e F w v l) (hF : ∀ b ∈ F, base ≤ b) (hm : rdS e S w v2 m) (happ : app l m = some r) (hbase : base ≤ w.heap.size) :
    ∃ v' w' F', (Builtin.append_ #[U, U] T #[v, v2]).run P w = .ok v' w' ∧ ownS e F' w' v' r ∧ w.grownBy w' v.ownBlock ∧ F'.Nodup ∧ (∀ b ∈ F', b ∈ F ∨ (w.heap.size ≤ b ∧ b < w'.heap.size)) ∧ (∀ k, v.ownBlock = some k → k ∈ F) := by
  obtain ⟨rfl, hlen⟩ := app_some happ
  obtain ⟨i, zz, hinfo, hsz, hby, hz, hzc⟩ := e.info
  have hlf := fun x => hf.len w x
  have hown : w.ownsRow base e.tid e.sz v l.length (l.map f).flatten := by
    refine ⟨flat_len f e.sz hlf l, ?_⟩
    rcases (ownS_flat hf).1 ho with ⟨h1, h2, h3⟩ | ⟨g, cap, cur, h1, h2, h3, h4, h5, h6, h7⟩
    · exact .inl ⟨h1, by rw [h2]; rfl⟩
    · exact .inr ⟨g, cap, cur, h1, hF g (by rw [h7]; simp), h2, h3, h4, h5, h6⟩
  have hblk : ∀ k, v.ownBlock = some k → k ∈ F := by
    intro k hk
    rcases (ownS_flat hf).1 ho with ⟨h1, h2, h3⟩ | ⟨g, cap, cur, h1, h2, h3, h4, h5, h6, h7⟩
    · rw [h1] at hk; cases hk
    · rw [h1] at hk
      simp [Value.ownBlock] at hk
      rw [h7, ← hk]; simp
  have hsz0 : zz.cells.size = e.sz := by rw [hzc]; simp; exact e.rd_len (e.own_rd (e.zero_own w))
  obtain ⟨a, cap, rfl, hcap, hm⟩ := hm
  rcases hm with rfl | ⟨ad, rfl, hel⟩
  · -- nothing is appended
    have key : ∃ w', (Builtin.append_ #[U, U] T #[v, .slice a ([] : List α).length cap]).run P w = .ok v w' ∧ w' = w := by
      have hs : ∀ xs, w.ownsRow base e.tid e.sz v l.length xs → (Builtin.append_ #[U, U] T #[v, .slice a 0 cap]).run P w = .ok v w := by
        intro xs hx
        rcases hx.2 with ⟨rfl, hn⟩ | ⟨g, c, cur, rfl, hb, hg, hn, hm, hc, ht⟩
        · cases a with
          | none => simp [Builtin.append_, run_underlying hu, sizeOf, typeInfo, hinfo, Builtin.lenOf, Builtin.firstCells, loadCells, loadCellsFrom]
          | some a => simp [Builtin.append_, run_underlying hu, sizeOf, typeInfo, hinfo, Builtin.lenOf, Builtin.firstCells, loadCells, loadCellsFrom]
        · cases a with
          | none => simp [Builtin.append_, run_underlying hu, sizeOf, typeInfo, hinfo, Builtin.lenOf, Builtin.firstCells, loadCells, loadCellsFrom, hn, storeCells]
          | some a => simp [Builtin.append_, run_underlying hu, sizeOf, typeInfo, hinfo, Builtin.lenOf, Builtin.firstCells, loadCells, loadCellsFrom, hn, storeCells]
      exact ⟨w, hs _ hown, rfl⟩
    obtain ⟨w', hrun, rfl⟩ := key
    refine ⟨v, w', F, hrun, by simpa using ho, ⟨rfl, rfl, rfl, Nat.le_refl _, fun _ _ _ => rfl⟩, ?_, fun b hb => .inl hb, hblk⟩
    rcases (ownS_flat hf).1 ho with ⟨_, _, rfl⟩ | ⟨g, _, _, _, _, _, _, _, _, rfl⟩ <;> simp
  · have hnews := rd_cells hf hel
    have hbl : (l.length + m.length) * e.bts ≤ 140737488355328 := bytes_ok hlen e.bts_le
    obtain ⟨v', w', hr, h2, h3, hb4⟩ := run_append_mine (P := P) w base U T e.tid i zz e.sz e.bts hu hinfo hz hsz hby hsz0 v l.length _ hown ad m.length cap (m.map f).flatten
      (flat_len f e.sz hlf m) hnews (fun u hu => by
        obtain ⟨c, hc, hu⟩ := List.mem_flatten.1 hu
        obtain ⟨x, _, rfl⟩ := List.mem_map.1 hc
        exact hf.ones w x u hu) (by simp only [maxLen]; omega) hbl hbase
    rcases h2.2 with ⟨rfl, hn⟩ | ⟨g, c, cur, rfl, hb, hg, hn, hm, hc, ht⟩
    · have e1 : l = [] := List.eq_nil_of_length_eq_zero (by omega)
      have e2 : m = [] := List.eq_nil_of_length_eq_zero (by omega)
      subst e1; subst e2
      exact ⟨_, w', [], hr, .inl ⟨rfl, rfl, rfl⟩, h3, .nil, fun b hb => (by cases hb), hblk⟩
    · refine ⟨_, w', [g], hr, (ownS_flat hf).2 (.inr ⟨g, c, cur, by simp, hg, by simpa using hn, hm, hc, by simpa using ht, rfl⟩), h3, by simp, fun b hb' => ?_, hblk⟩
      simp at hb'
      subst hb'
      rcases hb4 with h | h
      · exact .inl (hblk b (by rw [← h]; rfl))
      · simp [Value.ownBlock] at h
        exact .inr ⟨by omega, (Array.getElem?_eq_some_iff.1 hg).1⟩
theorem sep_grown {i : Nat} {e : Ty P α} {F F' : List Nat} {v v' : Value} {l r : List α} {w' : World} (hS : Sep w0.heap.size w L) (hg : lget L i = some (R.own e F v l)) (hB : Below w0.heap.size w0 w)
    (ho : ownS e F' w' v' r) (hgr : w.grownBy w' v.ownBlock) (hnd : F'.Nodup) (hF : ∀ b ∈ F', b ∈ F ∨ (w.heap.size ≤ b ∧ b < w'.heap.size)) (hblk : ∀ k, v.ownBlock = some k → k ∈ F) :
    Below w0.heap.size w0 w' ∧ Sep w0.heap.size w' (lset L i (R.own e F' v' r)) := by
  have hfp := (hS.get hg).2.1
  refine ⟨hB.grown hgr hB.size fun k hk => (hfp k (hblk k hk)).1, hS.upd hg hgr.size (fun b _ hlt hb => hgr.block b hlt fun e => hb (hblk b e.symm)) hnd hF hB.size fun w'' hk => ?_⟩
  exact ho.keep hk
theorem wl_append {e : Ty P α} {f : α → List Value} (hf : Flat e f) {F : List Nat} {v v2 : Value} {l m r : List α} {S : Nat → Prop} {i : Nat} (hu : P.underlying U = some (.slice e.tid)) (hn : Nat.blt d n = true)
    (hx : eop σ x = some v) (hy : eop σ y = some v2) (hB : Below w0.heap.size w0 w) (hS : Sep w0.heap.size w L) (hg : lget L i = some (R.own e F v l)) (hm : rdS e S w v2 m) (happ : app l m = some r)
    (h : ∀ v' F' w', (w.heap.size ≤ w'.heap.size ∧ (∀ b, b < w.heap.size → b ∉ F → w'.heap[b]? = w.heap[b]?) ∧ ∀ b ∈ F', b ∈ F ∨ w.heap.size ≤ b) → Below w0.heap.size w0 w' → Sep w0.heap.size w' (lset L i (R.own e F' v' r)) → WL P n ds rest ((d, v') :: σ) w' Q) :
    WL P n ds (⟨some d, .call ⟨.builtin .append, #[x, y], #[U, U]⟩, T, pos, af, none⟩ :: rest) σ w Q := by
  obtain ⟨v', w', F', hrun, ho, hgr, hnd, hF, hblk⟩ := run_append_flat (T := T) hf hu (hS.ok hg : ownS e F w v l) (fun b hb => ((hS.get hg).2.1 b hb).1) hm happ hB.size
  obtain ⟨hB', hS'⟩ := sep_grown hS hg hB ho hgr hnd hF hblk
  exact wl_run hn (fun ρ hρ => by simp [execOp, resolve, invoke, builtin, hρ _ _ hx, hρ _ _ hy, hrun]) (h v' F' w' ⟨hgr.size, fun b hlt hb => hgr.block b hlt fun e => hb (hblk b e.symm), fun b hb => (hF b hb).imp id fun h => h.1⟩ hB' hS')
/-! literals -/
theorem fold_splice (vs : List Value) : ∀ (cs : List Value) (off k : Nat), off + k + vs.length ≤ cs.length →
    (vs.zipIdx k).foldl (fun (cs : Array Value) (p : Value × Nat) => cs.setIfInBounds (off + p.2) p.1) cs.toArray = (splice cs (off + k) vs).toArray := by
  induction vs with
  | nil => intro cs off k _; simp [splice]
  | cons v r ih =>
    intro cs off k h
    simp only [List.length_cons] at h
    rw [List.zipIdx_cons, List.foldl_cons]
    have ih' := ih (cs.set (off + k) v) off (k + 1) (by simp; omega)
    simp only [List.setIfInBounds_toArray]
    rw [ih']
    congr 1
    unfold splice
    have h1 : (cs.set (off + k) v).take (off + (k + 1)) = cs.take (off + k) ++ [v] := by
      rw [show off + (k + 1) = off + k + 1 by omega, List.take_succ_eq_append_getElem (by simp; omega), List.take_set, List.set_eq_of_length_le (by simp; omega)]
      simp
    rw [h1]
    simp only [List.append_assoc, List.singleton_append, List.cons_append, List.nil_append, List.length_cons]
    rw [List.drop_set_of_lt (by omega), show off + (k + 1) + r.length = off + k + (r.length + 1) by omega]
def fillL (places : List (Nat × Nat)) : List Value → List (Nat × List Value) → Option (List Value)
  | cells, [] => some cells
  | cells, (i, vs) :: rest =>
    match places[i]? with
    | none => none
    | some (off, size) => bif Nat.beq vs.length size && Nat.ble (off + vs.length) cells.length then fillL places (splice cells off vs) rest else none
theorem fill_eq (place : Nat → Option (Nat × Nat)) (places : List (Nat × Nat)) (hp : ∀ i o s, places[i]? = some (o, s) → place i = some (o, s)) : ∀ (parts : List (Nat × Value)) (ps : List (Nat × List Value)) (cells out : List Value),
    (parts.map fun p => (p.1, p.2.cells)) = (ps.map fun p => (p.1, p.2.toArray)) → fillL places cells ps = some out → Instr.fill place cells.toArray parts = some out.toArray
  | [], [], cells, out, _, h => by
    rw [fillL] at h
    rw [Instr.fill, Option.some.inj h]
  | [], _ :: _, _, _, h, _ => by simp at h
  | _ :: _, [], _, _, h, _ => by simp at h
  | (i, v) :: parts, (j, vs) :: ps, cells, out, hm, h => by
    simp only [List.map_cons, List.cons.injEq, Prod.mk.injEq] at hm
    obtain ⟨⟨rfl, hv⟩, hm⟩ := hm
    rw [fillL] at h
    cases hpl : places[i]? with
    | none => rw [hpl] at h; cases h
    | some q =>
      obtain ⟨off, size⟩ := q
      rw [hpl] at h
      simp only at h
      cases hb : (Nat.beq vs.length size && Nat.ble (off + vs.length) cells.length) with
      | false => rw [hb] at h; cases h
      | true =>
        rw [hb] at h
        rw [Bool.and_eq_true] at hb
        have e1 := Nat.eq_of_beq_eq_true hb.1
        have e2 := Nat.le_of_ble_eq_true hb.2
        rw [Instr.fill, hp i off size hpl]
        have hsz : v.cells.size = vs.length := by rw [hv]; simp
        simp only [hsz]
        rw [if_neg (by simp [e1]; omega)]
        have hf := fold_splice vs cells off 0 (by omega)
        simp only [Nat.add_zero] at hf
        have e3 : v.cells.zipIdx.foldl (fun (cs : Array Value) (p : Value × Nat) => cs.setIfInBounds (off + p.2) p.1) cells.toArray = (splice cells off vs).toArray := by
          rw [← hf, ← Array.foldl_toList, hv]
          simp
        exact (congrArg (fun c => Instr.fill place c parts) e3).trans (fill_eq place places hp parts ps _ out hm h)
end
end Go.Proofs.Ytmkignciedkidaa
