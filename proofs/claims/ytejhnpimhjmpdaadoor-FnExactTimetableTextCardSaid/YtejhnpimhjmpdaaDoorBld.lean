/-
  strings.Builder: copyCheck, WriteString, String (the builder's own block, and its bytes, owned). Numbers are the seat's.
-/
import Derived.Test.YtejhnpimhjmpdaaDoorH
import Derived.Test.YtejhnpimhjmpdaaDoorShelf
import Derived.Lib.AppendIntMem
import Derived.Lib.SmallJoins
import Derived.Lib.Builder
import Derived.Lib.AppendStr
import Derived.Lib.UnsafeStr
import Derived.Laws.Externs
import Derived.Laws.Pointers
set_option linter.unusedSimpArgs false
set_option linter.unusedVariables false
set_option maxRecDepth 100000
namespace Go.Proofs.YtejhnpimhjmpdaaDoor
open Go Go.RowKit
section
variable {P : Program} {α : Type} {n : Nat} {ds : List (Option Tmp)} {d : Nat} {T U TB : TypeId} {pos : String} {af : Array Edge} {rest : List Oper} {x y z : Operand} {σ : Env} {w w0 : World} {Q : Exit → Act → World → Prop} {L M : List Res} {base : Nat}
theorem wl_eqnil {p : Option Addr} (hT : P.underlying T = some (.pointer (P.pointee T))) (hn : Nat.blt d n = true) (hx : eop σ x = some (.pointer p)) (hy : eop σ y = some (.pointer none)) (h : WL P n ds rest ((d, .bool p.isNone) :: σ) w Q) :
    WL P n ds (⟨some d, .binOp .eql T x y U, TB, pos, af, none⟩ :: rest) σ w Q :=
  wl_run hn (fun ρ hρ => by simp [execOp, hρ _ _ hx, hρ _ _ hy, eqGuard, run_eql_pointer_nil _ T p hT]) h
theorem wl_neqself {a : Addr} {te : TypeId} {j : TypeInfo} (hT : P.underlying T = some (.pointer te)) (hte : P.info? te = some j) (hn : Nat.blt d n = true) (hx : eop σ x = some (.pointer (some a))) (hy : eop σ y = some (.pointer (some a))) (h : WL P n ds rest ((d, .bool false) :: σ) w Q) :
    WL P n ds (⟨some d, .binOp .neq T x y U, TB, pos, af, none⟩ :: rest) σ w Q :=
  wl_run hn (fun ρ hρ => by simp [execOp, hρ _ _ hx, hρ _ _ hy, eqGuard, Lib.run_neq_ptr_same w a hT hte]) h
theorem blk_shape {b : Nat} {c1 c2 : Value} {i : Nat} (hS : Sep base w L) (hg : lget L i = some (R.blk b T [c1, c2])) : w.shape? b = some (T, 2) := by
  have h : w.heap[b]? = some (.cells [c1, c2].toArray T (0, 0)) := hS.ok hg
  simp [World.shape?, h]
theorem wl_tounsaf {a : Addr} {t e : TypeId} {j : TypeInfo} {cells : Nat} (hs : P.underlying T = some (.pointer t)) (hd : P.underlying U = some .unsafePointer) (ht : P.info? t = some j) (hj : j.size ≠ 0) (hsh : w.shape? a.block = some (e, cells)) (hoff : a.off < cells)
    (hn : Nat.blt d n = true) (hx : eop σ x = some (.pointer (some a))) (h : WL P n ds rest ((d, .pointer (some a)) :: σ) w Q) : WL P n ds (⟨some d, .convert T U x, TB, pos, af, none⟩ :: rest) σ w Q :=
  wl_run hn (fun ρ hρ => by simp [execOp, hρ _ _ hx, Lib.run_to_unsafe w a hs hd ht hj hsh hoff]) h
theorem wl_fromunsaf {a : Addr} {u e : TypeId} {j : TypeInfo} {cells : Nat} (hs : P.underlying T = some .unsafePointer) (hd : P.underlying U = some (.pointer u)) (hu : P.info? u = some j) (hsh : w.shape? a.block = some (e, cells)) (hl : liesAt P P.depth e (cells / P.cellsOf e) a.off u 1 = true)
    (hn : Nat.blt d n = true) (hx : eop σ x = some (.pointer (some a))) (h : WL P n ds rest ((d, .pointer (some a)) :: σ) w Q) : WL P n ds (⟨some d, .convert T U x, TB, pos, af, none⟩ :: rest) σ w Q :=
  wl_run hn (fun ρ hρ => by simp [execOp, hρ _ _ hx, Lib.run_from_unsafe w a hs hd hu hsh hl]) h
/-- Where the bytes lie behind an append of a string. -/
theorem append_str_block {t u ty e : TypeId} {i : TypeInfo} (ht : P.underlying t = some (.slice e)) (hu : P.underlying u = some .string) (hi : P.info? e = some i) (hz : i.zero = some (.int .u8 0)) (hsize : i.size = 1) (hby : i.bytes = 1)
    {v v' : Value} {n : Nat} {xs : List Value} (hown : w.ownsRow base e 1 v n xs) {s : ByteArray} (hbytes : n + s.size ≤ 140737488355328) {w' : World} (hr : (Builtin.append_ #[t, u] ty #[v, .string s]).run P w = .ok v' w') (hnil : v' = .slice none 0 0 ↔ v = .slice none 0 0 ∧ s.size = 0) :
    v'.ownBlock = v.ownBlock ∨ v'.ownBlock = some w.heap.size := by
  have hxl : xs.length = n := by simpa using hown.1
  rcases hown.2 with ⟨rfl, rfl⟩ | ⟨g, cap, cur, rfl, hbg, hg, hnc, hcm, hcs, htake⟩
  · by_cases hm : s.size = 0
    · left; rw [hnil.2 ⟨rfl, hm⟩]
    · right
      rw [run_append_nil_string w t u ty e i (.int .u8 0) ht hu hi hz s (by omega) (by omega) (by rw [hby]; omega)] at hr
      injection hr with h1 _
      rw [← h1]; rfl
  · by_cases hroom : n + s.size ≤ cap
    · left
      rw [Lib.run_append_room_string w t u ty e i ht hu hi hsize g n cap cur hg s hroom (by omega)] at hr
      injection hr with h1 _
      rw [← h1]; rfl
    · right
      have holds : ∀ j u, xs[j]? = some u → w.cell? ((⟨g, 0, none⟩ : Addr).add j) = some u := hown.cells (g := g) rfl
      rw [Lib.run_append_grow_string w t u ty e i (.int .u8 0) ht hu hi hz ⟨g, 0, none⟩ n cap xs (by rw [hsize]; simpa using hxl) holds s (by omega) (by omega) (by rw [hby]; exact growslice_fits (by omega) (by omega))] at hr
      injection hr with h1 _
      rw [← h1]; rfl
theorem ints_flat {f : Int → List Value} (hfe : ∀ x, f x = [.int .u8 x]) : ∀ s : List UInt8, s.map (fun b => Value.int .u8 (b.toNat : Int)) = ((ints s).map f).flatten
  | [] => rfl
  | a :: s => by
    have := ints_flat hfe s
    unfold ints at this ⊢
    simp only [List.map_cons, List.flatten_cons, hfe, List.singleton_append, this]
/-- 'append(x, s...)', s a string. -/
theorem wl_appendstr {e : Ty P Int} {f : Int → List Value} (hf : Flat e f) (hfe : ∀ x, f x = [.int .u8 x]) (he1 : e.sz = 1) {inf : TypeInfo} (hi : P.info? e.tid = some inf) (hz : inf.zero = some (.int .u8 0)) (hsize : inf.size = 1) (hby : inf.bytes = 1)
    {V : TypeId} {F : List Nat} {v : Value} {l r : List Int} {s : List UInt8} {i : Nat} (hu : P.underlying U = some (.slice e.tid)) (hV : P.underlying V = some .string) (hn : Nat.blt d n = true)
    (hx : eop σ x = some v) (hy : eop σ y = some (.string (mkS s))) (hB : Below w0.heap.size w0 w) (hS : Sep w0.heap.size w L) (hg : lget L i = some (R.own e F v l)) (happ : bwr l s = some r)
    (h : ∀ v' F' w', (w.heap.size ≤ w'.heap.size ∧ (∀ b, b < w.heap.size → b ∉ F → w'.heap[b]? = w.heap[b]?) ∧ ∀ b ∈ F', b ∈ F ∨ w.heap.size ≤ b) → Below w0.heap.size w0 w' → Sep w0.heap.size w' (lset L i (R.own e F' v' r)) → WL P n ds rest ((d, v') :: σ) w' Q) :
    WL P n ds (⟨some d, .call ⟨.builtin .append, #[x, y], #[U, V]⟩, T, pos, af, none⟩ :: rest) σ w Q := by
  unfold bwr at happ
  split at happ
  · rename_i hlen
    cases happ
    have ho : ownS e F w v l := hS.ok hg
    have hlf := fun x => hf.len w x
    have hown : w.ownsRow w0.heap.size e.tid 1 v l.length (l.map f).flatten := by
      refine ⟨by rw [flat_len f e.sz hlf l, he1], ?_⟩
      rcases (ownS_flat hf).1 ho with ⟨h1, h2, h3⟩ | ⟨g, cap, cur, h1, h2, h3, h4, h5, h6, h7⟩
      · exact .inl ⟨h1, by rw [h2]; rfl⟩
      · rw [he1] at h5 h6
        exact .inr ⟨g, cap, cur, h1, ((hS.get hg).2.1 g (by show g ∈ F; rw [h7]; simp)).1, h2, h3, h4, h5, h6⟩
    have hss : (mkS s).size = s.length := by simp [mkS, ByteArray.size]
    have hblk : ∀ k, v.ownBlock = some k → k ∈ F := by
      intro k hk
      rcases (ownS_flat hf).1 ho with ⟨h1, h2, h3⟩ | ⟨g, cap, cur, h1, h2, h3, h4, h5, h6, h7⟩
      · rw [h1] at hk; cases hk
      · rw [h1] at hk
        simp [Value.ownBlock] at hk
        rw [h7, ← hk]; simp
    obtain ⟨v', w', hrun, hown', hgr, hnil⟩ := Lib.run_append_own_string w w0.heap.size U V T e.tid inf hu hV hi hz hsize hby v l.length _ hown (mkS s) (by rw [hss]; simp only [maxLen]; omega) (by rw [hss]; exact hlen) hB.size
    have hb4 := append_str_block hu hV hi hz hsize hby hown (by rw [hss]; exact hlen) hrun hnil
    have hcells : (l.map f).flatten ++ Lib.strCells (mkS s) = ((l ++ ints s).map f).flatten := by
      rw [List.map_append, List.flatten_append]
      rw [← ints_flat hfe s]
      rfl
    rw [hcells, hss] at hown'
    have hlr : (l ++ ints s).length = l.length + s.length := by simp [ints]
    obtain ⟨F', ho', hnd, hF⟩ : ∃ F', ownS e F' w' v' (l ++ ints s) ∧ F'.Nodup ∧ ∀ b ∈ F', b ∈ F ∨ (w.heap.size ≤ b ∧ b < w'.heap.size) := by
      rcases hown'.2 with ⟨h1, h2⟩ | ⟨g, cap, cur, h1, hbg, h2, h3, h4, h5, h6⟩
      · have : l ++ ints s = [] := List.eq_nil_of_length_eq_zero (by rw [hlr]; exact h2)
        exact ⟨[], (ownS_flat hf).2 (.inl ⟨h1, this, rfl⟩), .nil, fun b hb => by cases hb⟩
      · refine ⟨[g], (ownS_flat hf).2 (.inr ⟨g, cap, cur, by rw [hlr]; exact h1, h2, by rw [hlr]; exact h3, h4, by rw [he1]; exact h5, by rw [hlr, he1]; exact h6, rfl⟩), by simp, fun b hb => ?_⟩
        rw [List.mem_singleton] at hb
        subst hb
        rcases hb4 with h | h
        · exact .inl (hblk b (by rw [← h, h1]; rfl))
        · rw [h1] at h
          simp [Value.ownBlock] at h
          exact .inr ⟨by omega, (Array.getElem?_eq_some_iff.1 h2).1⟩
    obtain ⟨hB', hS'⟩ := sep_grown hS hg hB ho' hgr hnd hF hblk
    exact wl_run hn (fun ρ hρ => by simp [execOp, resolve, invoke, builtin, hρ _ _ hx, hρ _ _ hy, hrun]) (h v' F' w' ⟨hgr.size, fun b hlt hb => hgr.block b hlt fun e => hb (hblk b e.symm), fun b hb => (hF b hb).imp id fun h => h.1⟩ hB' hS')
  · cases happ
end

theorem btf_TP : TF Tryd.prog 67 1 false (.pointer none) := ⟨Tryd.sizeOf67, Tryd.isAgg67, Tryd.zeroValue67, by decide, by decide⟩
theorem bff_0 : FFb Tryd.prog 69 0 0 = true := by kernel_rfl
theorem bff_1 : FFb Tryd.prog 69 1 1 = true := by kernel_rfl
theorem C_Builder_copyCheck (w0 : World) (b : Nat) (p v : Value) (hp : p = .pointer none ∨ p = .pointer (some ⟨b, 0, none⟩)) (hS0 : Sep 0 w0 [R.blk b 69 [p, v]]) (h1 : Ones [v]) :
  Calls Tryd.prog 71 [(.pointer (some ⟨b, 0, none⟩))].toArray w0 fun e w' => e = .returned (tupV []) ∧ Below 0 (wE w0) w' ∧ Sep 0 w' [R.rest w0 (fps [R.blk b 69 [p, v]]), R.blk b 69 [.pointer (some ⟨b, 0, none⟩), v]] := by
  refine calls_mkn' Tryd.func71 rfl Tryd.ntmps71 rfl rfl fun Q hQn hQ hP => ?_
  have hB : Below (wE w0).heap.size (wE w0) w0 := wE_below w0
  have hS : Sep (wE w0).heap.size w0 [R.rest w0 (fps [R.blk b 69 [p, v]]), R.blk b 69 [p, v]] := hS0.rest
  have hsh := blk_shape (i := 1) hS rfl
  refine W.seq fun K1 hK1 => W.region (wl_move rfl rfl (wl_nilCheck rfl rfl (wl_field (o := 0) (off' := 0) bff_0 rfl rfl rfl (wl_load_blk (i := 1) (vs := [p]) (v := p) btf_TP rfl rfl hS rfl rfl rfl ?_))))
  rcases hp with rfl | rfl
  · refine wl_eqnil (p := none) Tryd.underlying67 rfl rfl rfl (WL.nil fun a ha => hK1 _ _ (W.cond rfl (fun _ => ?_) (fun h => by cases h)) a ha)
    refine W.region (wl_move rfl rfl (wl_move rfl rfl (wl_tounsaf (a := ⟨b, 0, none⟩) Tryd.underlying67 Tryd.underlying104 Tryd.type69 (by decide) hsh (Nat.zero_lt_succ 1) rfl rfl ?_)))
    refine wl_ext (vs := [.pointer (some ⟨b, 0, none⟩)]) (v := .pointer (some ⟨b, 0, none⟩)) (e := Extern.AbiNoEscape.same) rfl Tryd.func82 rfl rfl (by kernel_rfl) (by kernel_rfl) rfl (Lib.run_noEscape _ _) ?_
    refine wl_fromunsaf (a := ⟨b, 0, none⟩) Tryd.underlying104 Tryd.underlying67 Tryd.type69 hsh (by kernel_rfl) rfl rfl ?_
    refine wl_nilCheck rfl rfl (wl_field (o := 0) (off' := 0) bff_0 rfl rfl rfl (wl_store_blk (i := 1) (vs := [.pointer (some ⟨b, 0, none⟩)]) (cs' := [.pointer (some ⟨b, 0, none⟩), v]) btf_TP rfl rfl rfl rfl hB hS rfl rfl ⟨rfl, trivial⟩ rfl ?_))
    intro w1 hk hB1 hS1
    exact WL.nil (retsn (vs := []) hQn rfl trivial ⟨rfl, hB1, hS1⟩)
  · refine wl_eqnil (p := some ⟨b, 0, none⟩) Tryd.underlying67 rfl rfl rfl (WL.nil fun a ha => hK1 _ _ (W.cond rfl (fun h => by cases h) (fun _ => ?_)) a ha)
    refine W.seq fun K2 hK2 => W.region (wl_move rfl rfl (wl_nilCheck rfl rfl (wl_field (o := 0) (off' := 0) bff_0 rfl rfl rfl (wl_load_blk (i := 1) (vs := [.pointer (some ⟨b, 0, none⟩)]) (v := .pointer (some ⟨b, 0, none⟩)) btf_TP rfl rfl hS rfl rfl rfl ?_))))
    refine wl_move rfl rfl (wl_neqself (a := ⟨b, 0, none⟩) Tryd.underlying67 Tryd.type69 rfl rfl rfl (WL.nil fun a ha => hK2 _ _ (W.cond rfl (fun h => by cases h) (fun _ => ?_)) a ha))
    exact W.skip (retsn (vs := []) hQn rfl trivial ⟨rfl, hB, hS⟩)
theorem btf_SL : TF Tryd.prog 35 1 false (.slice none 0 0) := ⟨Tryd.sizeOf35, Tryd.isAgg35, Tryd.zeroValue35, by decide, by decide⟩
theorem C_Builder_WriteString (w0 : World) (b : Nat) (p v : Value) (hp : p = .pointer none ∨ p = .pointer (some ⟨b, 0, none⟩)) (F : List Nat) (l : List Int) (s : List UInt8) (hS0 : Sep 0 w0 [R.blk b 69 [p, v], R.own ty_5 F v l]) (u : List Int) (hu : bwr l s = some u) :
  Calls Tryd.prog 40 [(.pointer (some ⟨b, 0, none⟩)), (.string (mkS s))].toArray w0 fun e w' => e = .returned (tupV [.int .i64 (s.length : Int), .nilIface]) ∧ Below 0 (wE w0) w' ∧
    ∃ v' F', Sep 0 w' [R.rest w0 (fps [R.blk b 69 [p, v], R.own ty_5 F v l]), R.blk b 69 [.pointer (some ⟨b, 0, none⟩), v'], R.own ty_5 F' v' u] ∧ w0.heap.size ≤ w'.heap.size := by
  refine calls_mk' Tryd.func40 rfl Tryd.ntmps40 rfl rfl fun Q hQ hP => ?_
  have hB : Below (wE w0).heap.size (wE w0) w0 := wE_below w0
  have hS : Sep (wE w0).heap.size w0 [R.rest w0 (fps [R.blk b 69 [p, v], R.own ty_5 F v l]), R.blk b 69 [p, v], R.own ty_5 F v l] := hS0.rest
  have hss : (mkS s).size = s.length := by simp [mkS, ByteArray.size]
  refine W.seq fun K1 hK1 => W.region (wl_assign rfl rfl (wl_assign rfl rfl (WL.nil fun a ha => hK1 _ _ (W.seq fun K2 hK2 => ?_) a ha)))
  refine W.region (wl_move rfl rfl (wl_call rfl Tryd.call71 (C_Builder_copyCheck w0 b p v hp (hS.sel [1] rfl).base0 (by exact ⟨((hS.own_ro (i := 2) rfl).one), trivial⟩)) rfl ?_))
  rintro _ w1 ⟨rfl, hE1, hM1⟩
  refine ⟨_, rfl, ?_⟩
  have hB1 := hS.takeB [1] rfl (M := [R.blk b 69 [p, v]]) rfl hB hE1 hM1
  have hS1 : Sep (wE w0).heap.size w1 [R.blk b 69 [.pointer (some ⟨b, 0, none⟩), v], R.rest w0 (fps [R.blk b 69 [p, v], R.own ty_5 F v l]), R.own ty_5 F v l] := hS.take [1] [0, 2] rfl (M := [R.blk b 69 [p, v]]) rfl hM1 hB.size
  refine WL.nil fun a ha => hK2 _ _ (W.seq fun K3 hK3 => ?_) a ha
  refine W.region (wl_move rfl rfl (wl_move rfl rfl (wl_nilCheck rfl rfl (wl_field (o := 1) (off' := 1) bff_1 rfl rfl rfl (wl_load_blk (i := 0) (vs := [v]) (v := v) btf_SL rfl rfl hS1 rfl rfl rfl (wl_move rfl rfl ?_))))))
  refine wl_appendstr (i := 2) fl_5 (fun _ => rfl) rfl Tryd.type5 rfl rfl rfl Tryd.underlying35 Tryd.underlying9 rfl rfl rfl hB1 hS1 rfl hu ?_
  intro v' F' w2 hk hB2 hS2
  refine wl_nilCheck rfl rfl (wl_field (o := 1) (off' := 1) bff_1 rfl rfl rfl (wl_store_blk (i := 0) (vs := [v']) (cs' := [.pointer (some ⟨b, 0, none⟩), v']) btf_SL rfl rfl (cells_one (hS2.own_ro (i := 2) rfl).one) rfl hB2 hS2 rfl rfl ⟨(hS2.own_ro (i := 2) rfl).one, trivial⟩ rfl ?_))
  intro w3 hk3 hB3 hS3
  refine WL.nil fun a ha => hK3 _ _ (W.seq fun K4 hK4 => ?_) a ha
  refine W.region (wl_move rfl rfl (wl_strlen Tryd.underlying9 rfl rfl (wl_assign rfl rfl (wl_assign rfl rfl (WL.nil fun a ha => hK4 _ _ (W.ret ?_) a ha)))))
  exact rets (vs := [.int .i64 (s.length : Int), .nilIface]) hQ rfl ⟨rv_tmp rfl, rv_tmp rfl, trivial⟩ ⟨rfl, hB3, v', F', hS3.sel [1, 0, 2] rfl, Nat.le_trans (box_kept hM1).1 (Nat.le_trans hk.1 hk3.1)⟩
theorem bld_kept {P : Program} {α : Type} {e : Ty P α} {b : Nat} {V : TypeId} {cs : List Value} {F : List Nat} {v : Value} {l : List α} {N : List Res} {w w' : World} (hS' : Sep 0 w' (R.rest w (fps [R.blk b V cs, R.own e F v l]) :: N)) (hz : w.heap.size ≤ w'.heap.size) :
    w.heap.size ≤ w'.heap.size ∧ ∀ c, c < w.heap.size → c ∉ [b] ++ F → w'.heap[c]? = w.heap[c]? :=
  ⟨hz, fun c hc hn => mut_kept hS' c hc (fun hx => hn (by simpa [fps, R.blk, R.own] using hx))⟩
/-- The table of powers of ten lies in memory as start-up laid it. -/
def Tab (w : World) : Prop := Lib.TabIs Tryd.prog w "internal/strconv.uint64pow10" .u64 Lib.pow10Tab
theorem Tab.st {w0 w : World} (h : Tab w0) (hB : Below w0.heap.size w0 w) : Tab w := Lib.tabBelow_of_tabIs h w hB
theorem C_strconv_Itoa (w0 : World) (hT : Tab w0) (x0 : Int) (r : List UInt8) (hF : F_strconv_Itoa x0 = some r) :
  Calls Tryd.prog 43 [(.int .i64 x0)].toArray w0 fun e w' => e = .returned (.string (mkS r)) ∧ Below w0.heap.size w0 w' := by
  unfold F_strconv_Itoa at hF
  split at hF
  · rename_i h
    cases hF
    refine (Tryd.strconv_Itoa x0 h.1 h.2 w0 hT).mono ?_
    rintro e w' ⟨he, k, os, rfl⟩
    exact ⟨he, Lib.below_grow _ w0 (Nat.le_refl _) k os⟩
  · cases hF
theorem bstr_ints {l : List Int} {r : List UInt8} (h : bstr l = some r) : l = ints r := by
  unfold bstr at h
  split at h
  · rename_i ha
    cases h
    unfold ints
    rw [List.map_map]
    conv => lhs; rw [← List.map_id l]
    apply List.map_congr_left
    intro x hx
    have := List.all_eq_true.1 ha x hx
    simp only [decide_eq_true_eq] at this
    simp only [Function.comp, id]
    rw [UInt8.toNat_ofNat']
    omega
  · cases h
theorem C_Builder_String (w0 w : World) (b : Nat) (p v : Value) (hp : p = .pointer none ∨ p = .pointer (some ⟨b, 0, none⟩)) (F : List Nat) (l : List Int) {M : List Res} (hB : Below w0.heap.size w0 w) (hS : Sep w0.heap.size w (R.blk b 69 [p, v] :: R.own ty_5 F v l :: M)) (r : List UInt8) (hr : bstr l = some r) :
  Calls Tryd.prog 44 [(.pointer (some ⟨b, 0, none⟩))].toArray w fun e w' => e = .returned (.string (mkS r)) ∧ Below w0.heap.size w0 w' := by
  have hl := bstr_ints hr
  have hb : w.heap[b]? = some (.cells [p, v].toArray 69 (0, 0)) := hS.ok (i := 0) rfl
  have hbb := (hS.get (i := 0) rfl).2.1 b (by simp [R.blk])
  have ho : ownS ty_5 F w v l := hS.ok (i := 1) rfl
  have hdis := hS.disj (i := 0) (j := 1) rfl rfl rfl b (by simp [R.blk])
  have hcells : (l.map enc_5).flatten = Lib.byteCells r := by
    rw [hl]
    exact (ints_flat (f := enc_5) (fun _ => rfl) r).symm
  have hlen : (Lib.byteCells r).length = l.length := by rw [hl]; simp [Lib.byteCells, ints]
  have hown : w.ownsRow w0.heap.size 5 1 v (Lib.byteCells r).length (Lib.byteCells r) ∧ v.ownBlock ≠ some b := by
    rw [hlen, ← hcells]
    rcases (ownS_flat fl_5).1 ho with ⟨h1, h2, h3⟩ | ⟨g, cap, cur, h1, h2, h3, h4, h5, h6, h7⟩
    · exact ⟨⟨by rw [h2]; rfl, .inl ⟨h1, by rw [h2]; rfl⟩⟩, by rw [h1]; simp [Value.ownBlock]⟩
    · refine ⟨⟨flat_len enc_5 1 (fun _ => rfl) l, .inr ⟨g, cap, cur, h1, ((hS.get (i := 1) rfl).2.1 g (by show g ∈ F; rw [h7]; simp)).1, h2, h3, h4, h5, h6⟩⟩, ?_⟩
      rw [h1]
      simp only [Value.ownBlock, ne_eq, Option.some.injEq]
      intro e
      apply hdis
      show b ∈ F
      rw [h7, ← e]
      simp
  have hat : ∀ q, q = p → Lib.BuilderAt 69 5 w0.heap.size b q (Lib.byteCells r) w := fun q hq => by
    subst hq
    exact ⟨hbb.1, v, hb, hown.1, hown.2⟩
  have hi : Lib.IsBuilder 69 5 w0.heap.size b (Lib.byteCells r) w := by
    rcases hp with rfl | rfl
    · exact .inl (hat _ rfl)
    · exact .inr (hat _ rfl)
  refine (Tryd.Builder_String_any w0.heap.size b r w hi hB.size).mono ?_
  rintro e w' ⟨he, hb'⟩
  exact ⟨he, hB.trans hb'⟩
end Go.Proofs.YtejhnpimhjmpdaaDoor
