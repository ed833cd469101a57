/-
  SHEETS, PLAIN: their rows and moves; the spot after a count.
-/
import Derived.Test.YthlfhcefeaehmaaPClose
import Derived.Test.YthlfhcefeaehmaaPCue
set_option linter.unusedSimpArgs false
set_option linter.unusedVariables false
namespace Go.Proofs.Ythlfhcefeaehmaa
open Go
abbrev RowT := Int × (Int × Int)
abbrev SheetT := Int × (Int × Int) × (List RowT)
def firstLen' (x : ShowT) : Nat := match x.1[0]? with | some c => c.length | none => 0
def spotAt (x : ShowT) (k i : Nat) : Int × Int := ((chartAt x k)[i]?).getD (0, 0)
def rowsOf (x : ShowT) (i : Nat) : List RowT := (List.range x.2.1.length).map fun k => (countsAt x k, spotAt x (k + 1) i)
def sheetOf (x : ShowT) (i : Nat) : SheetT := ((i : Int), spotAt x 0 i, rowsOf x i)
theorem show_first {x : ShowT} (f : ShowFacts x) : ∃ c, x.1[0]? = some c ∧ c.length = firstLen' x ∧ 1 ≤ firstLen' x ∧ firstLen' x ≤ 12 := by
  have := f.n0
  obtain ⟨c, hc⟩ : ∃ c, x.1[0]? = some c := ⟨_, List.getElem?_eq_getElem (by omega)⟩
  have hl := f.cl c (List.mem_of_getElem? hc)
  have e : c.length = firstLen' x := by unfold firstLen'; rw [hc]
  exact ⟨c, hc, e, by omega, by omega⟩
theorem sheet_loop (F : Nat → List RowT → Int → Option SheetT) (x : ShowT) (f : ShowFacts x) (i : Nat) (hi : i < firstLen' x) (st : Int × Int)
    (hs : ∀ m s y, F (m + 1) s y = if (decide (y < (List.length x.2.1 : Int))) = true then Option.bind (idx x.2.1 y) fun u => Option.bind (idx x.1 (w64 (y + 1))) fun v => Option.bind (idx v (i : Int)) fun w => Option.bind (app s [(u, w)]) fun z => F m z (w64 (y + 1)) else some ((i : Int), st, s)) :
    F FU [] 0 = some ((i : Int), st, rowsOf x i) := by
  have h1 := f.n1
  have h2 := f.nc
  obtain ⟨c, hc, he, _, _⟩ := show_first f
  rw [loopMap F x.2.1.length (fun k => (countsAt x k, spotAt x (k + 1) i)) (fun s => some ((i : Int), st, s)) (by omega) (fun m s k hk hsl => ?_) (fun m s => ?_)]
  · rfl
  · obtain ⟨a, b, n, g1, g2, g3, g4, _⟩ := part_facts f hk
    have hb : b.length = c.length := chart_len f g2 hc
    obtain ⟨w, hw⟩ : ∃ w, b[i]? = some w := ⟨_, List.getElem?_eq_getElem (by omega)⟩
    rw [hs, if_pos (by simp; omega), idx_nat, g3, Option.bind_some, w64_succ (by omega), idx_nat, g2, Option.bind_some, idx_nat, hw, Option.bind_some, app_ok (by simp; omega), Option.bind_some]
    unfold spotAt
    rw [chartAt_of g2, hw]
    unfold countsAt
    rw [g3]
    rfl
  · rw [hs, if_neg (by simp)]
theorem spec_shOf (x : ShowT) (f : ShowFacts x) (i : Nat) (hi : i < firstLen' x) : F_spec_shOf x.1 x.2.1 (i : Int) = some (sheetOf x i) := by
  obtain ⟨c, hc, he, _, _⟩ := show_first f
  obtain ⟨st, hst⟩ : ∃ w, c[i]? = some w := ⟨_, List.getElem?_eq_getElem (by omega)⟩
  unfold F_spec_shOf sheetOf
  rw [idx_zero, hc, Option.bind_some, idx_nat, hst, Option.bind_some]
  have e : spotAt x 0 i = st := by unfold spotAt; rw [chartAt_of hc, hst]; rfl
  rw [e]
  exact sheet_loop _ x f i hi st (fun m s y => by rw [F_spec_shOf_L1]; rfl)
theorem impl_sheetOf (x : ShowT) (f : ShowFacts x) (i : Nat) (hi : i < firstLen' x) : F_impl_sheetOf x.1 x.2.1 (i : Int) = some (sheetOf x i) := by
  obtain ⟨c, hc, he, _, _⟩ := show_first f
  obtain ⟨st, hst⟩ : ∃ w, c[i]? = some w := ⟨_, List.getElem?_eq_getElem (by omega)⟩
  unfold F_impl_sheetOf sheetOf
  rw [idx_zero, hc, Option.bind_some, idx_nat, hst, Option.bind_some]
  have e : spotAt x 0 i = st := by unfold spotAt; rw [chartAt_of hc, hst]; rfl
  rw [e]
  exact sheet_loop _ x f i hi st (fun m s y => by rw [F_impl_sheetOf_L1]; rfl)
/-! tests of sheets -/
def okRow (r : RowT) : Bool := okIn r.1 1 64 && okSpot r.2
def okSheet (s : SheetT) : Bool := okIn s.1 0 11 && okSpot s.2.1 && s.2.2.all okRow && decide (s.2.2.length ≤ 8)
theorem spec_shGood (s : SheetT) (h : s.2.2.length < 4611686018427387904) : F_spec_shGood s = some (okSheet s) := by
  unfold F_spec_shGood okSheet
  rw [loopL (F_spec_shGood_L1 s) s.2.2 okRow (some (okIn s.1 0 11 && okSpot s.2.1 && decide (s.2.2.length ≤ 8))) (some false) h (fun m k r hk hr => ?_) (fun m => ?_)]
  · cases s.2.2.all okRow <;> simp
  · rw [F_spec_shGood_L1, if_pos (by simp; omega), idx_nat, hr, Option.bind_some]
    unfold jK1 okRow
    dsimp only
    rw [spec_l1In, Option.bind_some, spec_stGood, Option.bind_some, w64_succ (by omega)]
    cases okIn r.1 1 64 <;> cases okSpot r.2 <;> simp
  · rw [F_spec_shGood_L1, if_neg (by simp)]
    unfold jK1
    dsimp only
    rw [spec_l1In, Option.bind_some, spec_stGood, Option.bind_some]
    have e : decide ((s.2.2.length : Int) ≤ 8) = decide (s.2.2.length ≤ 8) := by rw [Bool.eq_iff_iff]; simp; omega
    rw [e]
    cases okIn s.1 0 11 <;> cases okSpot s.2.1 <;> simp
theorem impl_IsSheet (s : SheetT) (h : s.2.2.length < 4611686018427387904) : F_impl_IsSheet s = some (okSheet s) := by
  unfold F_impl_IsSheet okSheet jK1
  dsimp only
  rw [impl_within, Option.bind_some, impl_IsSpot, Option.bind_some]
  have e : decide (8 < (s.2.2.length : Int)) = !decide (s.2.2.length ≤ 8) := by rw [Bool.eq_iff_iff]; simp; omega
  have hin : F_impl_IsSheet_L1 s FU 0 = some (s.2.2.all okRow) := by
    rw [loopL (F_impl_IsSheet_L1 s) s.2.2 okRow (some true) (some false) h (fun m k r hk hr => ?_) (fun m => ?_)]
    · cases s.2.2.all okRow <;> simp
    · rw [F_impl_IsSheet_L1, if_pos (by simp; omega), idx_nat, hr, Option.bind_some]
      unfold jK1 okRow
      dsimp only
      rw [impl_within, Option.bind_some, impl_IsSpot, Option.bind_some, w64_succ (by omega)]
      cases okIn r.1 1 64 <;> cases okSpot r.2 <;> simp
    · rw [F_impl_IsSheet_L1, if_neg (by simp)]
  rw [hin, e]
  cases okIn s.1 0 11 <;> cases okSpot s.2.1 <;> cases decide (s.2.2.length ≤ 8) <;> simp
/-! moves of a sheet -/
def rowMoves : Int × Int → List RowT → List MoveT
  | _, [] => []
  | st, r :: rs => (st, r.2, r.1) :: rowMoves r.2 rs
def lastOf : Int × Int → List RowT → Int × Int
  | st, [] => st
  | _, r :: rs => lastOf r.2 rs
theorem rowMoves_append (st : Int × Int) (l m : List RowT) : rowMoves st (l ++ m) = rowMoves st l ++ rowMoves (lastOf st l) m := by
  induction l generalizing st with
  | nil => rfl
  | cons r l ih => simp [rowMoves, lastOf, ih]
theorem lastOf_append (st : Int × Int) (l m : List RowT) : lastOf st (l ++ m) = lastOf (lastOf st l) m := by
  induction l generalizing st with
  | nil => rfl
  | cons r l ih => simp [lastOf, ih]
theorem rowMoves_len (st : Int × Int) (l : List RowT) : (rowMoves st l).length = l.length := by
  induction l generalizing st with
  | nil => rfl
  | cons r l ih => simp [rowMoves, ih]
theorem rows_loop (F : Nat → List MoveT → Int → Int → Int → Option (List MoveT)) (rs : List RowT) (st : Int × Int) (hl : rs.length < 1073741824)
    (hs : ∀ m l a b y, F (m + 1) l a b y = if (decide (y < (List.length rs : Int))) = true then Option.bind (idx rs y) fun u => Option.bind (app l [((a, b), u.2, u.1)]) fun z => F m z u.2.1 u.2.2 (w64 (y + 1)) else some l) :
    F FU [] st.1 st.2 0 = some (rowMoves st rs) := by
  have := loopS (fun m (s : List MoveT × Int × Int) y => F m s.1 s.2.1 s.2.2 y) rs.length (fun k s => match rs[k]? with | some u => (s.1 ++ [((s.2.1, s.2.2), u.2, u.1)], u.2.1, u.2.2) | none => s) (fun s => some s.1) (by omega)
    (fun k s => s = (rowMoves st (rs.take k), (lastOf st (rs.take k)).1, (lastOf st (rs.take k)).2)) ([], st.1, st.2) (by simp [rowMoves, lastOf]) (fun k s hk hi => ?_) (fun m k s hk hi => ?_) (fun m s hi => ?_)
  · have h2 := this.2
    have h1 := this.1
    rw [h2] at h1
    simpa using h1
  · have hx : rs[k]? = some rs[k] := by simp [hk]
    simp only [hx]
    rw [hi, List.take_succ_eq_append_getElem hk, rowMoves_append, lastOf_append]
    rfl
  · have hx : rs[k]? = some rs[k] := by simp [hk]
    simp only [hx]
    have hlen : s.1.length = k := by rw [hi, rowMoves_len]; simp; omega
    rw [hs, if_pos (by simp; omega), idx_nat, hx, Option.bind_some, app_ok (by simp; omega), Option.bind_some, w64_succ (by omega)]
  · rw [hs, if_neg (by simp)]
theorem spec_shRows (s : SheetT) (h : s.2.2.length < 1073741824) : F_spec_shRows s = some (rowMoves s.2.1 s.2.2) := by
  unfold F_spec_shRows
  exact rows_loop (F_spec_shRows_L1 s) s.2.2 s.2.1 h fun m l a b y => by rw [F_spec_shRows_L1]
theorem impl_sheetMoves (s : SheetT) (h : s.2.2.length < 1073741824) : F_impl_sheetMoves s = some (rowMoves s.2.1 s.2.2) := by
  unfold F_impl_sheetMoves jK3
  exact rows_loop (F_impl_sheetMoves_L1 s) s.2.2 s.2.1 h fun m l a b y => by rw [F_impl_sheetMoves_L1]
/-! rounding -/
def rd (x c : Int) : Int := Int.tdiv (2 * x + c) (2 * c)
def roundM (u : MoveT) (k : Int) : Int × Int := (rd (u.1.1 * u.2.2 + (u.2.1.1 - u.1.1) * k) u.2.2, rd (u.1.2 * u.2.2 + (u.2.1.2 - u.1.2) * k) u.2.2)
theorem rd_bounds {x c : Int} (hx : 0 ≤ x) (hx2 : x ≤ 1000000) (hc : 1 ≤ c) (hc2 : c ≤ 64) : 0 ≤ rd x c ∧ rd x c ≤ 3000000 := by
  unfold rd
  rw [Int.tdiv_eq_ediv_of_nonneg (by omega)]
  refine ⟨Int.ediv_nonneg (by omega) (by omega), ?_⟩
  exact Int.le_trans (Int.ediv_le_self _ (by omega)) (by omega)
/-- A place on the way, times the counts, lies between. -/
theorem place_bounds {a b c k B : Int} (ha : 0 ≤ a) (ha2 : a ≤ B) (hb : 0 ≤ b) (hb2 : b ≤ B) (hB : B ≤ 1280) (hc : 1 ≤ c) (hc2 : c ≤ 64) (hk : 0 ≤ k) (hk2 : k ≤ c) :
    0 ≤ a * c + (b - a) * k ∧ a * c + (b - a) * k ≤ 81920 ∧ -81920 ≤ (b - a) * k ∧ (b - a) * k ≤ 81920 ∧ 0 ≤ a * c ∧ a * c ≤ 81920 := by
  have h1 : a * c + (b - a) * k = a * (c - k) + b * k := by rw [Int.sub_mul, Int.mul_sub]; omega
  have h2 : 0 ≤ a * (c - k) := Int.mul_nonneg ha (by omega)
  have h3 : 0 ≤ b * k := Int.mul_nonneg hb hk
  have h4 : a * (c - k) ≤ 1280 * (c - k) := Int.mul_le_mul_of_nonneg_right (by omega) (by omega)
  have h5 : b * k ≤ 1280 * k := Int.mul_le_mul_of_nonneg_right (by omega) hk
  have h6 : 0 ≤ a * c := Int.mul_nonneg ha (by omega)
  have h7 : a * c ≤ 1280 * c := Int.mul_le_mul_of_nonneg_right (by omega) (by omega)
  refine ⟨by omega, by omega, by omega, by omega, h6, by omega⟩
theorem spec_mvRound (u : MoveT) (k : Int) (hg : goodMove u) (hc : 1 ≤ u.2.2 ∧ u.2.2 ≤ 64) (hk : 0 ≤ k ∧ k ≤ u.2.2) : F_spec_mvRound u k = some (roundM u k) := by
  obtain ⟨g1, g2⟩ := hg
  unfold okSpot at g1 g2
  rw [Bool.and_eq_true, okIn_iff, okIn_iff] at g1 g2
  have hX := place_bounds (a := u.1.1) (b := u.2.1.1) (B := 1280) g1.1.1 g1.1.2 g2.1.1 g2.1.2 (by omega) hc.1 hc.2 hk.1 hk.2
  have hY := place_bounds (a := u.1.2) (b := u.2.1.2) (B := 672) g1.2.1 g1.2.2 g2.2.1 g2.2.2 (by omega) hc.1 hc.2 hk.1 hk.2
  unfold F_spec_mvRound F_spec_mvAt roundM
  have b1 := rd_bounds (c := u.2.2) hX.1 (by omega) hc.1 hc.2
  have b2 := rd_bounds (c := u.2.2) hY.1 (by omega) hc.1 hc.2
  unfold rd at b1 b2 ⊢
  rw [Option.bind_some]
  dsimp only
  rw [w64_eq (x := u.2.1.1 - u.1.1) (by omega) (by omega), w64_eq (x := u.2.1.2 - u.1.2) (by omega) (by omega), w64_eq (x := u.1.1 * u.2.2) (by omega) (by omega), w64_eq (x := u.1.2 * u.2.2) (by omega) (by omega),
    w64_eq (x := (u.2.1.1 - u.1.1) * k) (by omega) (by omega), w64_eq (x := (u.2.1.2 - u.1.2) * k) (by omega) (by omega), w64_eq (x := u.1.1 * u.2.2 + (u.2.1.1 - u.1.1) * k) (by omega) (by omega), w64_eq (x := u.1.2 * u.2.2 + (u.2.1.2 - u.1.2) * k) (by omega) (by omega),
    w64_eq (x := 2 * u.2.2) (by omega) (by omega), if_neg (by omega), if_neg (by omega), w64_eq (x := 2 * (u.1.1 * u.2.2 + (u.2.1.1 - u.1.1) * k)) (by omega) (by omega), w64_eq (x := 2 * (u.1.2 * u.2.2 + (u.2.1.2 - u.1.2) * k)) (by omega) (by omega),
    w64_eq (x := 2 * (u.1.1 * u.2.2 + (u.2.1.1 - u.1.1) * k) + u.2.2) (by omega) (by omega), w64_eq (x := 2 * (u.1.2 * u.2.2 + (u.2.1.2 - u.1.2) * k) + u.2.2) (by omega) (by omega), w64_eq (by omega) (by omega), w64_eq (by omega) (by omega)]
theorem impl_roundDiv (x c : Int) (hx : 0 ≤ x) (hx2 : x ≤ 1000000) (hc : 1 ≤ c) (hc2 : c ≤ 64) : F_impl_roundDiv x c = some (rd x c) := by
  have b := rd_bounds hx hx2 hc hc2
  unfold F_impl_roundDiv F_impl_floorDiv jK1
  rw [w64_eq (x := 2 * x) (by omega) (by omega), w64_eq (x := 2 * x + c) (by omega) (by omega), w64_eq (x := 2 * c) (by omega) (by omega), if_neg (by omega)]
  dsimp only
  rw [if_neg (by omega)]
  have h0 : 0 ≤ Int.tmod (2 * x + c) (2 * c) := Int.tmod_nonneg _ (by omega)
  rw [if_neg (by simp; omega)]
  unfold rd at b ⊢
  rw [w64_eq (by omega) (by omega)]
  rfl
theorem impl_roundedAt (u : MoveT) (k : Int) (hg : goodMove u) (hc : 1 ≤ u.2.2 ∧ u.2.2 ≤ 64) (hk : 0 ≤ k ∧ k ≤ u.2.2) : F_impl_roundedAt u k = some (roundM u k) := by
  obtain ⟨g1, g2⟩ := hg
  unfold okSpot at g1 g2
  rw [Bool.and_eq_true, okIn_iff, okIn_iff] at g1 g2
  have hX := place_bounds (a := u.1.1) (b := u.2.1.1) (B := 1280) g1.1.1 g1.1.2 g2.1.1 g2.1.2 (by omega) hc.1 hc.2 hk.1 hk.2
  have hY := place_bounds (a := u.1.2) (b := u.2.1.2) (B := 672) g1.2.1 g1.2.2 g2.2.1 g2.2.2 (by omega) hc.1 hc.2 hk.1 hk.2
  unfold F_impl_roundedAt F_impl_placeAt roundM
  rw [Option.bind_some]
  dsimp only
  rw [w64_eq (x := u.2.1.1 - u.1.1) (by omega) (by omega), w64_eq (x := u.2.1.2 - u.1.2) (by omega) (by omega), w64_eq (x := u.1.1 * u.2.2) (by omega) (by omega), w64_eq (x := u.1.2 * u.2.2) (by omega) (by omega),
    Int.mul_comm k, Int.mul_comm k, w64_eq (x := (u.2.1.1 - u.1.1) * k) (by omega) (by omega), w64_eq (x := (u.2.1.2 - u.1.2) * k) (by omega) (by omega), w64_eq (x := u.1.1 * u.2.2 + (u.2.1.1 - u.1.1) * k) (by omega) (by omega), w64_eq (x := u.1.2 * u.2.2 + (u.2.1.2 - u.1.2) * k) (by omega) (by omega),
    impl_roundDiv _ _ hX.1 (by omega) hc.1 hc.2, Option.bind_some, impl_roundDiv _ _ hY.1 (by omega) hc.1 hc.2, Option.bind_some]
theorem round_zero (u : MoveT) (hg : goodMove u) (hc : 1 ≤ u.2.2 ∧ u.2.2 ≤ 64) : roundM u 0 = u.1 := by
  obtain ⟨g1, g2⟩ := hg
  unfold okSpot at g1
  rw [Bool.and_eq_true, okIn_iff, okIn_iff] at g1
  have key : ∀ a : Int, 0 ≤ a → rd (a * u.2.2 + 0) u.2.2 = a := by
    intro a ha
    unfold rd
    have h0 : 0 ≤ a * u.2.2 := Int.mul_nonneg ha (by omega)
    rw [Int.tdiv_eq_ediv_of_nonneg (by omega), show 2 * (a * u.2.2 + 0) + u.2.2 = u.2.2 + (2 * u.2.2) * a by rw [Int.add_zero, Int.mul_comm a, ← Int.mul_assoc]; omega, Int.add_mul_ediv_left _ _ (by omega), Int.ediv_eq_zero_of_lt (by omega) (by omega)]
    omega
  unfold roundM
  rw [Int.mul_zero, Int.mul_zero, key _ g1.1.1, key _ g1.2.1]
/-! the spot after a count -/
def afterM : List MoveT → Int → (Int × Int) × Bool
  | [], _ => ((0, 0), false)
  | u :: ms, c => if c ≤ u.2.2 then (roundM u c, true) else afterM ms (c - u.2.2)
def fineMoves (ms : List MoveT) : Prop := ∀ u ∈ ms, goodMove u ∧ 1 ≤ u.2.2 ∧ u.2.2 ≤ 64
theorem rowMoves_fine {st : Int × Int} {rs : List RowT} (h0 : okSpot st = true) (h : rs.all okRow = true) : fineMoves (rowMoves st rs) := by
  induction rs generalizing st with
  | nil => intro u hu; cases hu
  | cons r rs ih =>
    rw [List.all_cons, Bool.and_eq_true] at h
    have hr := h.1
    unfold okRow at hr
    rw [Bool.and_eq_true, okIn_iff] at hr
    intro u hu
    rcases List.mem_cons.1 hu with rfl | hu
    · exact ⟨⟨h0, hr.2⟩, hr.1⟩
    · exact ih hr.2 h.2 u hu
def spotAns (s : SheetT) (c : Int) : (Int × Int) × Bool := if okSheet s && decide (0 ≤ c) then (if c = 0 then (s.2.1, true) else afterM (rowMoves s.2.1 s.2.2) c) else ((0, 0), false)
theorem after_loop (F : Nat → Int → Int → Option ((Int × Int) × Bool)) (ms : List MoveT) (hf : fineMoves ms) (hl : ms.length < 4611686018427387904) (rnd : MoveT → Int → Option (Int × Int)) (fin : Int → Option ((Int × Int) × Bool))
    (hr : ∀ u ∈ ms, ∀ k, 0 ≤ k → k ≤ u.2.2 → rnd u k = some (roundM u k)) (hfin : ∀ c, 0 < c → fin c = some ((0, 0), false))
    (hs : ∀ m c y, F (m + 1) c y = if (decide (y < (List.length ms : Int))) = true then Option.bind (idx ms y) fun u => (if (decide (c ≤ u.2.2)) = true then Option.bind (rnd u c) fun z => some (z, true) else F m (w64 (c - u.2.2)) (w64 (y + 1))) else fin c) :
    ∀ c, 0 < c → c ≤ 9223372036854775807 → F FU c 0 = some (afterM ms c) := by
  have key : ∀ d k m c, ms.length - k = d → k ≤ ms.length → ms.length - k < m → 0 < c → c ≤ 9223372036854775807 → F m c (k : Int) = some (afterM (ms.drop k) c) := by
    intro d
    induction d with
    | zero =>
      intro k m c hd hk hm h0 h1
      have : k = ms.length := by omega
      subst this
      cases m with
      | zero => omega
      | succ m => rw [hs, if_neg (by simp), hfin c h0]; simp [afterM]
    | succ d ih =>
      intro k m c hd hk hm h0 h1
      cases m with
      | zero => omega
      | succ m =>
        have hk' : k < ms.length := by omega
        have hmem := List.getElem_mem hk'
        obtain ⟨hg, hc1, hc2⟩ := hf _ hmem
        rw [hs, if_pos (by simp; omega), idx_lt hk', Option.bind_some, List.drop_eq_getElem_cons hk', afterM]
        by_cases hq : c ≤ ms[k].2.2
        · rw [if_pos (by simpa using hq), if_pos hq, hr _ hmem c (by omega) hq]
          rfl
        · rw [if_neg (by simpa using hq), if_neg hq, w64_eq (x := c - ms[k].2.2) (by omega) (by omega), w64_succ (by omega)]
          exact ih (k + 1) m _ (by omega) (by omega) (by omega) (by omega) (by omega)
  intro c h0 h1
  have := key _ 0 FU c rfl (by omega) (FU_gt (by omega)) h0 h1
  simpa using this
theorem spec_SpotAfter (s : SheetT) (c : Int) (h : s.2.2.length < 1073741824) (hc : c ≤ 9223372036854775807) : F_spec_SpotAfter s c = some (spotAns s c) := by
  unfold F_spec_SpotAfter jK1 spotAns
  dsimp only
  rw [spec_shGood s (by omega), Option.bind_some]
  cases hs : okSheet s with
  | false => simp
  | true =>
    by_cases h0 : c < 0
    · have : ¬ 0 ≤ c := by omega
      simp [h0, this]
    · have h0' : 0 ≤ c := by omega
      by_cases hz : c = 0
      · subst hz; simp
      · have hz' : (c == 0) = false := by simpa using hz
        have hok := hs
        unfold okSheet at hok
        simp only [Bool.and_eq_true] at hok
        have hf := rowMoves_fine hok.1.1.2 hok.1.2
        simp only [h0, h0', hz, hz', Bool.not_true, Bool.false_eq_true, if_false, decide_false, decide_true, Bool.and_self, if_true]
        rw [spec_shRows s h, Option.bind_some]
        exact after_loop (F_spec_SpotAfter_L1 (rowMoves s.2.1 s.2.2)) _ hf (by rw [rowMoves_len]; omega) F_spec_mvRound (fun _ => some ((0, 0), false)) (fun u hu k hk hk2 => spec_mvRound u k (hf u hu).1 (hf u hu).2 ⟨hk, hk2⟩) (fun _ _ => rfl) (fun m c y => by rw [F_spec_SpotAfter_L1]) c (by omega) hc
theorem impl_SpotAfter (s : SheetT) (c : Int) (h : s.2.2.length < 1073741824) (hc : c ≤ 9223372036854775807) : F_impl_SpotAfter s c = some (spotAns s c) := by
  unfold F_impl_SpotAfter jK1 spotAns
  dsimp only
  rw [impl_IsSheet s (by omega), Option.bind_some]
  cases hs : okSheet s with
  | false => simp
  | true =>
    by_cases h0 : c < 0
    · have : ¬ 0 ≤ c := by omega
      simp [h0, this]
    · have h0' : 0 ≤ c := by omega
      have hok := hs
      unfold okSheet at hok
      simp only [Bool.and_eq_true] at hok
      have hf := rowMoves_fine hok.1.1.2 hok.1.2
      simp only [h0, h0', Bool.not_true, Bool.false_eq_true, if_false, decide_false, decide_true, Bool.and_self, if_true]
      rw [impl_sheetMoves s h, Option.bind_some]
      by_cases hz : c = 0
      · subst hz
        obtain ⟨m, hm⟩ : ∃ m, FU = m + 1 := ⟨4611686018427387903, rfl⟩
        rw [if_pos rfl, hm, F_impl_SpotAfter_L1]
        cases hrs : s.2.2 with
        | nil => simp [rowMoves]
        | cons r rs =>
          have hu : (rowMoves s.2.1 (r :: rs))[0]? = some (s.2.1, r.2, r.1) := rfl
          have hfu := hf (s.2.1, r.2, r.1) (by rw [hrs]; exact List.mem_of_getElem? hu)
          have hr1 : 1 ≤ r.1 := hfu.2.1
          have hr0 : 0 ≤ r.1 := by omega
          rw [if_pos (by simp [rowMoves]), idx_zero, hu, Option.bind_some, if_pos (by simpa using hr0), impl_roundedAt _ _ hfu.1 hfu.2 ⟨by omega, hr0⟩, round_zero _ hfu.1 hfu.2]
          rfl
      · rw [if_neg hz]
        exact after_loop (F_impl_SpotAfter_L1 (rowMoves s.2.1 s.2.2) s) _ hf (by rw [rowMoves_len]; omega) F_impl_roundedAt (fun c => if (decide (0 < c)) = true then some ((0, 0), false) else some (s.2.1, true)) (fun u hu k hk hk2 => impl_roundedAt u k (hf u hu).1 (hf u hu).2 ⟨hk, hk2⟩) (fun c h => by simp [h]) (fun m c y => by rw [F_impl_SpotAfter_L1]) c (by omega) hc
end Go.Proofs.Ythlfhcefeaehmaa
