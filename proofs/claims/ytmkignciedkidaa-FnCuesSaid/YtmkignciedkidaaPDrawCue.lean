/-
  DRAWN MUSIC AND CUES, PLAIN: they are there and short.
-/
import Derived.Test.YtmkignciedkidaaPDraw
import Derived.Test.YtmkignciedkidaaPCue
set_option linter.unusedSimpArgs false
set_option linter.unusedVariables false
namespace Go.Proofs.Ytmkignciedkidaa
open Go
theorem app_tot {α β : Type} {l m : List α} {f : List α → Option β} {Q : β → Prop} (h : l.length + m.length ≤ 1073741824) (hf : Tot (f (l ++ m)) Q) : Tot (Option.bind (app l m) f) Q := Tot.bindE (app_ok' h) hf
theorem music_ok (x : Cur) {m : Int} (h : Cu x.1 m x.2.1) (hm : 1000 ≤ m) : Tot (F_spec_l1Cur__music__mut__box x) (Pk x.1 (m - 1000) fun l => 1 ≤ l.length ∧ l.length ≤ 40) := by
  unfold F_spec_l1Cur__music__mut__box
  refine Tot.bind (pick_ok x _ h (by omega)) fun u hu => ?_
  have hr := hu.1
  have rest : ∀ (a s n : Int), Cu x.1 (m - 4) a → 1 ≤ n → n ≤ 40 → Tot (Option.bind (F_spec_l1Cur__pick__mut__box (x.1, a, s) 181) fun u20 =>
      Option.bind (F_spec_l1Cur__among__mut__box (x.1, u20.2.2.1, u20.2.2.2) [60, 96, 120, 140, (w64 (40 + u20.1))]) fun u32 => F_spec_l1Cur__music__mut__box_L1 n x FU (u32.2.2.1) (u32.2.2.2) ([]) (u32.1)) (Pk x.1 (m - 1000) fun l => 1 ≤ l.length ∧ l.length ≤ 40) := by
    intro a s n ha hn1 hn2
    refine Tot.bind (pick_ok (x.1, a, s) _ ha (by omega)) fun u20 h20 => ?_
    refine Tot.bind (amongT (x.1, u20.2.2.1, u20.2.2.2) _ h20.2.2 (by omega) (by simp)) fun u32 h32 => ?_
    have h32' : Cu x.1 (m - 8) u32.2.2.1 := h32.2.2.mono (by omega) (by show m - 8 ≤ m - 4 - 2 - 2; omega)
    refine Tot.loop (fun k (s : Int × Int × List (Int × Int) × Int) => F_spec_l1Cur__music__mut__box_L1 n x k s.1 s.2.1 s.2.2.1 s.2.2.2) (fun s => 41 - s.2.2.1.length) (fun s => s.2.2.1.length ≤ n ∧ Cu x.1 (m - 8 - 10 * s.2.2.1.length) s.1)
      (Pk x.1 (m - 1000) fun l => 1 ≤ l.length ∧ l.length ≤ 40) (fun k s hs ih => ?_) FU (u32.2.2.1, u32.2.2.2, [], u32.1) ⟨by simp; omega, by simpa using h32'⟩ (by show _ < (4611686018427387904 : Nat); simp)
    obtain ⟨a, sd, l, t⟩ := s
    obtain ⟨hl, hc⟩ := hs
    dsimp only at hl hc ih ⊢
    rw [F_spec_l1Cur__music__mut__box_L1]
    refine Tot.ite (fun hlt => ?_) fun hge => Tot.some ⟨by simp at hge; show 1 ≤ l.length ∧ l.length ≤ 40; omega, rfl, hc.mono (by omega) (by omega)⟩
    have hlt' : (l.length : Int) < n := by simpa using hlt
    have join : ∀ (a s t : Int), Cu x.1 (m - 8 - 10 * l.length - 6) a → Tot (Option.bind (F_spec_l1Cur__among__mut__box (x.1, a, s) [4, 4, 3, 6, 1, 12]) fun u70 => Option.bind (app l [(u70.1, t)]) fun u82 => F_spec_l1Cur__music__mut__box_L1 n x k (u70.2.2.1) (u70.2.2.2) (u82) t) (Pk x.1 (m - 1000) fun l => 1 ≤ l.length ∧ l.length ≤ 40) := by
      intro a s t ha
      refine Tot.bind (amongT (x.1, a, s) _ ha (by omega) (by simp)) fun u70 h70 => app_tot (by simp; omega) ?_
      exact ih (u70.2.2.1, u70.2.2.2, _, t) ⟨by simp; omega, h70.2.2.mono (by simp; omega) (by simp; omega)⟩ (by simp; omega)
    unfold jK3
    dsimp only
    refine Tot.bind (one_ok (x.1, a, sd) _ hc (by omega)) fun u90 h90 => ?_
    refine Tot.ite (fun _ => ?_) fun _ => join _ _ _ (h90.2.2.mono (by omega) (by show _ ≤ m - 8 - 10 * (l.length : Int) - 2; omega))
    refine Tot.bind (pick_ok (x.1, u90.2.2.1, u90.2.2.2) _ h90.2.2 (by omega)) fun u97 h97 => ?_
    refine Tot.bind (amongT (x.1, u97.2.2.1, u97.2.2.2) _ h97.2.2 (by omega) (by simp)) fun u109 h109 => join _ _ _ (h109.2.2.mono (by omega) (by show _ ≤ m - 8 - 10 * (l.length : Int) - 2 - 2 - 2; omega))
  unfold jK3
  dsimp only
  refine Tot.bind (one_ok (x.1, u.2.2.1, u.2.2.2) _ hu.2.2 (by omega)) fun u117 h117 => ?_
  have c117 : Cu x.1 (m - 4) u117.2.2.1 := h117.2.2.mono (by omega) (by show m - 4 ≤ m - 2 - 2; omega)
  refine Tot.ite (fun _ => rest _ _ _ c117 (by omega) (by omega)) fun _ => rest _ _ _ c117 ?_ ?_
  · rw [w64_eq (by omega) (by omega)]; omega
  · rw [w64_eq (by omega) (by omega)]; omega
theorem seti_len {α : Type} (l : List α) (i : Int) (x : α) : (seti l i x).length = l.length := by unfold seti; simp
theorem anyMusic_ok (x : Cur) {m : Int} (h : Cu x.1 m x.2.1) (hm : 2000 ≤ m) : Tot (F_spec_l1Cur__anyMusic__mut__box x) (Pk x.1 (m - 2000) fun l => l.length ≤ 41) := by
  unfold F_spec_l1Cur__anyMusic__mut__box
  refine Tot.bind (music_ok x h (by omega)) fun u3 h3 => ?_
  refine Tot.bind (pick_ok (x.1, u3.2.2.1, u3.2.2.2) _ h3.2.2 (by omega)) fun u12 h12 => ?_
  have hlen := h3.1
  obtain ⟨v, hv, _, _⟩ := idx_pick u3.1 (fun e => by rw [e] at hlen; simp at hlen) h12.1
  refine Tot.bindE hv ?_
  have done : ∀ (a s : Int) (l : List (Int × Int)), Cu x.1 (m - 2000) a → l.length ≤ 41 → Tot (some (l, (x.1, a, s))) (Pk x.1 (m - 2000) fun l => l.length ≤ 41) := fun a s l ha hl => Tot.some ⟨hl, rfl, ha⟩
  unfold jK3
  dsimp only
  refine Tot.bind (pick_ok (x.1, u12.2.2.1, u12.2.2.2) _ h12.2.2 (by show 2 ≤ m - 1000 - 2; omega)) fun u35 h35 => ?_
  have c35 : Cu x.1 (m - 1010) u35.2.2.1 := h35.2.2.mono (by omega) (by show _ ≤ m - 1000 - 2 - 2; omega)
  refine Tot.ite (fun _ => ?_) fun _ => Tot.ite (fun _ => ?_) fun _ => Tot.ite (fun _ => ?_) fun _ => Tot.ite (fun _ => ?_) fun _ => ?_
  · refine Tot.bind (amongT (x.1, u35.2.2.1, u35.2.2.2) _ c35 (by omega) (by simp)) fun u hu => done _ _ _ (hu.2.2.mono (by omega) (by show _ ≤ m - 1010 - 2; omega)) (by rw [seti_len]; omega)
  · refine Tot.bind (amongT (x.1, u35.2.2.1, u35.2.2.2) _ c35 (by omega) (by simp)) fun u hu => done _ _ _ (hu.2.2.mono (by omega) (by show _ ≤ m - 1010 - 2; omega)) (by rw [seti_len]; omega)
  · refine Tot.bind (pick_ok (x.1, u35.2.2.1, u35.2.2.2) _ c35 (by omega)) fun u80 h80 => ?_
    have h80' := h80.1
    refine Tot.loop (fun k (s : List (Int × Int)) => F_spec_l1Cur__anyMusic__mut__box_L1 u80 _ k s) (fun s => 42 - s.length) (fun s => s.length ≤ 41) _ (fun k s hs ih => ?_) FU u3.1 (by omega) (by show 42 - u3.1.length < 4611686018427387904; omega)
    rw [F_spec_l1Cur__anyMusic__mut__box_L1, w64_eq (by omega) (by omega)]
    refine Tot.ite (fun hlt => ?_) fun _ => done _ _ _ (h80.2.2.mono (by omega) (by show _ ≤ m - 1010 - 2; omega)) hs
    have hlt' : (s.length : Int) < 40 + u80.1 := by simpa using hlt
    exact app_tot (by simp; omega) (ih (s ++ [(4, 120)]) (by rw [List.length_append]; simp; omega) (by simp; omega))
  · exact done _ _ _ (c35.mono (by omega) (by omega)) (by simp)
  · exact done _ _ _ (c35.mono (by omega) (by omega)) (by omega)
theorem of_ok (x : Cur) (l : List (List UInt8)) (P : List UInt8 → Prop) {m : Int} (h : Cu x.1 m x.2.1) (hm : 2 ≤ m) (hl : l ≠ []) (hp : ∀ v ∈ l, P v) : Tot (F_spec_l1Cur__of__mut__box x l) (Pk x.1 (m - 2) P) := by
  unfold F_spec_l1Cur__of__mut__box
  refine Tot.bind (pick_ok x _ h hm) fun u hu => ?_
  obtain ⟨v, hv, hmem, _⟩ := idx_pick l hl hu.1
  exact Tot.bindE hv (Tot.some ⟨hp v hmem, rfl, hu.2.2⟩)
/-- What drawn cues are. -/
def shortCues (l : List CueT) : Prop := l.length ≤ 31 ∧ ∀ c ∈ l, c.2.length ≤ 9
theorem shortCues.app {l : List CueT} {c : CueT} (h : shortCues l) (hl : l.length ≤ 30) (hc : c.2.length ≤ 9) : shortCues (l ++ [c]) :=
  ⟨by simp; omega, fun d hd => by rcases List.mem_append.1 hd with hd | hd; exact h.2 d hd; rw [List.mem_singleton.1 hd]; exact hc⟩
theorem shortCues.seti {l : List CueT} {c : CueT} (h : shortCues l) (i : Int) (hc : c.2.length ≤ 9) : shortCues (seti l i c) :=
  ⟨by rw [seti_len]; exact h.1, fun d hd => by
    unfold Go.Proofs.Ytmkignciedkidaa.seti at hd
    rcases List.mem_or_eq_of_mem_set hd with hd | rfl
    · exact h.2 d hd
    · exact hc⟩
def PkC (c : List Int) (n : Int) (v : MusicT × List CueT × Cur) : Prop := v.1.length ≤ 41 ∧ shortCues v.2.1 ∧ v.2.2.1 = c ∧ Cu c n v.2.2.2.1
abbrev drawNames : List (List UInt8) := [[115, 116, 97, 114, 116], [116, 117, 114, 110], [104, 97, 108, 116], [100, 114, 117, 109, 115], [98, 114, 97, 115, 115], [102, 108, 97, 103, 115], [101, 110, 100], [97], [97, 98, 99, 100, 101, 102, 103, 104]]
theorem drawNames_len : ∀ v ∈ drawNames, v.length ≤ 9 := by decide
theorem cues_ok (x : Cur) {m : Int} (h : Cu x.1 m x.2.1) (hm : 4000 ≤ m) : Tot (F_spec_l1Cur__cues__mut__box x) (PkC x.1 (m - 4000)) := by
  unfold F_spec_l1Cur__cues__mut__box
  refine Tot.bind (anyMusic_ok x h (by omega)) fun u3 h3 => ?_
  have hl3 := h3.1
  refine Tot.bindE (spec_muGood u3.1 (by omega)) ?_
  refine Tot.ite (fun _ => Tot.some ⟨h3.1, ⟨by simp, by simp⟩, rfl, h3.2.2.mono (by omega) (by omega)⟩) fun _ => ?_
  refine Tot.bindE (spec_muCounts u3.1 (by omega)) ?_
  refine Tot.bind (pick_ok (x.1, u3.2.2.1, u3.2.2.2) _ h3.2.2 (by omega)) fun u44 h44 => ?_
  have c44 : Cu x.1 (m - 2002) u44.2.2.1 := h44.2.2.mono (by omega) (by show _ ≤ m - 2000 - 2; omega)
  refine Tot.loop (fun k (s : Int × Int × List CueT × Int) => F_spec_l1Cur__cues__mut__box_L1 x (totC u3.1) u3 k s.1 s.2.1 s.2.2.1 s.2.2.2) (fun s => 10 - s.2.2.1.length) (fun s => s.2.2.1.length ≤ 9 ∧ shortCues s.2.2.1 ∧ Cu x.1 (m - 2002 - 10 * s.2.2.1.length) s.1)
    (PkC x.1 (m - 4000)) (fun k s hs ih => ?_) FU (u44.2.2.1, u44.2.2.2, [], u44.1) ⟨by simp, ⟨by simp, by simp⟩, by simpa using c44⟩ (by show _ < (4611686018427387904 : Nat); simp)
  obtain ⟨a, sd, l, t⟩ := s
  obtain ⟨hl, hsh, hc⟩ := hs
  dsimp only at hl hsh hc ih ⊢
  rw [F_spec_l1Cur__cues__mut__box_L1]
  have fin : ∀ (a s : Int) (l : List CueT) (mu : MusicT), mu.length ≤ 41 → shortCues l → Cu x.1 (m - 4000) a → Tot (some (mu, l, (x.1, a, s))) (PkC x.1 (m - 4000)) := fun a s l mu h1 h2 h3 => Tot.some ⟨h1, h2, rfl, h3⟩
  have tail : ∀ (a s : Int) (mu : MusicT) (l : List CueT), mu.length ≤ 41 → shortCues l → Cu x.1 (m - 3000) a →
      Tot (if (decide (0 < (List.length l : Int))) = true then Option.bind (F_spec_l1Cur__pick__mut__box (x.1, a, s) (List.length l : Int)) fun u125 =>
        Option.bind (idx l u125.1) fun u131 => Option.bind (F_spec_l1Cur__pick__mut__box (x.1, u125.2.2.1, u125.2.2.2) 24) fun u136 =>
        (if (u136.1 == 0) = true then Option.bind (F_spec_muCounts mu) fun u144 => Option.bind (F_spec_muCounts mu) fun u150 =>
        Option.bind (F_spec_l1Cur__among__mut__box (x.1, u136.2.2.1, u136.2.2.2) [(-1), (w64 (u144 - 1)), u150]) fun u162 =>
        some (mu, (seti l u125.1 (u162.1, u131.2)), (x.1, u162.2.2.1, u162.2.2.2)) else (if (u136.1 == 1) = true then Option.bind (F_spec_l1Cur__of__mut__box (x.1, u136.2.2.1, u136.2.2.2) [[], [65], [97, 98, 99, 100, 101, 102, 103, 104, 105], [97, 32, 98], [115, 116, 97, 114, 116]]) fun u180 =>
        some (mu, (seti l u125.1 (u131.1, u180.1)), (x.1, u180.2.2.1, u180.2.2.2)) else some (mu, l, (x.1, u136.2.2.1, u136.2.2.2)))) else some (mu, l, (x.1, a, s))) (PkC x.1 (m - 4000)) := by
    intro a s mu l hmu hl ha
    refine Tot.ite (fun hpos => ?_) fun _ => fin _ _ _ _ hmu hl (ha.mono (by omega) (by omega))
    refine Tot.bind (pick_ok (x.1, a, s) _ ha (by omega)) fun u125 h125 => ?_
    obtain ⟨v, hv, hmem, _⟩ := idx_pick l (fun e => by rw [e] at hpos; simp at hpos) h125.1
    refine Tot.bindE hv ?_
    refine Tot.bind (pick_ok (x.1, u125.2.2.1, u125.2.2.2) _ h125.2.2 (by omega)) fun u136 h136 => ?_
    have c136 : Cu x.1 (m - 3010) u136.2.2.1 := h136.2.2.mono (by omega) (by show _ ≤ m - 3000 - 2 - 2; omega)
    refine Tot.ite (fun _ => ?_) fun _ => Tot.ite (fun _ => ?_) fun _ => fin _ _ _ _ hmu hl (c136.mono (by omega) (by omega))
    · refine Tot.bindE (spec_muCounts mu (by omega)) (Tot.bindE (spec_muCounts mu (by omega)) ?_)
      exact Tot.bind (amongT (x.1, u136.2.2.1, u136.2.2.2) _ c136 (by omega) (by simp)) fun u hu => fin _ _ _ _ hmu (hl.seti _ (hl.2 v hmem)) (hu.2.2.mono (by omega) (by show _ ≤ m - 3010 - 2; omega))
    · exact Tot.bind (of_ok (x.1, u136.2.2.1, u136.2.2.2) _ (fun s => s.length ≤ 9) c136 (by omega) (by simp) (by decide)) fun u hu => fin _ _ _ _ hmu (hl.seti _ hu.1) (hu.2.2.mono (by omega) (by show _ ≤ m - 3010 - 2; omega))
  have stop : Tot (jK4 (fun (y100 : Int) (y101 : Int) (l102 : (List (Int × Int))) (l105 : (List (Int × (List UInt8)))) => jK3 (fun (y114 : Int) (y115 : Int) (l116 : (List (Int × (List UInt8)))) => some (l102, l116, (x.1, y114, y115))) (fun k119 => (if (decide (0 < (List.length l105 : Int))) = true then Option.bind (F_spec_l1Cur__pick__mut__box (x.1, y100, y101) (List.length l105 : Int)) fun u125 =>
        Option.bind (idx l105 u125.1) fun u131 => Option.bind (F_spec_l1Cur__pick__mut__box (x.1, u125.2.2.1, u125.2.2.2) 24) fun u136 =>
        (if (u136.1 == 0) = true then Option.bind (F_spec_muCounts l102) fun u144 => Option.bind (F_spec_muCounts l102) fun u150 =>
        Option.bind (F_spec_l1Cur__among__mut__box (x.1, u136.2.2.1, u136.2.2.2) [(-1), (w64 (u144 - 1)), u150]) fun u162 =>
        k119 (u162.2.2.1) (u162.2.2.2) ((seti l105 u125.1 (u162.1, u131.2))) else (if (u136.1 == 1) = true then Option.bind (F_spec_l1Cur__of__mut__box (x.1, u136.2.2.1, u136.2.2.2) [[], [65], [97, 98, 99, 100, 101, 102, 103, 104, 105], [97, 32, 98], [115, 116, 97, 114, 116]]) fun u180 =>
        k119 (u180.2.2.1) (u180.2.2.2) ((seti l105 u125.1 (u131.1, u180.1))) else k119 (u136.2.2.1) (u136.2.2.2) (l105))) else k119 (y100) (y101) (l105)))) (fun k108 => Option.bind (F_spec_l1Cur__one__mut__box (x.1, a, sd) 24) fun u191 =>
        (if u191.1 = true then F_spec_l1Cur__cues__mut__box_L2 x u191 k108 FU ([]) else k108 (u191.2.2.1) (u191.2.2.2) (u3.1) (l)))) (PkC x.1 (m - 4000)) := by
    unfold jK4 jK3
    dsimp only
    refine Tot.bind (one_ok (x.1, a, sd) _ hc (by omega)) fun u191 h191 => ?_
    have c191 : Cu x.1 (m - 2110) u191.2.2.1 := h191.2.2.mono (by omega) (by show _ ≤ m - 2002 - 10 * (l.length : Int) - 2; omega)
    refine Tot.ite (fun _ => ?_) fun _ => tail _ _ _ _ hl3 hsh (c191.mono (by omega) (by omega))
    refine Tot.loop (fun k (s : MusicT) => F_spec_l1Cur__cues__mut__box_L2 x u191 _ k s) (fun s => 11 - s.length) (fun s => s.length ≤ 10) _ (fun k s hs ih => ?_) FU [] (by simp) (by show _ < (4611686018427387904 : Nat); simp)
    rw [F_spec_l1Cur__cues__mut__box_L2]
    refine Tot.ite (fun hlt => app_tot (by simp; omega) (ih _ (by simp at hlt ⊢; omega) (by simp at hlt ⊢; omega))) fun _ => ?_
    refine Tot.bind (pick_ok (x.1, u191.2.2.1, u191.2.2.2) _ c191 (by omega)) fun u228 h228 => ?_
    have h228' := h228.1
    refine Tot.loop (fun k (l : List CueT) => F_spec_l1Cur__cues__mut__box_L3 u228 _ s k l) (fun l => 32 - l.length) (fun l => shortCues l) _ (fun k l hl ih => ?_) FU [] ⟨by simp, by simp⟩ (by show _ < (4611686018427387904 : Nat); simp)
    rw [F_spec_l1Cur__cues__mut__box_L3, w64_eq (x := 30 + u228.1) (by omega) (by omega)]
    have hll := hl.1
    refine Tot.ite (fun hlt => app_tot (by simp; omega) (ih _ (hl.app (by simp at hlt; omega) (by simp [bytesOf])) (by simp at hlt ⊢; omega))) fun _ => tail _ _ _ _ (by omega) hl (h228.2.2.mono (by omega) (by show _ ≤ m - 2110 - 2; omega))
  unfold jK1
  dsimp only
  refine Tot.bindE (spec_muCounts u3.1 (by omega)) ?_
  refine Tot.ite (fun _ => ?_) fun _ => ?_
  · refine Tot.ite (fun hlt => ?_) fun _ => stop
    have hlt9' : (l.length : Int) < 9 := by simpa using hlt
    have hlt9 : l.length < 9 := by omega
    refine Tot.bindE (v := drawNames[l.length]) (by rw [idx_lt (by simpa using hlt9)]) ?_
    refine app_tot (by simp; omega) ?_
    refine Tot.bind (pick_ok (x.1, a, sd) _ hc (by omega)) fun u90 h90 => ?_
    exact ih (u90.2.2.1, u90.2.2.2, _, _) ⟨by simp; omega, hsh.app (by omega) (drawNames_len _ (List.getElem_mem _)), h90.2.2.mono (by simp; omega) (by simp; omega)⟩ (by simp; omega)
  · rw [if_neg (by simp)]
    exact stop
theorem showTime_ok (x : Cur) {m : Int} (h : Cu x.1 m x.2.1) (hm : 20 ≤ m) : Tot (F_spec_l1Cur__showTime__mut__box x) (Pk x.1 (m - 20) fun _ => True) := by
  unfold F_spec_l1Cur__showTime__mut__box
  refine Tot.bind (pick_ok x _ h (by omega)) fun u3 h3 => ?_
  refine Tot.bind (pick_ok (x.1, u3.2.2.1, u3.2.2.2) _ h3.2.2 (by omega)) fun u9 h9 => ?_
  refine Tot.bind (amongT (x.1, u9.2.2.1, u9.2.2.2) _ h9.2.2 (by show 2 ≤ m - 2 - 2; omega) (by simp)) fun u21 h21 => ?_
  refine Tot.bind (amongT (x.1, u21.2.2.1, u21.2.2.2) _ h21.2.2 (by show 2 ≤ m - 2 - 2 - 2; omega) (by simp)) fun u33 h33 => ?_
  exact Tot.some ⟨trivial, rfl, h33.2.2.mono (by omega) (by show _ ≤ m - 2 - 2 - 2 - 2; omega)⟩
theorem countOf_ok (x : Cur) (l : MusicT) (hl : l.length < 4611686018427387904) {m : Int} (h : Cu x.1 m x.2.1) (hm : 20 ≤ m) : Tot (F_spec_l1Cur__countOf__mut__box x l) (Pk x.1 (m - 20) fun _ => True) := by
  unfold F_spec_l1Cur__countOf__mut__box jK1
  dsimp only
  have fin : ∀ y : Int, Tot (Option.bind (F_spec_l1Cur__pick__mut__box x y) fun u11 => Option.bind (F_spec_l1Cur__pick__mut__box (x.1, u11.2.2.1, u11.2.2.2) y) fun u17 =>
      Option.bind (F_spec_l1Cur__among__mut__box (x.1, u17.2.2.1, u17.2.2.2) [(-1), (w64 (y + 1))]) fun u29 => Option.bind (F_spec_l1Cur__among__mut__box (x.1, u29.2.2.1, u29.2.2.2) [0, u11.1, u17.1, (w64 (y - 1)), y, u29.1]) fun u41 =>
      some (u41.1, (x.1, u41.2.2.1, u41.2.2.2))) (Pk x.1 (m - 20) fun _ => True) := by
    intro y
    refine Tot.bind (pick_ok x _ h (by omega)) fun u3 h3 => ?_
    refine Tot.bind (pick_ok (x.1, u3.2.2.1, u3.2.2.2) _ h3.2.2 (by omega)) fun u9 h9 => ?_
    refine Tot.bind (amongT (x.1, u9.2.2.1, u9.2.2.2) _ h9.2.2 (by show 2 ≤ m - 2 - 2; omega) (by simp)) fun u21 h21 => ?_
    refine Tot.bind (amongT (x.1, u21.2.2.1, u21.2.2.2) _ h21.2.2 (by show 2 ≤ m - 2 - 2 - 2; omega) (by simp)) fun u33 h33 => ?_
    exact Tot.some ⟨trivial, rfl, h33.2.2.mono (by omega) (by show _ ≤ m - 2 - 2 - 2 - 2; omega)⟩
  refine Tot.bindE (spec_muGood l hl) (Tot.ite (fun _ => ?_) fun _ => fin _)
  exact Tot.bindE (spec_muCounts l hl) (fin _)
/-! what the laws draw -/
theorem Cu.start {c : List Int} (h : allG inU8 c) : Cu c 100000000 0 := ⟨fun b hb => h.2 b hb, by omega, by omega, by omega⟩
def drawnCues (x : MusicT) (l : List CueT) : Prop := x.length ≤ 41 ∧ shortCues l
theorem drawnCues.lens {x : MusicT} {l : List CueT} (h : drawnCues x l) : CueLens x l := ⟨by have := h.1; omega, by have := h.2.1; omega, fun c hc => by have := h.2.2 c hc; omega⟩
section
variable (c : List Int) (h : Cu c 100000000 0)
include h
theorem draw_AreCues : Tot (F_spec_DrawAreCues c) fun v => drawnCues v.1 v.2 := by
  unfold F_spec_DrawAreCues
  refine Tot.bind (cues_ok (c, 0, 0) h (by omega)) fun u hu => Tot.some ⟨hu.1, hu.2.1⟩
theorem draw_LongestGap : Tot (F_spec_DrawLongestGap c) fun v => drawnCues v.1 v.2 := by
  unfold F_spec_DrawLongestGap
  refine Tot.bind (draw_AreCues c h) fun u hu => Tot.some hu
theorem draw_NextCue : Tot (F_spec_DrawNextCue c) fun v => drawnCues v.1 v.2.1 := by
  unfold F_spec_DrawNextCue
  refine Tot.bind (cues_ok (c, 0, 0) h (by omega)) fun u hu => ?_
  have := hu.1
  refine Tot.bind (countOf_ok (c, u.2.2.2.1, u.2.2.2.2) u.1 (by omega) hu.2.2.2 (by omega)) fun v hv => Tot.some ⟨hu.1, hu.2.1⟩
theorem draw_LastCueAt : Tot (F_spec_DrawLastCueAt c) fun v => drawnCues v.1 v.2.1 := by
  unfold F_spec_DrawLastCueAt
  refine Tot.bind (cues_ok (c, 0, 0) h (by omega)) fun u9 h9 => ?_
  have hd : drawnCues u9.1 u9.2.1 := ⟨h9.1, h9.2.1⟩
  have c9 : Cu c 90000000 u9.2.2.2.1 := h9.2.2.2.mono (by omega) (by show _ ≤ (100000000 : Int) - 4000; omega)
  unfold jK3
  dsimp only
  have off : ∀ a s : Int, Cu c 80000000 a → Tot (Option.bind (F_spec_l1Cur__showTime__mut__box (c, a, s)) fun u60 => some (u9.1, u9.2.1, u60.1)) fun v => drawnCues v.1 v.2.1 := fun a s ha =>
    Tot.bind (showTime_ok (c, a, s) ha (by omega)) fun v hv => Tot.some hd
  refine Tot.bindE (spec_tiGood _ _ hd.lens) ?_
  refine Tot.ite (fun hg => ?_) fun _ => ?_
  · refine Tot.ite (fun hpos => ?_) fun _ => ?_
    · refine Tot.bind (one_ok (c, u9.2.2.2.1, u9.2.2.2.2) _ c9 (by omega)) fun u74 h74 => ?_
      have c74 : Cu c 80000000 u74.2.2.1 := h74.2.2.mono (by omega) (by show _ ≤ (90000000 : Int) - 2; omega)
      refine Tot.ite (fun _ => ?_) fun _ => off _ _ c74
      refine Tot.bind (pick_ok (c, u74.2.2.1, u74.2.2.2) _ c74 (by omega)) fun u31 h31 => ?_
      obtain ⟨v, hv, _, _⟩ := idx_pick u9.2.1 (fun e => by rw [e] at hpos; simp at hpos) h31.1
      refine Tot.bindE hv (Tot.bindE (spec_muTime _ (both_music hg) _) ?_)
      refine Tot.bind (pick_ok (c, u31.2.2.1, u31.2.2.2) _ h31.2.2 (by show (2 : Int) ≤ 80000000 - 2; omega)) fun u47 h47 => ?_
      unfold F_spec_l1Most
      split <;> exact Tot.some hd
    · rw [if_neg (by simp)]
      exact off _ _ (c9.mono (by omega) (by omega))
  · rw [if_neg (by simp)]
    exact off _ _ (c9.mono (by omega) (by omega))
theorem draw_CuesBetween : Tot (F_spec_DrawCuesBetween c) fun v => drawnCues v.1 v.2.1 := by
  unfold F_spec_DrawCuesBetween
  refine Tot.bind (cues_ok (c, 0, 0) h (by omega)) fun u9 h9 => ?_
  refine Tot.bind (showTime_ok (c, u9.2.2.2.1, u9.2.2.2.2) h9.2.2.2 (by omega)) fun u20 h20 => ?_
  refine Tot.bind (showTime_ok (c, u20.2.2.1, u20.2.2.2) h20.2.2 (by omega)) fun u27 h27 => ?_
  refine Tot.bind (amongT (c, u27.2.2.1, u27.2.2.2) _ h27.2.2 (by show (2 : Int) ≤ 100000000 - 4000 - 20 - 20; omega) (by simp)) fun u39 h39 => Tot.some ⟨h9.1, h9.2.1⟩
theorem draw_ShiftCues : Tot (F_spec_DrawShiftCues c) fun v => drawnCues v.1 v.2.1 := by
  unfold F_spec_DrawShiftCues
  refine Tot.bind (cues_ok (c, 0, 0) h (by omega)) fun u9 h9 => ?_
  refine Tot.bind (amongT (c, u9.2.2.2.1, u9.2.2.2.2) _ h9.2.2.2 (by omega) (by simp)) fun u26 h26 => ?_
  refine Tot.bind (amongT (c, u26.2.2.1, u26.2.2.2) _ h26.2.2 (by show (2 : Int) ≤ 100000000 - 4000 - 2; omega) (by simp)) fun u38 h38 => Tot.some ⟨h9.1, h9.2.1⟩
end
end Go.Proofs.Ytmkignciedkidaa
