/-
  CORE, 7: owned slices whose elements own memory. Over any program.
-/
import Derived.Test.YtejhnpimhjmpdaaGreatDoorCore6
set_option linter.unusedSimpArgs false
set_option linter.unusedVariables false
namespace Go.Proofs.YtejhnpimhjmpdaaGreatDoor
open Go Go.RowKit
variable {P : Program} {α β : Type}
/-- The cells of an owned datum. -/
def R.cel (e : Ty P α) (F : List Nat) (cs : List Value) (x : α) : Res := ⟨F, fun w => e.own F w cs x⟩
section
variable {base : Nat} {w w' : World} {M L : List Res} {r r1 r2 r' : Res}
theorem Sep.head (h : Sep base w (r :: M)) (hf : r'.fp = r.fp) (hk : ∀ w, r.ok w → r'.ok w) : Sep base w (r' :: M) := by
  obtain ⟨h1, h2⟩ := h
  cases h2 with
  | cons hd ht =>
    refine ⟨fun s hs => ?_, .cons (fun s hs b hb => hd s hs b (by rw [← hf]; exact hb)) ht⟩
    cases hs with
    | head =>
      have hg := h1 r (by simp)
      exact ⟨by rw [hf]; exact hg.1, fun b hb => hg.2.1 b (by rw [← hf]; exact hb), fun w' hw => hk _ (hg.2.2 w' fun b hb => hw b (by rw [hf]; exact hb))⟩
    | tail _ hs => exact h1 s (.tail _ hs)
theorem Sep.merge (h : Sep base w (r1 :: r2 :: M)) (hf : r.fp = r1.fp ++ r2.fp) (hk : ∀ w, r1.ok w → r2.ok w → r.ok w) : Sep base w (r :: M) := by
  obtain ⟨h1, h2⟩ := h
  have g1 := h1 r1 (by simp)
  have g2 := h1 r2 (by simp)
  cases h2 with
  | cons hd ht =>
    cases ht with
    | cons hd2 ht =>
      refine ⟨fun s hs => ?_, .cons (fun s hs b hb => ?_) ht⟩
      · cases hs with
        | head =>
          refine ⟨?_, fun b hb => ?_, fun w' hw => hk _ (g1.2.2 w' fun b hb => hw b (by rw [hf]; exact List.mem_append_left _ hb)) (g2.2.2 w' fun b hb => hw b (by rw [hf]; exact List.mem_append_right _ hb))⟩
          · rw [hf, List.nodup_append]
            exact ⟨g1.1, g2.1, fun a ha b hb e => hd r2 (by simp) a ha (by rw [e]; exact hb)⟩
          · rw [hf] at hb
            rcases List.mem_append.1 hb with hb | hb
            · exact g1.2.1 b hb
            · exact g2.2.1 b hb
        | tail _ hs => exact h1 s (.tail _ (.tail _ hs))
      · rw [hf] at hb
        rcases List.mem_append.1 hb with hb | hb
        · exact hd s (by simp [hs]) b hb
        · exact hd2 s hs b hb
theorem Sep.cel1 {e' : Ty P β} {e : Ty P (List β)} {F : List Nat} {v : Value} {x : List β} (he : ∀ F w v x, ownS e' F w v x → e.own F w [v] x) (h : Sep base w (R.own e' F v x :: M)) : Sep base w (R.cel e F [v] x :: M) :=
  h.head rfl fun w hw => he _ _ _ _ hw
end
theorem flatten_set_nodup : ∀ {Fs : List (List Nat)} {k : Nat} {F2 : List Nat}, Fs.flatten.Nodup → F2.Nodup → (∀ b ∈ F2, b ∉ Fs.flatten) → (Fs.set k F2).flatten.Nodup
  | [], _, _, _, _, _ => by simp
  | F :: Fs, 0, F2, h, h2, hd => by
    rw [List.set_cons_zero, List.flatten_cons, List.nodup_append]
    rw [List.flatten_cons, List.nodup_append] at h
    exact ⟨h2, h.2.1, fun a ha b hb e => hd a ha (by rw [List.flatten_cons]; exact List.mem_append_right _ (by rw [e]; exact hb))⟩
  | F :: Fs, k + 1, F2, h, h2, hd => by
    rw [List.set_cons_succ, List.flatten_cons, List.nodup_append]
    rw [List.flatten_cons, List.nodup_append] at h
    refine ⟨h.1, flatten_set_nodup h.2.1 h2 (fun b hb hb' => hd b hb (by rw [List.flatten_cons]; exact List.mem_append_right _ hb')), fun a ha b hb e => ?_⟩
    subst e
    obtain ⟨G, hG, hb2⟩ := List.mem_flatten.1 hb
    rcases List.mem_or_eq_of_mem_set hG with hG | hG
    · exact h.2.2 a ha a (List.mem_flatten.2 ⟨G, hG, hb2⟩) rfl
    · rw [hG] at hb2
      exact hd a hb2 (by rw [List.flatten_cons]; exact List.mem_append_left _ ha)
theorem mem_flatten_set {Fs : List (List Nat)} {k b : Nat} {F2 : List Nat} (h : b ∈ (Fs.set k F2).flatten) : b ∈ Fs.flatten ∨ b ∈ F2 := by
  obtain ⟨G, hG, hb⟩ := List.mem_flatten.1 h
  rcases List.mem_or_eq_of_mem_set hG with hG | rfl
  · exact .inl (List.mem_flatten.2 ⟨G, hG, hb⟩)
  · exact .inr hb
section
variable {n : Nat} {σ : Env} {w w0 : World} {Q : Exit → Act → World → Prop} {L M : List Res}
variable {ds : List (Option Tmp)} {d : Nat} {T U : TypeId} {pos : String} {af : Array Edge} {rest : List Oper} {x y z : Operand} {sz : Nat} {agg : Bool} {zv : Value}
end
end Go.Proofs.YtejhnpimhjmpdaaGreatDoor
