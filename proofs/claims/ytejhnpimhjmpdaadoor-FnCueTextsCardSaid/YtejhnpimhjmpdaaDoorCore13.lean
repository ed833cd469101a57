/-
  CORE, 13: further operations: strings and numbers in a draw, bits. Over any program.
-/
import Derived.Test.YtejhnpimhjmpdaaDoorCore12
set_option linter.unusedSimpArgs false
set_option linter.unusedVariables false
namespace Go.Proofs.YtejhnpimhjmpdaaDoor
open Go Go.RowKit
variable {P : Program} {n : Nat} {ds : List (Option Tmp)} {d : Nat} {T TB U V : TypeId} {pos : String} {af : Array Edge} {rest : List Oper} {x y z : Operand} {σ : Env} {w w0 wS : World} {Q : Exit → Act → World → Prop} {L : List Res} {X F : List Nat}
variable {a b c : List UInt8} {k k' yk : IntKind} {i j : Int} {S : World → Prop} {G : Value → Prop}
theorem pr_strneq (hn : Nat.blt d n = true) (hx : eop σ x = some (.string (mkS a))) (hy : eop σ y = some (.string (mkS b))) (h : G (.bool (a != b))) : ∃ v, PR P n σ S d (.binOp .neq T x y U) TB v ∧ G v :=
  ⟨_, ⟨hn, fun ρ hρ w _ dst pos af gd => by simp only [execOp, hρ _ _ hx, hρ _ _ hy, eqGuard_at_string, binOp_string_neq, mkS_list, Sem.run_bind, Sem.run_pure, Result.andThen_ok, bne]⟩, h⟩
theorem pr_stradd (hn : Nat.blt d n = true) (hx : eop σ x = some (.string (mkS a))) (hy : eop σ y = some (.string (mkS b))) (hc : app a b = some c) (h : G (.string (mkS c))) : ∃ v, PR P n σ S d (.binOp .add T x y U) TB v ∧ G v :=
  ⟨_, ⟨hn, fun ρ hρ w _ dst pos af gd => by simp only [execOp, hρ _ _ hx, hρ _ _ hy, eqGuard_at_string, run_stradd hc, Sem.run_bind, Sem.run_pure, Result.andThen_ok]⟩, h⟩
theorem pr_convi {us : TypeDesc} (hs : P.underlying U = some us) (hd : P.underlying V = some (.int k')) (hn : Nat.blt d n = true) (hx : eop σ x = some (.int k i)) (h : G (.int k' (k'.wrap i))) : ∃ v, PR P n σ S d (.convert U V x) T v ∧ G v :=
  ⟨_, ⟨hn, fun ρ hρ w _ dst pos af gd => by simp [execOp, hρ _ _ hx, convert, run_underlying hs, run_underlying hd, Conv.intToInt]⟩, h⟩
theorem wl_and (hn : Nat.blt d n = true) (hx : eop σ x = some (.int k i)) (hy : eop σ y = some (.int k j)) (h : WL P n ds rest ((d, .int k (andK k i j)) :: σ) w Q) : WL P n ds (⟨some d, .binOp .and T x y U, TB, pos, af, none⟩ :: rest) σ w Q :=
  wl_run hn (fun ρ hρ => by simp [execOp, hρ _ _ hx, hρ _ _ hy, eqGuard, binOp, Op.intBits, andK]) h
theorem wl_shr (hj : decide (0 ≤ j) = true) (hn : Nat.blt d n = true) (hx : eop σ x = some (.int k i)) (hy : eop σ y = some (.int yk j)) (h : WL P n ds rest ((d, .int k (shrK k i j)) :: σ) w Q) : WL P n ds (⟨some d, .binOp .shr T x y U, TB, pos, af, none⟩ :: rest) σ w Q :=
  wl_run hn (fun ρ hρ => by
    have hj' : ¬ j < 0 := by simpa using hj
    simp [execOp, hρ _ _ hx, hρ _ _ hy, eqGuard, binOp, Op.shift, hj', shrK]) h
/-! draws -/
theorem KeepX.wr' {wS w w' : World} {X F : List Nat} (h : KeepX wS X w) (hs : w.heap.size ≤ w'.heap.size) (hk : ∀ b, b < w.heap.size → b ∉ F → w'.heap[b]? = w.heap[b]?) (hF : ∀ b, b < wS.heap.size → b ∈ F → b ∈ X) : KeepX wS X w' :=
  ⟨Nat.le_trans h.size hs, fun b hlt hx => (hk b (Nat.lt_of_lt_of_le hlt h.size) fun hf => hx (hF b hlt hf)).trans (h.blk b hlt hx)⟩
theorem KeepX.below {wS w w0 : World} {k : Nat} (h : KeepX wS [] w) (h1 : Below k w0 wS) (h2 : Below k w0 w) : Below wS.heap.size wS w :=
  ⟨h2.os.trans h1.os.symm, h2.tape.trans h1.tape.symm, h2.output.trans h1.output.symm, h.size, fun b hb => h.blk b hb (by simp)⟩
variable {ops : List Oper} {fuel : Nat} {li : List Bool}
theorem WH.many {is : List Nat} (hr : Region.ready .any ops.toArray li.toArray = is) (h0 : is.isEmpty = false)
    (h : ∀ i ∈ is, ∃ o, ops[i]? = some o ∧ WL P n (ops.map (·.dst)) [o] σ w (Exit.then (fun a w => S w ∧ wpAnyH P .any ops.toArray Q S fuel (li.set i true).toArray a w) Q)) : WH P n ops S (fuel + 1) li σ w Q := by
  intro a ha
  refine wpAnyH_all hr (by intro e; rw [e] at h0; simp at h0) fun i hi => ?_
  obtain ⟨o, ho, hw⟩ := h i hi
  have := wpOp_of_WL ho hw ha
  simpa using this
end Go.Proofs.YtejhnpimhjmpdaaDoor
