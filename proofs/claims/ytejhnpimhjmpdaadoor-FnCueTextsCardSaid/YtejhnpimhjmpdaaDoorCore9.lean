/-
  CORE, 9: strings, greatest and least of two. Over any program.
-/
import Derived.Test.YtejhnpimhjmpdaaDoorCore7
import Derived.Laws.StructEq
import Derived.Laws.Strings2
set_option linter.unusedSimpArgs false
set_option linter.unusedVariables false
namespace Go.Proofs.YtejhnpimhjmpdaaDoor
open Go Go.RowKit
variable {P : Program} {n : Nat} {ds : List (Option Tmp)} {d : Nat} {T TB U : TypeId} {pos : String} {af : Array Edge} {rest : List Oper} {x y z : Operand} {σ : Env} {w : World} {Q : Exit → Act → World → Prop}
variable {a b c : List UInt8} {k : IntKind} {i j : Int} {S : World → Prop} {G : Value → Prop}
theorem mkS_list (a : List UInt8) : (mkS a).toList = a := ByteArray.toList_mk a
theorem mkS_size (a : List UInt8) : (mkS a).size = a.length := by simp [mkS, ByteArray.size]
theorem mkS_eq {s : ByteArray} {l : List UInt8} (h : s.data.toList = l) : s = mkS l := by
  subst h
  simp [mkS]
theorem wl_streql (hn : Nat.blt d n = true) (hx : eop σ x = some (.string (mkS a))) (hy : eop σ y = some (.string (mkS b))) (h : WL P n ds rest ((d, .bool (a == b)) :: σ) w Q) :
    WL P n ds (⟨some d, .binOp .eql T x y U, TB, pos, af, none⟩ :: rest) σ w Q :=
  wl_run hn (fun ρ hρ => by simp only [execOp, hρ _ _ hx, hρ _ _ hy, eqGuard_at_string, binOp_string_eql, mkS_list, Sem.run_bind, Sem.run_pure, Result.andThen_ok]) h
theorem wl_strneq (hn : Nat.blt d n = true) (hx : eop σ x = some (.string (mkS a))) (hy : eop σ y = some (.string (mkS b))) (h : WL P n ds rest ((d, .bool (a != b)) :: σ) w Q) :
    WL P n ds (⟨some d, .binOp .neq T x y U, TB, pos, af, none⟩ :: rest) σ w Q :=
  wl_run hn (fun ρ hρ => by simp only [execOp, hρ _ _ hx, hρ _ _ hy, eqGuard_at_string, binOp_string_neq, mkS_list, Sem.run_bind, Sem.run_pure, Result.andThen_ok, bne]) h
theorem run_stradd (h : app a b = some c) (w : World) : (binOp .add U (.string (mkS a)) (.string (mkS b))).run P w = .ok (.string (mkS c)) w := by
  unfold app at h
  split at h
  · rename_i hl
    cases h
    have e : (mkS a) ++ (mkS b) = mkS (a ++ b) := mkS_eq (by rw [ByteArray.data_append]; simp [mkS])
    have hs : ¬ ((((mkS a).size + (mkS b).size : Nat) : Int) > IntKind.i64.max) := by
      rw [mkS_size, mkS_size]
      simp [IntKind.max, IntKind.signed, IntKind.bits]
      omega
    simp only [binOp, Op.stringOp, if_neg hs, Sem.run_pure, e]
  · cases h
theorem wl_stradd (hn : Nat.blt d n = true) (hx : eop σ x = some (.string (mkS a))) (hy : eop σ y = some (.string (mkS b))) (hc : app a b = some c) (h : WL P n ds rest ((d, .string (mkS c)) :: σ) w Q) :
    WL P n ds (⟨some d, .binOp .add T x y U, TB, pos, af, none⟩ :: rest) σ w Q :=
  wl_run hn (fun ρ hρ => by simp only [execOp, hρ _ _ hx, hρ _ _ hy, eqGuard_at_string, run_stradd hc, Sem.run_bind, Sem.run_pure, Result.andThen_ok]) h
theorem wl_strlen {ts : TypeId} (hu : P.underlying ts = some .string) (hn : Nat.blt d n = true) (hx : eop σ x = some (.string (mkS a)))
    (h : WL P n ds rest ((d, .int .i64 (a.length : Int)) :: σ) w Q) : WL P n ds (⟨some d, .call ⟨.builtin .len, #[x], #[ts]⟩, T, pos, af, none⟩ :: rest) σ w Q :=
  wl_run hn (fun ρ hρ => by simp [execOp, resolve, invoke, builtin, hρ _ _ hx, Builtin.len_, run_underlying hu, goInt, mkS_size]) h
theorem pr_strlen {ts : TypeId} (hu : P.underlying ts = some .string) (hn : Nat.blt d n = true) (hx : eop σ x = some (.string (mkS a)))
    (h : G (.int .i64 (a.length : Int))) : ∃ v, PR P n σ S d (.call ⟨.builtin .len, #[x], #[ts]⟩) T v ∧ G v :=
  ⟨_, ⟨hn, fun ρ hρ w _ dst pos af gd => by simp [execOp, resolve, invoke, builtin, hρ _ _ hx, Builtin.len_, run_underlying hu, goInt, mkS_size]⟩, h⟩
theorem run_strindex {u : UInt8} (hu : P.underlying U = some .string) (hi : idx a i = some u) (w : World) : (Instr.index U (.string (mkS a)) (.int k i)).run P w = .ok (.int .u8 (u.toNat : Int)) w := by
  unfold idx at hi
  split at hi
  · rename_i h0
    obtain ⟨hlt, he⟩ := List.getElem?_eq_some_iff.1 hi
    have hz := mkS_size a
    rw [run_index_string _ _ _ _ _ hu, dif_pos ⟨h0, by omega⟩]
    have : (mkS a)[i.toNat]'(by omega) = u := by rw [← he]; rfl
    rw [this]
  · cases hi
theorem wl_strindex {u : UInt8} (hu : P.underlying U = some .string) (hn : Nat.blt d n = true) (hx : eop σ x = some (.string (mkS a))) (hy : eop σ y = some (.int k i)) (hi : idx a i = some u)
    (h : WL P n ds rest ((d, .int .u8 (u.toNat : Int)) :: σ) w Q) : WL P n ds (⟨some d, .index U x y, T, pos, af, none⟩ :: rest) σ w Q :=
  wl_run hn (fun ρ hρ => by simp [execOp, hρ _ _ hx, hρ _ _ hy, run_strindex hu hi]) h
end Go.Proofs.YtejhnpimhjmpdaaDoor
