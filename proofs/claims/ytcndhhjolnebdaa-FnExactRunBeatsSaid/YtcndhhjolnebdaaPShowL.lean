/-
  WHAT THE LAWS ON SHOWS HAND OVER AND TAKE BACK, PLAIN.
-/
import Derived.Test.YtcndhhjolnebdaaPH
import Derived.Test.YtcndhhjolnebdaaPSame
set_option linter.unusedSimpArgs false
set_option linter.unusedVariables false
namespace Go.Proofs.Ytcndhhjolnebdaa
open Go
theorem S_lensOk {x : ShowT} (h : S_Show x) : lensOk x :=
  ⟨by have := h.1.1; omega, fun c hc => by have := (h.1.2 c hc).1; omega, by have := h.2.1.1; omega⟩
theorem S_of_ok {x : ShowT} (h : okShow x = true) : S_Show x := by
  have f := facts h
  have h1 := f.n1
  have h2 := f.nc
  exact ⟨⟨by omega, fun c hc => ⟨by have := (f.cl c hc).2; omega, fun _ _ => trivial⟩⟩, ⟨by omega, fun _ _ => trivial⟩, trivial, trivial⟩
theorem S_nil : S_Show (([], [], 0, 0) : ShowT) := ⟨⟨by simp, fun c hc => by cases hc⟩, ⟨by simp, fun _ _ => trivial⟩, trivial, trivial⟩
theorem SI {l : List Int} (h : l.length ≤ 1048576) : (allS anyG) l := ⟨h, fun _ _ => trivial⟩
theorem SM {α : Type} {l : List α} (h : l.length ≤ 1048576) : (allS anyG) l := ⟨h, fun _ _ => trivial⟩
end Go.Proofs.Ytcndhhjolnebdaa
