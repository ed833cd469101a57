/-
 strings.Builder: copyCheck, WriteString, String (the builder's own block, and its bytes, owned). Numbers are the seat's.
-/
import Derived.Test.YtellehgihceicaaGreatDoorH
import Derived.Test.YtellehgihceicaaGreatDoorShelf
import Derived.Lib.AppendIntMem
import Derived.Lib.SmallJoins
import Derived.Lib.Builder
import Derived.Lib.AppendStr
import Derived.Lib.UnsafeStr
import Derived.Laws.Externs
import Derived.Laws.Pointers
set_option linter.unusedVariables false
set_option linter.unusedSimpArgs false
set_option maxHeartbeats 1600000
set_option maxRecDepth 100000
namespace Go.Proofs.YtellehgihceicaaGreatDoor
open Go Go.RowKit
section
variable {P:Program} {α:Type} {n:Nat} {ds:List (Af Tmp)} {d:Nat} {T U TB:TypeId} {pos:String} {af:Array Edge} {rest:List Oper} {x y z:Operand} {σ:E3} {w w0:Ae} {Q:Exit → Act → Ae → Prop} {L M:List Res} {base:Nat}
end

def Tab (w:Ae):Prop:=Lib.TabIs Tryz.prog w "internal/strconv.uint64pow10" .u64 Lib.pow10Tab
theorem Tab.st {w0 w:Ae} (h:Tab w0) (e:Below w0.heap.size w0 w):Tab w:=Lib.tabBelow_of_tabIs h w e
theorem Tab.keep {w0 w:Ae} (h:Tab w0) (m:∀ b,b < w0.heap.size → w.heap[b]? = w0.heap[b]?):Tab w:=by
 unfold Tab Lib.TabIs World.var? at *
 cases f:Tryz.prog.globalNamed "internal/strconv.uint64pow10" with
 | none=>simp [f] at h
 | some g =>
  simp only [f,Aa] at h ⊢
  have l:g < w0.heap.size:=by
   rcases Nat.lt_or_ge g w0.heap.size with e | e
   ·exact e
   ·rw [Array.getElem?_eq_none e] at h; simp at h
  rw [m g l]
  exact h
def TabX (w0:Ae) (X:An):Prop:=∀ w:Ae,(∀ b,b < w0.heap.size → b ∉ X → w.heap[b]? = w0.heap[b]?) → Tab w
theorem TabX.of {w0 w:Ae} {M:List Res} (h:Tab w0) (f:Below w0.heap.size w0 w) (s:Sep w0.heap.size w M):TabX w (Bf M):=fun w' l=>h.keep fun b g=>by
 rw [l b (Nat.lt_of_lt_of_le g f.size) fun e=>?_,f.block b g]
 obtain ⟨r,m,e⟩:=K0.1 e
 have:=((s.1 r m).2.1 b e).1
 omega
theorem P6 (w0:Ae) (f:List (List Aj)) (v:Ac) (F:An) (ho:ownS Cx F w0 v f) (x1 r:List Aj) (m:I0 f x1 = some r) :
  Calls Tryz.prog 176 [v,.string (B5 x1)].toArray w0 fun e w'=>e = .returned (.string (B5 r)) ∧ Below w0.heap.size w0 w':=by
 unfold I0 at m
 split at m
 ·rename_i hc
  cases m
  have hr:=ho.rd
  rcases ho with ⟨rfl,rfl,rfl⟩ | ⟨g,cap,av,css,Fs,rfl,hg,hl,ar,aq,ht,hz,rfl⟩
  ·refine (Tryz.strings_Join_none none 0 (B5 x1) w0).mono ?_
   rintro e w' ⟨rfl,rfl⟩
   exact ⟨rfl,Below.refl _ _⟩
  ·have e1:((f.map B5).map (·.data.toList)) = f:=by
    rw [List.map_map]
    conv=>rhs; rw [← List.map_id f]
    refine List.map_congr_left fun a _=>?_
    simp [B5]
   have aj:g < w0.heap.size:=by
    rcases Nat.lt_or_ge g w0.heap.size with s | s
    ·exact s
    ·rw [Array.getElem?_eq_none s] at hg; cases hg
   have ah:∀ (j:Nat) x,(f.map B5)[j]? = some x → w0.cell? ⟨g,0 + j,none⟩ = some (.string x):=fun j x hx=>by
    rw [List.getElem?_map,Option.map_eq_some_iff] at hx
    obtain ⟨y,u,rfl⟩:=hx
    obtain ⟨a,c,h1,_,l⟩:=hr
    rcases l with l | ⟨ad,l,h3⟩
    ·rw [l] at u; simp at u
    ·rw [l] at h1
     simp only [Value.slice.injEq,Option.some.injEq] at h1
     obtain ⟨_,cs,am,ai⟩:=h3 j y u
     have ap:=IB.rd am
     have:=ai 0 (.string (B5 y)) (by rw [ap]; rfl)
     rw [← h1.1] at this
     rw [show (Cx).sz = 1 from rfl,Nat.mul_one,Addr.add_lit,Addr.add_lit,Nat.add_zero] at this
     exact this
   have h:=Tryz.strings_Join g 0 cap (f.map B5) (B5 x1) w0 ah aj (by simpa using hc.1) (by simpa using hl) (by rw [e1]; simpa [B5] using hc.2)
   rw [e1] at h
   simp only [List.length_map] at h
   refine h.mono ?_
   rintro e w' ⟨rfl,hb⟩
   exact ⟨by simp [B5],hb⟩
 ·cases m
theorem E4 (w0:Ae) (l:Tab w0) (g:Int) (r:List Aj) (f:CY g = some r) :
 Calls Tryz.prog 130 [(.int .i64 g)].toArray w0 fun e w'=>e = .returned (.string (B5 r)) ∧ Below w0.heap.size w0 w':=by
 unfold CY at f
 split at f
 ·rename_i h
  cases f
  refine (Tryz.strconv_Itoa g h.1 h.2 w0 l).mono ?_
  rintro e w' ⟨m,k,os,rfl⟩
  exact ⟨m,Lib.below_grow _ w0 (Nat.le_refl _) k os⟩
 ·cases f
end Go.Proofs.YtellehgihceicaaGreatDoor
