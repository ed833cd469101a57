/-
 CORE, 20: the steps of a walk in fewer words. Over any program.
-/
import GoSem.Core.View
import Derived.Laws.Sem
import Derived.Test.YtellehgihceicaaGreatDoorRows
import Derived.WalkKit
import Derived.Laws.StructEq
import Derived.OrdersHeld
import Derived.Laws.Strings2
import Derived.Laws.BytesString
import Derived.Laws.Externs
import Derived.Lib.Bytealg
import Derived.ProofKit
import Derived.OpenShut
import Derived.Deep.Slices
import Derived.Laws.Cover3
set_option linter.unusedVariables false
set_option linter.unusedSimpArgs false
namespace Go.Proofs.YtellehgihceicaaGreatDoor
open Go
abbrev Ae1:=List (Int × Int)
abbrev Ae2:=List (Int × Int × Int × Int)
abbrev Ae3:=(Int × Int) × (Int × Int) × Int
abbrev Ae4:=List (Int × Int × Int)
abbrev Ae5:=(List Bool) × Int × (List Int) × Int
abbrev Ae6:=List (List Int)
abbrev Ae7:=(List Int) × Int
abbrev Ac:=Value
abbrev Ae:=World
abbrev Al:=List Nat
abbrev Ai:=UInt8
abbrev Af:=Option
theorem Bb {α:Type} {p:α → Prop} {a:α} {l:List α}:(∀ x,x ∈ a :: l → p x) ↔ p a ∧ ∀ x,x ∈ l → p x:=List.forall_mem_cons
theorem AK {a b:Nat}:¬a < b ↔ b ≤ a:=Nat.not_lt
theorem AX {α:Type} {a:α} {l m:List α}:a ∈ l ++ m ↔ a ∈ l ∨ a ∈ m:=List.mem_append
theorem Cp {α:Type} {l:List α} {i:Nat} (h:i < l.length):l[i]? = some l[i]:=List.getElem?_eq_getElem h
theorem CM {α:Type} {l m:List α}:(l ++ m).length = l.length + m.length:=List.length_append
theorem C7 {p:Prop} [Decidable p]:(decide p = true) = p:=decide_eq_true_eq
theorem Cg (a b:Bool):((a && b) = true) = (a = true ∧ b = true):=Bool.and_eq_true a b
theorem Aa {α β:Type} (a:α) (f:α → Af β):Option.bind (some a) f = f a:=rfl
theorem At {α:Type} {a:α} {l:List α} (m:List α) (h:a ∈ l):a ∈ l ++ m:=List.mem_append_left m h
theorem Bi {α:Type} {a:α} (l:List α) {m:List α} (h:a ∈ m):a ∈ l ++ m:=List.mem_append_right l h
theorem AB (n:Nat):n < n + 1:=Nat.lt_succ_self n
theorem Aw {a b c:Nat} (h:a ≤ b) (e:b ≤ c):a ≤ c:=Nat.le_trans h e
def Ag (x:Int):Int:=IntKind.wrap .i64 x
def Bh (x:Int):Int:=IntKind.wrap .u64 x
def Mv (x:Int):Int:=IntKind.wrap .u8 x
def AM {α:Type} (l:List α) (i:Int):Af α:=if 0 ≤ i then l[i.toNat]? else none
def sl {α:Type} (l:List α) (lo hi:Int):Af (List α):=if 0 ≤ lo ∧ lo ≤ hi ∧ hi ≤ l.length then some ((l.take hi.toNat).drop lo.toNat) else none
def Ck {α:Type} (l m:List α):Af (List α):=if l.length + m.length ≤ 1073741824 then some (l ++ m) else none
def RY {α:Type} (n:Int) (x:α):Af (List α):=if 0 ≤ n ∧ n ≤ 1073741824 then some (List.replicate n.toNat x) else none
def BG {α:Type} (l:List α) (i:Int) (x:α):List α:=l.set i.toNat x
def Ky (l:List Int):List Ai:=l.map fun x=>UInt8.ofNat x.toNat
def PU (l:List Ai) (c:Int):Int:=match (List.range l.length).find? (fun i=>l[i]? == some c.toNat.toUInt8) with
 | some i=>(i:Int)
 | none=>-1
def Yy (l:List Ai) (c:Int):Int:=((l.count c.toNat.toUInt8:Nat):Int)
def B5 (k:IntKind) (a b:Int):Int:=k.wrap ((BitVec.ofInt k.bits a &&& BitVec.ofInt k.bits b).toNat:Int)
def Tj (k:IntKind) (a b:Int):Int:=k.wrap ((BitVec.ofInt k.bits a ||| BitVec.ofInt k.bits b).toNat:Int)
def Si (k:IntKind) (a b:Int):Int:=k.wrap ((BitVec.ofInt k.bits a ^^^ BitVec.ofInt k.bits b).toNat:Int)
def Bq (k:IntKind) (a b:Int):Int:=a.fdiv (2 ^ (min b.toNat k.bits))
def K0 (k:IntKind) (a b:Int):Int:=k.wrap (a * 2 ^ (min b.toNat k.bits))
def Fx (a b:Int):Int:=if a < b then b else a
def Fn (a b:Int):Int:=if b < a then b else a
def Bk {A R:Type} (rest:A → Af R) (body:(A → Af R) → Af R):Af R:=body rest
def Gk {A B R:Type} (rest:A → B → Af R) (body:(A → B → Af R) → Af R):Af R:=body rest
def W8 {A B C R:Type} (rest:A → B → C → Af R) (body:(A → B → C → Af R) → Af R):Af R:=body rest
def W7 {A B C D R:Type} (rest:A → B → C → D → Af R) (body:(A → B → C → D → Af R) → Af R):Af R:=body rest
def jK5 {A B C D E R:Type} (rest:A → B → C → D → E → Af R) (body:(A → B → C → D → E → Af R) → Af R):Af R:=body rest
def Adp {α:Type} (G:α → Prop) (l:List α):Prop:=l.length ≤ 9223372036854775807 ∧ ∀ x ∈ l,G x
def Ado {α:Type} (_:α):Prop:=True
def FU:Nat:=4611686018427387904
def NM {γ:Type} (l:List γ) (j:Nat) (u:γ):Af (List γ):=if j < l.length then some (l.set j u) else none
end Go.Proofs.YtellehgihceicaaGreatDoor
namespace Go.Proofs.YtellehgihceicaaGreatDoor
open Go

abbrev E1:=List (Nat × Ac)
def Gv:E1 → Nat → Af Ac
 | [],_=>none
 | (k,v) :: r,i=>bif Nat.beq k i then some v else Gv r i
structure St (n:Nat) (σ:E1) (a:Act):Prop where
 size:a.tmps.size = n
 defs:a.defers = []
 get:∀ i v,Gv σ i = some v → a.tmps[i]? = some v
def B2 (σ:E1):Operand → Af Ac
 | .tmp t=>Gv σ t
 | .const v=>some v
 | .global g=>some (.pointer (some ⟨g,0,none⟩))
 | .func f=>some (.func (.func f) #[] #[])
theorem St.eval {n:Nat} {σ:E1} {a:Act} (h:St n σ a) {x:Operand} {v:Ac} (e:B2 σ x = some v):a.eval x = v:=by
 cases x with
 | tmp t =>
  have:=h.get t v e
  simp [Act.eval,this]
 | const u=>exact Option.some.inj e
 | global g=>exact Option.some.inj e
 | func f=>exact Option.some.inj e
theorem St.put {n:Nat} {σ:E1} {a:Act} (h:St n σ a) {d:Nat} (v:Ac) (m:Nat.blt d n = true):St n ((d,v) :: σ) (a.put (some d) v):=by
 have l:d < n:=by simpa using m
 refine ⟨by simp [Act.put,h.size],h.defs,fun i u f=>?_⟩
 simp only [Act.put]
 rw [Gv] at f
 by_cases e:d = i
 ·subst e
  simp [cond] at f
  rw [Array.getElem?_setIfInBounds_self_of_lt (by rw [h.size]; exact l),f]
 ·have:Nat.beq d i = false:=by
   cases g:Nat.beq d i with
   | false=>rfl
   | true=>exact absurd (Nat.eq_of_beq_eq_true g) e
  simp [this] at f
  rw [Array.getElem?_setIfInBounds_ne e]
  exact h.get i u f
def Sub (σ:E1):E1 → Prop
 | []=>True
 | (i,v) :: r=>Gv σ i = some v ∧ Sub σ r
theorem Sub.get {σ:E1}:∀ {τ:E1},Sub σ τ → ∀ i v,Gv τ i = some v → Gv σ i = some v
 | [],_,i,v,h=>by simp [Gv] at h
 | (k,u) :: r,hs,i,v,h=>by
  rw [Gv] at h
  cases f:Nat.beq k i with
  | true =>
   simp [f] at h
   have e:k = i:=Nat.eq_of_beq_eq_true f
   rw [← e,← h]
   exact hs.1
  | false =>
   simp [f] at h
   exact Sub.get hs.2 i v h
theorem St.sub {n:Nat} {σ τ:E1} {a:Act} (h:St n σ a) (f:Sub σ τ):St n τ a :=
 ⟨h.size,h.defs,fun i v e=>h.get i v (f.get i v e)⟩
theorem St.init {n:Nat} {f:List Ac} {σ:E1} (hn:f.length + (n - f.length) = n) (hσ:σ = f.zipIdx.map (fun p=>(p.2,p.1))) :
  St n σ { tmps:=f.toArray ++ Array.replicate (n - f.toArray.size) undef,defers:=[] }:=by
 subst hσ
 refine ⟨by simp; omega,rfl,fun i v h=>?_⟩
 have ac:∀ (l:List Ac) (k:Nat),Gv ((l.zipIdx k).map (fun p=>(p.2,p.1))) i = some v → k ≤ i ∧ l[i - k]? = some v:=by
  intro l
  induction l with
  | nil=>intro k h; simp [Gv] at h
  | cons x r ih =>
   intro k m
   simp only [List.zipIdx_cons,List.map_cons,Gv] at m
   cases s:Nat.beq k i with
   | true =>
    simp only [s,cond_true,Option.some.injEq] at m
    have e:k = i:=Nat.eq_of_beq_eq_true s
    subst e
    simp [m]
   | false =>
    simp [s] at m
    obtain ⟨h1,g⟩:=ih (k + 1) m
    refine ⟨by omega,?_⟩
    rw [show i - k = (i - (k + 1)) + 1 by omega,List.getElem?_cons_succ]
    exact g
 have g:=(ac f 0 h).2
 simp only [Nat.sub_zero] at g
 have aa:i < f.length:=by
  rcases Nat.lt_or_ge i f.length with u | u
  ·exact u
  ·rw [List.getElem?_eq_none u] at g; cases g
 show (f.toArray ++ Array.replicate (n - f.toArray.size) undef)[i]? = some v
 rw [Array.getElem?_append_left (by simpa using aa)]
 simpa using g

def Uq (ops:Array Oper):List (Af Tmp):=ops.toList.map (·.dst)
def WL (P:Program) (n:Nat) (ds:List (Af Tmp)) (l:List Oper) (σ:E1) (w:Ae) (Q:Exit → Act → Ae → Prop):Prop :=
 ∀ ops,Uq ops = ds → ∀ a,St n σ a → wpList P ops Q l a w
def W (P:Program) (n:Nat) (c:Code) (σ:E1) (w:Ae) (Q:Exit → Act → Ae → Prop):Prop :=
 ∀ a,St n σ a → c.wp P Q a w
section
variable {P:Program} {n:Nat} {σ:E1} {w:Ae} {Q:Exit → Act → Ae → Prop}

theorem Qb {x y:Code} (h:∀ K:Act → Ae → Prop,(∀ σ w,W P n y σ w Q → ∀ a,St n σ a → K a w) → W P n x σ w (Exit.then K Q)):W P n (.seq x y) σ w Q :=
 fun a e=>wp_seq (h _ (fun _ _ f a e=>f a e) a e)
theorem As {id:Nat} {l:List Oper} (h:WL P n (l.map (·.dst)) l σ w Q):W P n (.region id l.toArray false) σ w Q :=
 fun a e=>wp_region_lit (h l.toArray (by simp [Uq]) a e)
theorem Rb {c:Operand} {x y:Code} {t:Bool} (g:B2 σ c = some (.bool t)) (l:t = true → W P n x σ w Q) (f:t = false → W P n y σ w Q) :
  W P n (.cond c x y) σ w Q :=
 fun a e=>wp_cond_split (e.eval g) (fun h=>l h a e) (fun h=>f h a e)
theorem Aa3 {c:Operand} {x y:Code} {t:Bool} (f:B2 σ c = some (.bool t)) (g:t = false) (h:W P n y σ w Q):W P n (.cond c x y) σ w Q :=
 Rb f (fun e=>by rw [g] at e; cases e) (fun _=>h)
theorem A0 {id:Nat} {c:Code} (h:W P n c σ w (Exit.inBlock id Q)):W P n (.block id c) σ w Q :=
 fun a e=>wp_block (h a e)
theorem Au (h:∀ a,St n σ a → Q .normal a w):W P n .skip σ w Q:=fun a e=>wp_skip (h a e)
theorem Bd {id:Nat} (h:∀ a,St n σ a → Q (.exit id) a w):W P n (.exit id) σ w Q:=fun a e=>wp_exit (h a e)
theorem Ay (h:∀ a,St n σ a → Q .ret a w):W P n .ret σ w Q:=fun a e=>wp_ret (h a e)
theorem Ah {ds:List (Af Tmp)} (h:∀ a,St n σ a → Q .normal a w):WL P n ds [] σ w Q:=fun _ _ a e=>wpList_nil (h a e)

open Classical in
theorem Ads {c:Code} (I:Nat → Act → Ae → Prop) (m0:Nat) (h0:∀ a,St n σ a → I m0 a w)
  (hr:∀ m a w,I m a w → c.wp P (Exit.then (fun s w'=>∃ f,f < m ∧ I f s w') Q) a w):W P n (.loop c) σ w Q:=by
 intro a ha
 have v:∀ a w,(∃ m,I m a w) → ∃ m,I m a w ∧ ∀ k,I k a w → m ≤ k:=by
  intro a w ⟨m,hm⟩
  induction m using Nat.strongRecOn with
  | _ m ih =>
   by_cases hk:∃ k,k < m ∧ I k a w
   ·obtain ⟨k,l,g⟩:=hk
    exact ih k l g
   ·exact ⟨m,hm,fun k g=>Nat.le_of_not_lt fun l=>hk ⟨k,l,g⟩⟩
 refine wp_loop (fun a w=>∃ m,I m a w) (fun a w=>if h:∃ m,I m a w then Classical.choose (v a w h) else 0) ⟨m0,h0 a ha⟩ ?_
 intro a w g
 have hs:=Classical.choose_spec (v a w g)
 refine Code.wp_mono (fun e s w' hq=>?_) (hr _ a w hs.1)
 cases e with
 | normal =>
  obtain ⟨f,l,u⟩:=hq
  refine ⟨⟨f,u⟩,?_⟩
  rw [dif_pos g,dif_pos (⟨f,u⟩:∃ m,I m s w')]
  have ah:=Classical.choose_spec (v s w' ⟨f,u⟩)
  exact Nat.lt_of_le_of_lt (ah.2 f u) l
 | _=>exact hq

variable {ds:List (Af Tmp)} {d:Nat} {T:TypeId} {pos:String} {af:Array Edge} {rest:List Oper} {x y z:Operand}
theorem Cx {op:Op} {v:Ac} {w':Ae} (f:Nat.blt d n = true)
  (m:∀ ρ:Operand → Ac,(∀ x v,B2 σ x = some v → ρ x = v) → (execOp ρ ⟨some d,op,T,pos,af,none⟩).run P w = .ok (.value v) w')
  (h:WL P n ds rest ((d,v) :: σ) w' Q):WL P n ds (⟨some d,op,T,pos,af,none⟩ :: rest) σ w Q:=by
 intro ops l a e
 refine wpList_plain rfl fun K g=>?_
 unfold Oper.wp
 rw [m a.eval (fun x v s=>e.eval s)]
 exact g _ _ (h ops l _ (e.put v f))
theorem Aca {op:Op} {w':Ae}
  (l:∀ ρ:Operand → Ac,(∀ x v,B2 σ x = some v → ρ x = v) → (execOp ρ ⟨none,op,T,pos,af,none⟩).run P w = .ok .skip w')
  (h:WL P n ds rest σ w' Q):WL P n ds (⟨none,op,T,pos,af,none⟩ :: rest) σ w Q:=by
 intro ops g a e
 refine wpList_plain rfl fun K f=>?_
 unfold Oper.wp
 rw [l a.eval (fun x v m=>e.eval m)]
 exact f _ _ (h ops g _ e)
theorem Ku {v:Ac} (e:Nat.blt d n = true) (f:B2 σ x = some v) (h:WL P n ds rest ((d,v) :: σ) w Q) :
  WL P n ds (⟨some d,.move x,T,pos,af,none⟩ :: rest) σ w Q :=
 Cx e (fun ρ g=>by simp [execOp,g _ _ f]) h
theorem Oo {v:Ac} (e:Nat.blt d n = true) (f:B2 σ x = some v) (h:WL P n ds rest ((d,v) :: σ) w Q) :
  WL P n ds (⟨some d,.assign x,T,pos,af,none⟩ :: rest) σ w Q :=
 Cx e (fun ρ g=>by simp [execOp,g _ _ f]) h
theorem AA {v:Ac} {b:Bool} (f:Nat.blt d n = true) (m:B2 σ x = some (.bool b)) (l:b = true) (g:B2 σ y = some v) (h:WL P n ds rest ((d,v) :: σ) w Q) :
  WL P n ds (⟨some d,.pick x y z,T,pos,af,none⟩ :: rest) σ w Q :=
 Cx f (fun ρ e=>by subst l; simp [execOp,e _ _ m,e _ _ g,asBool]) h
theorem A9 {v:Ac} {b:Bool} (f:Nat.blt d n = true) (m:B2 σ x = some (.bool b)) (l:b = false) (g:B2 σ z = some v) (h:WL P n ds rest ((d,v) :: σ) w Q) :
  WL P n ds (⟨some d,.pick x y z,T,pos,af,none⟩ :: rest) σ w Q :=
 Cx f (fun ρ e=>by subst l; simp [execOp,e _ _ m,e _ _ g,asBool]) h
theorem Adv {g:Nat} {s:Tmp} {b want:Bool} {l:Af Tmp} {op:Op} (f:ds[g]? = some (some s)) (hv:Gv σ s = some (.bool b)) (hb:b = want)
  (h:WL P n ds (⟨l,op,T,pos,af,none⟩ :: rest) σ w Q):WL P n ds (⟨l,op,T,pos,af,some (g,want)⟩ :: rest) σ w Q:=by
 intro ops v a u
 have hd:(ops[g]?).bind (·.dst) = some s:=by
  rw [← v] at f
  simp only [Uq,List.getElem?_map,Array.getElem?_toList] at f
  cases m:ops[g]? with
  | none=>rw [m] at f; cases f
  | some o'=>rw [m] at f; simpa using f
 have hy:yielded ops a.tmps g = some want:=by
  unfold yielded
  rw [hd]
  simp [u.get s _ hv,hb]
 have e:=h ops v a u
 unfold wpList at e ⊢
 simp only [Region.wanted,hy,if_true,beq_self_eq_true] at e ⊢
 rcases e with e | e
 ·exact .inl e
 ·exact .inr e
theorem Acb {g:Nat} {s:Tmp} {b want:Bool} {op:Op} (u:Nat.blt d n = true) (e:ds[g]? = some (some s)) (hv:Gv σ s = some (.bool b)) (hb:b = !want)
  (h:WL P n ds rest ((d,undef) :: σ) w Q):WL P n ds (⟨some d,op,T,pos,af,some (g,want)⟩ :: rest) σ w Q:=by
 intro ops m a l
 have hd:(ops[g]?).bind (·.dst) = some s:=by
  rw [← m] at e
  simp only [Uq,List.getElem?_map,Array.getElem?_toList] at e
  cases f:ops[g]? with
  | none=>rw [f] at e; cases e
  | some o'=>rw [f] at e; simpa using e
 have v:yielded ops a.tmps g = some (!want):=by
  unfold yielded
  rw [hd]
  simp [l.get s _ hv,hb]
 unfold wpList
 rw [if_neg (by simp [Region.wanted,v])]
 exact h ops m _ (l.put undef u)
theorem Dn {g:Nat} {s:Tmp} {want:Bool} {op:Op} (u:Nat.blt d n = true) (e:ds[g]? = some (some s)) (hv:Gv σ s = some undef)
  (h:WL P n ds rest ((d,undef) :: σ) w Q):WL P n ds (⟨some d,op,T,pos,af,some (g,want)⟩ :: rest) σ w Q:=by
 intro ops m a l
 have hd:(ops[g]?).bind (·.dst) = some s:=by
  rw [← m] at e
  simp only [Uq,List.getElem?_map,Array.getElem?_toList] at e
  cases f:ops[g]? with
  | none=>rw [f] at e; cases e
  | some o'=>rw [f] at e; simpa using e
 have v:yielded ops a.tmps g = none:=by
  unfold yielded
  rw [hd]
  simp [l.get s _ hv,undef]
 unfold wpList
 rw [if_neg (by simp [Region.wanted,v])]
 exact h ops m _ (l.put undef u)
variable {k:IntKind} {a b:Int} {U:TypeId}
theorem MO (f:Nat.blt d n = true) (m:B2 σ x = some (.int k a)) (g:B2 σ y = some (.int k b)) (l:b ≠ 0) (h:WL P n ds rest ((d,.int k (k.wrap (a.tdiv b))) :: σ) w Q) :
  WL P n ds (⟨some d,.binOp .quo T x y U,T,pos,af,none⟩ :: rest) σ w Q :=
 Cx f (fun ρ e=>by simp [execOp,e _ _ m,e _ _ g,eqGuard,binOp,Op.intDiv,l]) h
theorem Q5 (f:Nat.blt d n = true) (m:B2 σ x = some (.int k a)) (g:B2 σ y = some (.int k b)) (l:b ≠ 0) (h:WL P n ds rest ((d,.int k (a.tmod b)) :: σ) w Q) :
  WL P n ds (⟨some d,.binOp .rem T x y U,T,pos,af,none⟩ :: rest) σ w Q :=
 Cx f (fun ρ e=>by simp [execOp,e _ _ m,e _ _ g,eqGuard,binOp,Op.intDiv,l]) h
variable {TB:TypeId}
variable {p q:Bool}
theorem QY {xs:List Operand} {vs:List Ac} (e:xs.map (B2 σ) = vs.map some) (ρ:Operand → Ac) (g:∀ x v,B2 σ x = some v → ρ x = v):xs.map ρ = vs:=by
 induction xs generalizing vs with
 | nil=>cases vs <;> simp_all
 | cons x r f =>
  cases vs with
  | nil=>simp at e
  | cons v s =>
   simp only [List.map_cons,List.cons.injEq] at e ⊢
   exact ⟨g _ _ e.1,f e.2⟩
theorem A7 {f:FuncId} {xs:List Operand} {m:Array TypeId} {vs:List Ac} {R:Ending → Ae → Prop} (s:Nat.blt d n = true)
  (ae:∀ args w,(callFunc f args).run P w = .ok (.enter f args) w) (hc:Calls P f vs.toArray w R) (g:xs.map (B2 σ) = vs.map some)
  (h:∀ e w',R e w' → ∃ v,e = .returned v ∧ WL P n ds rest ((d,v) :: σ) w' Q) :
  WL P n ds (⟨some d,.call ⟨.value (.func f),xs.toArray,m⟩,T,pos,af,none⟩ :: rest) σ w Q:=by
 intro ops ho a l
 refine wpList_plain rfl fun K u=>?_
 unfold Oper.wp
 have he:(execOp a.eval ⟨some d,.call ⟨.value (.func f),xs.toArray,m⟩,T,pos,af,none⟩).run P w = .ok (.enter f vs.toArray) w:=by
  have ac:=QY g a.eval (fun x v g=>l.eval g)
  simp [execOp,resolve,Deferred.ofValue,invoke,ae,ac,Act.eval]
 rw [he]
 simp only [Oper.upon]
 refine hc.mono fun e w' hR=>?_
 obtain ⟨v,rfl,hv⟩:=h e w' hR
 exact u _ _ (hv ops ho _ (l.put v s))
end
theorem WQ {P:Program} {f:FuncId} {e:Func} {c:Code} {g:List Ac} {w:Ae} {R:Ending → Ae → Prop} {n:Nat}
  (m:P.funcs[f]? = some e) (s:e.body = some c) (l:e.ntmps = n) (v:g.length + (n - g.length) = n) {σ:E1} (u:σ = g.zipIdx.map (fun p=>(p.2,p.1)))
  (h:W P n c σ w (bodyPost P e R)):Calls P f g.toArray w R:=by
 subst l
 exact calls_of_wp m s (h _ (St.init v u))
end Go.Proofs.YtellehgihceicaaGreatDoor
namespace Go.Proofs.YtellehgihceicaaGreatDoor
open Go Go.RowKit

def Z3 {A B C:Type} (R:A → B → C → Prop):List A → List B → List C → Prop
 | [],[],[]=>True
 | a :: xs,b :: ys,c :: zs=>R a b c ∧ Z3 R xs ys zs
 | _,_,_=>False
section
variable {A B C:Type} {R R':A → B → C → Prop}
theorem Z3.mono (h:∀ a b c,R a b c → R' a b c):∀ {xs:List A} {e:List B} {zs:List C},Z3 R xs e zs → Z3 R' xs e zs
 | [],[],[],_=>trivial
 | _ :: _,_ :: _,_ :: _,hz=>⟨h _ _ _ hz.1,Z3.mono h hz.2⟩
 | [],[],_ :: _,hz=>hz.elim
 | [],_ :: _,_,hz=>hz.elim
 | _ :: _,[],_,hz=>hz.elim
 | _ :: _,_ :: _,[],hz=>hz.elim
theorem Z3.len:∀ {xs:List A} {e:List B} {zs:List C},Z3 R xs e zs → xs.length = zs.length ∧ e.length = zs.length
 | [],[],[],_=>⟨rfl,rfl⟩
 | _ :: _,_ :: _,_ :: _,hz=>by
  have:=Z3.len hz.2
  simp [this.1,this.2]
 | [],[],_ :: _,hz=>hz.elim
 | [],_ :: _,_,hz=>hz.elim
 | _ :: _,[],_,hz=>hz.elim
 | _ :: _,_ :: _,[],hz=>hz.elim
theorem Z3.get:∀ {xs:List A} {e:List B} {zs:List C},Z3 R xs e zs → ∀ (i:Nat) c,zs[i]? = some c → ∃ a b,xs[i]? = some a ∧ e[i]? = some b ∧ R a b c
 | [],[],[],_,i,c,hc=>by simp at hc
 | a :: xs,b :: e,c0 :: zs,hz,0,c,hc=>by
  simp at hc
  subst hc
  exact ⟨a,b,rfl,rfl,hz.1⟩
 | a :: xs,b :: e,c0 :: zs,hz,i + 1,c,hc=>by
  simp at hc
  obtain ⟨h,f,h1,g,l⟩:=Z3.get hz.2 i c hc
  exact ⟨h,f,by simpa using h1,by simpa using g,l⟩
 | [],[],_ :: _,hz,_,_,_=>hz.elim
 | [],_ :: _,_,hz,_,_,_=>hz.elim
 | _ :: _,[],_,hz,_,_,_=>hz.elim
 | _ :: _,_ :: _,[],hz,_,_,_=>hz.elim
theorem Z3.app:∀ {xs:List A} {l:List B} {zs:List C} {f:List A} {e:List B} {g:List C},Z3 R xs l zs → Z3 R f e g → Z3 R (xs ++ f) (l ++ e) (zs ++ g)
 | [],[],[],_,_,_,_,h=>h
 | _ :: _,_ :: _,_ :: _,_,_,_,hz,h=>⟨hz.1,Z3.app hz.2 h⟩
 | [],[],_ :: _,_,_,_,hz,_=>hz.elim
 | [],_ :: _,_,_,_,_,hz,_=>hz.elim
 | _ :: _,[],_,_,_,_,hz,_=>hz.elim
 | _ :: _,_ :: _,[],_,_,_,hz,_=>hz.elim
theorem Z3.set:∀ {xs:List A} {e:List B} {zs:List C},Z3 R xs e zs → ∀ (i:Nat) a b c,i < zs.length → R a b c → Z3 R (xs.set i a) (e.set i b) (zs.set i c)
 | [],[],[],_,i,_,_,_,hi,_=>by simp at hi
 | _ :: _,_ :: _,_ :: _,hz,0,_,_,_,_,h=>⟨h,hz.2⟩
 | _ :: _,_ :: _,_ :: _,hz,i + 1,a,b,c,hi,h=>⟨hz.1,Z3.set hz.2 i a b c (by simpa using hi) h⟩
 | [],[],_ :: _,hz,_,_,_,_,_,_=>hz.elim
 | [],_ :: _,_,hz,_,_,_,_,_,_=>hz.elim
 | _ :: _,[],_,hz,_,_,_,_,_,_=>hz.elim
 | _ :: _,_ :: _,[],hz,_,_,_,_,_,_=>hz.elim
theorem Z3.of:∀ {xs:List A} {e:List B} {zs:List C},xs.length = zs.length → e.length = zs.length → (∀ (i:Nat) a b c,xs[i]? = some a → e[i]? = some b → zs[i]? = some c → R a b c) → Z3 R xs e zs
 | [],[],[],_,_,_=>trivial
 | a :: xs,b :: e,c :: zs,h1,h2,h=>⟨h 0 a b c rfl rfl rfl,Z3.of (by simpa using h1) (by simpa using h2) fun i a b c g f l=>h (i + 1) a b c (by simpa using g) (by simpa using f) (by simpa using l)⟩
 | [],_,_ :: _,h1,_,_=>by simp at h1
 | _ :: _,_,[],h1,_,_=>by simp at h1
 | [],_ :: _,[],_,h2,_=>by simp at h2
 | _ :: _,[],_ :: _,_,h2,_=>by simp at h2
end

structure Sh (α:Type) where
 sz:Nat
 zero:List Ac
 dflt:α
 rd:(Nat → Prop) → Ae → List Ac → α → Prop
 own:Al → Ae → List Ac → α → Prop
 rd_len:∀ {S w cs x},rd S w cs x → cs.length = sz
 rd_one:∀ {S w cs x},rd S w cs x → ∀ c ∈ cs,c.oneCell' = true
 rd_keep:∀ {S w w' cs x},rd S w cs x → (∀ b,S b → w'.heap[b]? = w.heap[b]?) → rd S w' cs x
 rd_mono:∀ {S S' w cs x},rd S w cs x → (∀ b,S b → S' b) → rd S' w cs x
 own_keep:∀ {F w w' cs x},own F w cs x → (∀ b ∈ F,w'.heap[b]? = w.heap[b]?) → own F w' cs x
 own_rd:∀ {F w cs x},own F w cs x → rd (· ∈ F) w cs x
 own_lt:∀ {F w cs x},own F w cs x → ∀ b ∈ F,b < w.heap.size
 zero_own:∀ w,own [] w zero dflt
def Adc:TypeDesc → Bool
 | .struct _ | .array _ _=>true
 | _=>false
structure Ty (P:Program) (α:Type) extends Sh α where
 tid:TypeId
 bts:Nat
 agg:Bool
 sz_pos:0 < sz
 bts_le:bts ≤ 65536
 info:∃ i z,P.info? tid = some i ∧ i.size = sz ∧ i.bytes = bts ∧ i.zero = some z ∧ z.cells = zero.toArray
 und:∃ d,P.underlying tid = some d ∧ Adc d = agg
 one1:agg = false → sz = 1
def Sh.flat {α:Type} (f:α → List Ac) (sz:Nat) (dflt:α) (hl:∀ x,(f x).length = sz) (h1:∀ x,∀ c ∈ f x,c.oneCell' = true):Sh α where
 sz:=sz
 zero:=f dflt
 dflt:=dflt
 rd:=fun _ _ cs x=>cs = f x
 own:=fun F _ cs x=>F = [] ∧ cs = f x
 rd_len:=fun h=>by rw [h]; exact hl _
 rd_one:=fun h=>by rw [h]; exact h1 _
 rd_keep:=fun h _=>h
 rd_mono:=fun h _=>h
 own_keep:=fun h _=>h
 own_rd:=fun h=>h.2
 own_lt:=fun h b hb=>by rw [h.1] at hb; cases hb
 zero_own:=fun _=>⟨rfl,rfl⟩
def Sh.prod {α β:Type} (s:Sh α) (t:Sh β):Sh (α × β) where
 sz:=s.sz + t.sz
 zero:=s.zero ++ t.zero
 dflt:=(s.dflt,t.dflt)
 rd:=fun S w cs x=>∃ a b,cs = a ++ b ∧ s.rd S w a x.1 ∧ t.rd S w b x.2
 own:=fun F w cs x=>∃ a b Fa Fb,cs = a ++ b ∧ F = Fa ++ Fb ∧ s.own Fa w a x.1 ∧ t.own Fb w b x.2
 rd_len:=fun ⟨a,b,h,ha,hb⟩=>by rw [h,CM,s.rd_len ha,t.rd_len hb]
 rd_one:=fun ⟨a,b,h,ha,hb⟩ c hc=>by
  rw [h] at hc
  rcases AX.1 hc with hc | hc
  ·exact s.rd_one ha c hc
  ·exact t.rd_one hb c hc
 rd_keep:=fun ⟨a,b,h,ha,hb⟩ hk=>⟨a,b,h,s.rd_keep ha hk,t.rd_keep hb hk⟩
 rd_mono:=fun ⟨a,b,h,ha,hb⟩ hk=>⟨a,b,h,s.rd_mono ha hk,t.rd_mono hb hk⟩
 own_keep:=fun ⟨a,b,Fa,Fb,h,hF,ha,hb⟩ hk=>⟨a,b,Fa,Fb,h,hF,s.own_keep ha fun x hx=>hk x (by rw [hF]; exact At _ hx),t.own_keep hb fun x hx=>hk x (by rw [hF]; exact Bi _ hx)⟩
 own_rd:=fun ⟨a,b,Fa,Fb,h,hF,ha,hb⟩=>⟨a,b,h,s.rd_mono (s.own_rd ha) fun x hx=>by rw [hF]; exact At _ hx,t.rd_mono (t.own_rd hb) fun x hx=>by rw [hF]; exact Bi _ hx⟩
 own_lt:=fun ⟨a,b,Fa,Fb,h,hF,ha,hb⟩ x hx=>by
  rw [hF] at hx
  rcases AX.1 hx with hx | hx
  ·exact s.own_lt ha x hx
  ·exact t.own_lt hb x hx
 zero_own:=fun w=>⟨_,_,[],[],rfl,rfl,s.zero_own w,t.zero_own w⟩
variable {P:Program}
def ElemAt {α:Type} (e:Ty P α) (S:Nat → Prop) (w:Ae) (p:Addr) (x:α):Prop :=
 S p.block ∧ ∃ cs,e.rd S w cs x ∧ ∀ (j:Nat) c,cs[j]? = some c → w.cell? (p.add j) = some c
def rdS {α:Type} (e:Ty P α) (S:Nat → Prop) (w:Ae) (v:Ac) (l:List α):Prop :=
 ∃ a cap,v = .slice a l.length cap ∧ l.length ≤ cap ∧ (l = [] ∨ ∃ ad:Addr,a = some ad ∧ ∀ (i:Nat) x,l[i]? = some x → ElemAt e S w (ad.add (i * e.sz)) x)
def ownS {α:Type} (e:Ty P α) (F:Al) (w:Ae) (v:Ac) (l:List α):Prop :=
 (v = .slice none 0 0 ∧ l = [] ∧ F = []) ∨
 ∃ g cap cur css Fs,v = .slice (some ⟨g,0,none⟩) l.length cap ∧ w.heap[g]? = some (.cells cur e.tid (0,0)) ∧ l.length ≤ cap ∧ cap ≤ maxLen ∧ cur.size = cap * e.sz ∧
  cur.toList.take (l.length * e.sz) = css.flatten ∧ Z3 (fun F cs x=>e.own F w cs x) Fs css l ∧ F = g :: Fs.flatten
theorem O7 {w w':Ae} {a:Addr} (h:w'.heap[a.block]? = w.heap[a.block]?):w'.cell? a = w.cell? a:=World.cell?_of_block h
theorem JV (a:Addr) (n:Nat):(a.add n).block = a.block:=by unfold Addr.add; split <;> rfl
theorem Pw (a:Addr) (n m:Nat):(a.add n).add m = a.add (n + m):=by
 unfold Addr.add
 by_cases h1:n = 0 <;> by_cases e:m = 0 <;> simp [h1,e] <;> omega
theorem ElemAt.keep {α:Type} {e:Ty P α} {S:Nat → Prop} {w w':Ae} {p:Addr} {x:α} (h:ElemAt e S w p x) (f:∀ b,S b → w'.heap[b]? = w.heap[b]?):ElemAt e S w' p x:=by
 obtain ⟨h1,cs,g,m⟩:=h
 refine ⟨h1,cs,e.rd_keep g f,fun j c l=>?_⟩
 exact (O7 (w:=w) (w':=w') (a:=p.add j) (by rw [JV]; exact f _ h1)).trans (m j c l)
theorem ElemAt.mono {α:Type} {e:Ty P α} {S S':Nat → Prop} {w:Ae} {p:Addr} {x:α} (h:ElemAt e S w p x) (f:∀ b,S b → S' b):ElemAt e S' w p x:=by
 obtain ⟨h1,cs,g,l⟩:=h
 exact ⟨f _ h1,cs,e.rd_mono g f,l⟩
theorem OV {cs:List (List Ac)} {sz:Nat} (h:∀ c ∈ cs,c.length = sz):∀ (i j:Nat) c,cs[i]? = some c → ∀ u,c[j]? = some u → cs.flatten[i * sz + j]? = some u:=by
 induction cs with
 | nil=>intro i j c e; simp at e
 | cons d r l =>
  intro i j c e u f
  have g:d.length = sz:=h d (by simp)
  cases i with
  | zero =>
   simp at e
   subst e
   rw [List.flatten_cons,List.getElem?_append_left (by simp; exact (List.getElem?_eq_some_iff.1 f).1)]
   simpa using f
  | succ i =>
   simp at e
   rw [List.flatten_cons,List.getElem?_append_right (by rw [g,Nat.succ_mul]; omega),g,show (i + 1) * sz + j - sz = i * sz + j by rw [Nat.succ_mul]; omega]
   exact l (fun c e=>h c (by simp [e])) i j c e u f
theorem Z3.sz {α:Type} {e:Ty P α} {w:Ae} {Fs:List (Al)} {css:List (List Ac)} {l:List α} (f:Z3 (fun F cs x=>e.own F w cs x) Fs css l):∀ c ∈ css,c.length = e.sz:=by
 intro c s
 obtain ⟨i,h⟩:=List.getElem?_of_mem s
 have m:i < l.length:=by rw [← f.len.2]; exact (List.getElem?_eq_some_iff.1 h).1
 obtain ⟨a,b,_,g,u⟩:=f.get i l[i] (by simp [m])
 rw [h] at g
 cases g
 exact e.rd_len (e.own_rd u)
theorem Kw {cs:List (List Ac)} {sz:Nat} (h:∀ c ∈ cs,c.length = sz):cs.flatten.length = cs.length * sz:=by
 induction cs with
 | nil=>simp
 | cons d r f =>
  rw [List.flatten_cons,CM,f (fun c e=>h c (by simp [e])),h d (by simp),List.length_cons,Nat.succ_mul,Nat.add_comm]
theorem ownS.rd {α:Type} {e:Ty P α} {F:Al} {w:Ae} {v:Ac} {l:List α} (h:ownS e F w v l):rdS e (· ∈ F) w v l:=by
 rcases h with ⟨rfl,rfl,rfl⟩ | ⟨g,cap,ae,css,Fs,rfl,u,hn,hm,hc,ht,m,rfl⟩
 ·exact ⟨none,0,rfl,Nat.le_refl _,.inl rfl⟩
 ·refine ⟨_,cap,rfl,hn,.inr ⟨⟨g,0,none⟩,rfl,fun i x hx=>?_⟩⟩
  obtain ⟨a,b,h1,h2,h3⟩:=m.get i x hx
  refine ⟨by rw [JV]; simp,b,e.rd_mono (e.own_rd h3) fun y hy=>?_,fun j c s=>?_⟩
  ·simp only [List.mem_cons,List.mem_flatten]
   exact .inr ⟨a,List.mem_of_getElem? h1,hy⟩
  ·rw [Pw,Addr.add_lit,cell_of_row w g _ ae e.tid (0,0) u]
   have f:=OV m.sz i j b h2 c s
   rw [← ht,List.getElem?_take] at f
   split at f
   ·simpa using f
   ·cases f
theorem ownS.keep {α:Type} {e:Ty P α} {F:Al} {w w':Ae} {v:Ac} {l:List α} (h:ownS e F w v l) (hk:∀ b ∈ F,w'.heap[b]? = w.heap[b]?):ownS e F w' v l:=by
 rcases h with h | ⟨g,cap,ai,css,Fs,hv,hg,hn,hm,m,ht,f,rfl⟩
 ·exact .inl h
 ·refine .inr ⟨g,cap,ai,css,Fs,hv,by rw [hk g (by simp)]; exact hg,hn,hm,m,ht,?_,rfl⟩
  refine Z3.of f.len.1 f.len.2 fun i a b c u hb m=>?_
  obtain ⟨a',b',h1,s,h3⟩:=f.get i c m
  rw [u] at h1; rw [hb] at s
  cases h1; cases s
  exact e.own_keep h3 fun y hy=>hk y (by simp only [List.mem_cons,List.mem_flatten]; exact .inr ⟨a,List.mem_of_getElem? u,hy⟩)
theorem ownS.lt {α:Type} {e:Ty P α} {F:Al} {w:Ae} {v:Ac} {l:List α} (h:ownS e F w v l):∀ b ∈ F,b < w.heap.size:=by
 rcases h with ⟨_,_,rfl⟩ | ⟨g,cap,al,css,Fs,hv,u,hn,hm,hc,ht,m,rfl⟩
 ·intro b f; cases f
 ·intro b f
  simp only [List.mem_cons,List.mem_flatten] at f
  rcases f with rfl | ⟨a,ha,f⟩
  ·exact (Array.getElem?_eq_some_iff.1 u).1
  ·obtain ⟨i,s⟩:=List.getElem?_of_mem ha
   have aa:i < l.length:=by rw [← m.len.1]; exact (List.getElem?_eq_some_iff.1 s).1
   obtain ⟨a',b',h1,_,h3⟩:=m.get i l[i] (by simp [aa])
   rw [s] at h1
   cases h1
   exact e.own_lt h3 b f
theorem rdS.keep {α:Type} {e:Ty P α} {S:Nat → Prop} {w w':Ae} {v:Ac} {l:List α} (h:rdS e S w v l) (hk:∀ b,S b → w'.heap[b]? = w.heap[b]?):rdS e S w' v l:=by
 obtain ⟨a,cap,m,f,h⟩:=h
 refine ⟨a,cap,m,f,h.imp id fun ⟨g,u,s⟩=>⟨g,u,fun i x hx=>(s i x hx).keep hk⟩⟩
theorem rdS.mono {α:Type} {e:Ty P α} {S S':Nat → Prop} {w:Ae} {v:Ac} {l:List α} (h:rdS e S w v l) (hk:∀ b,S b → S' b):rdS e S' w v l:=by
 obtain ⟨a,cap,m,f,h⟩:=h
 refine ⟨a,cap,m,f,h.imp id fun ⟨g,u,s⟩=>⟨g,u,fun i x hx=>(s i x hx).mono hk⟩⟩
def Sh.slice {α:Type} (e:Ty P α):Sh (List α) where
 sz:=1
 zero:=[.slice none 0 0]
 dflt:=[]
 rd:=fun S w cs l=>∃ v,cs = [v] ∧ rdS e S w v l
 own:=fun F w cs l=>∃ v,cs = [v] ∧ ownS e F w v l
 rd_len:=fun ⟨v,h,_⟩=>by rw [h]; rfl
 rd_one:=fun ⟨v,h,hv⟩ c hc=>by
  obtain ⟨a,cap,rfl,_⟩:=hv
  rw [h] at hc
  simp at hc
  rw [hc]
  rfl
 rd_keep:=fun ⟨v,h,hv⟩ hk=>⟨v,h,hv.keep hk⟩
 rd_mono:=fun ⟨v,h,hv⟩ hk=>⟨v,h,hv.mono hk⟩
 own_keep:=fun ⟨v,h,hv⟩ hk=>⟨v,h,hv.keep hk⟩
 own_rd:=fun ⟨v,h,hv⟩=>⟨v,h,hv.rd⟩
 own_lt:=fun ⟨v,h,hv⟩=>hv.lt
 zero_own:=fun _=>⟨_,rfl,.inl ⟨rfl,rfl,rfl⟩⟩

structure Res where
 fp:Al
 ok:Ae → Prop
def Res.good (base:Nat) (w:Ae) (r:Res):Prop :=
 r.fp.Nodup ∧ (∀ b ∈ r.fp,base ≤ b ∧ b < w.heap.size) ∧ ∀ w':Ae,(∀ b ∈ r.fp,w'.heap[b]? = w.heap[b]?) → r.ok w'
def Sep (base:Nat) (w:Ae) (L:List Res):Prop :=
 (∀ r ∈ L,r.good base w) ∧ L.Pairwise fun r s=>∀ b ∈ r.fp,b ∉ s.fp
def A5 (b:Nat) (T:TypeId) (cs:List Ac):Res:=⟨[b],fun w=>w.heap[b]? = some (.cells cs.toArray T (0,0))⟩
def Ab {α:Type} (e:Ty P α) (F:Al) (v:Ac) (l:List α):Res:=⟨F,fun w=>ownS e F w v l⟩
def Aez {α:Type} (e:Ty P α) (F:Al) (v:Ac) (l:List α):Res:=⟨F,fun w=>rdS e (· ∈ F) w v l⟩
def Eo:List Res → Nat → Af Res
 | [],_=>none
 | r :: _,0=>some r
 | _ :: L,i + 1=>Eo L i
def Md:List Res → Nat → Res → List Res
 | [],_,_=>[]
 | _ :: L,0,r'=>r' :: L
 | r :: L,i + 1,r'=>r :: Md L i r'
theorem NA:∀ (L:List Res) (i:Nat),Eo L i = L[i]?
 | [],_=>by simp [Eo]
 | r :: L,0=>by simp [Eo]
 | r :: L,i + 1=>by simp [Eo,NA L i]
theorem XL:∀ (L:List Res) (i:Nat) (r:Res),Md L i r = L.set i r
 | [],_,_=>by simp [Md]
 | r :: L,0,_=>by simp [Md]
 | r :: L,i + 1,r'=>by simp [Md,XL L i r']
section
variable {base:Nat} {w w':Ae} {L:List Res} {r r':Res}
theorem Res.good.ok (h:r.good base w):r.ok w:=h.2.2 w fun _ _=>rfl
theorem Res.good.keep (h:r.good base w) (l:w.heap.size ≤ w'.heap.size) (m:∀ b ∈ r.fp,w'.heap[b]? = w.heap[b]?):r.good base w' :=
 ⟨h.1,fun b e=>⟨(h.2.1 b e).1,Nat.lt_of_lt_of_le (h.2.1 b e).2 l⟩,fun f g=>h.2.2 f fun b e=>(g b e).trans (m b e)⟩
theorem Sep.nil (base:Nat) (w:Ae):Sep base w []:=⟨fun _ h=>(by cases h),.nil⟩
theorem Sep.get (h:Sep base w L) {i:Nat} (e:Eo L i = some r):r.good base w:=h.1 r (List.mem_of_getElem? (by rw [← NA]; exact e))
theorem Sep.ok (h:Sep base w L) {i:Nat} (e:Eo L i = some r):r.ok w:=(h.get e).ok
theorem Sep.keep (h:Sep base w L) (l:w.heap.size ≤ w'.heap.size) (g:∀ b,base ≤ b → b < w.heap.size → w'.heap[b]? = w.heap[b]?):Sep base w' L :=
 ⟨fun r e=>(h.1 r e).keep l fun b f=>g b ((h.1 r e).2.1 b f).1 ((h.1 r e).2.1 b f).2,h.2⟩
theorem Sep.below (h:Sep base w L) (e:Below w.heap.size w w'):Sep base w' L:=h.keep e.size fun b _ f=>e.block b f
theorem Sep.push (h:Sep base w L) (e:Below w.heap.size w w') (aa:r.fp.Nodup) (g:∀ b ∈ r.fp,w.heap.size ≤ b ∧ b < w'.heap.size) (v:base ≤ w.heap.size)
  (u:∀ w'':Ae,(∀ b ∈ r.fp,w''.heap[b]? = w'.heap[b]?) → r.ok w''):Sep base w' (r :: L):=by
 have l:=h.below e
 refine ⟨fun s f=>?_,List.Pairwise.cons (fun s f b e m=>?_) l.2⟩
 ·cases f with
  | head=>exact ⟨aa,fun b e=>⟨Aw v (g b e).1,(g b e).2⟩,u⟩
  | tail _ f=>exact l.1 s f
 ·have h1:=(h.1 s f).2.1 b m
  have h2:=g b e
  omega
theorem Sep.push0 (h:Sep base w L) (l:r.fp = []) (m:∀ g:Ae,r.ok g):Sep base w (r :: L):=by
 refine ⟨fun s f=>?_,List.Pairwise.cons (fun s f b e u=>?_) h.2⟩
 ·cases f with
  | head=>exact ⟨(by rw [l]; exact List.nodup_nil),(fun b e=>by rw [l] at e; exact (by cases e)),fun g _=>m g⟩
  | tail _ f=>exact h.1 s f
 ·rw [l] at e; cases e
theorem LZ {R:Res → Res → Prop} (e:∀ a b,R a b → R b a):∀ {L:List Res},L.Pairwise R → ∀ (i j:Nat) a b,i ≠ j → L[i]? = some a → L[j]? = some b → R a b
 | [],_,i,_,_,_,_,h,_=>by simp at h
 | c :: L,.cons hc hL,0,0,_,_,hne,_,_=>absurd rfl hne
 | c :: L,.cons hc hL,0,j + 1,a,b,_,ha,hb=>by
  simp at ha hb
  subst ha
  exact hc b (List.mem_of_getElem? hb)
 | c :: L,.cons hc hL,i + 1,0,a,b,_,ha,hb=>by
  simp at ha hb
  subst hb
  exact e _ _ (hc a (List.mem_of_getElem? ha))
 | c :: L,.cons hc hL,i + 1,j + 1,a,b,hne,ha,hb=>by
  simp at ha hb
  exact LZ e hL i j a b (by omega) ha hb
theorem O6 (a b:Res) (h:∀ x ∈ a.fp,x ∉ b.fp):∀ x ∈ b.fp,x ∉ a.fp:=fun x f e=>h x e f
theorem Sep.disj (h:Sep base w L) {i j:Nat} (f:Nat.beq i j = false) (l:Eo L i = some r) (g:Eo L j = some r'):∀ b ∈ r.fp,b ∉ r'.fp :=
 LZ O6 h.2 i j r r' (fun e=>by rw [e,Nat.beq_refl] at f; cases f) (by rw [← NA]; exact l) (by rw [← NA]; exact g)
theorem Oz {R:Res → Res → Prop}:∀ {L:List Res},(∀ (i j:Nat) a b,i < j → L[i]? = some a → L[j]? = some b → R a b) → L.Pairwise R
 | [],_=>.nil
 | c :: L,h=>.cons (fun b e=>by
   obtain ⟨j,f⟩:=List.getElem?_of_mem e
   exact h 0 (j + 1) c b (by omega) rfl (by simpa using f)) (Oz fun i j a b l g e=>h (i + 1) (j + 1) a b (by omega) (by simpa using g) (by simpa using e))
def NX:Al → Bool
 | []=>true
 | i :: r=>!(r.any fun j=>Nat.beq i j) && NX r
def Aj (L:List Res):Al → List Res
 | []=>[]
 | i :: r=>match Eo L i with
  | some x=>x :: Aj L r
  | none=>Aj L r
theorem R1:∀ {is:Al} {r:Res},r ∈ Aj L is → ∃ i ∈ is,Eo L i = some r
 | [],_,h=>by cases h
 | i :: is,r,h=>by
  rw [Aj] at h
  cases e:Eo L i with
  | none =>
   rw [e] at h
   obtain ⟨j,f,g⟩:=R1 h
   exact ⟨j,by simp [f],g⟩
  | some x =>
   rw [e] at h
   cases h with
   | head=>exact ⟨i,by simp,e⟩
   | tail _ h =>
    obtain ⟨j,f,g⟩:=R1 h
    exact ⟨j,by simp [f],g⟩
theorem Sep.sel (h:Sep base w L) (is:Al) (e:NX is = true):Sep base w (Aj L is):=by
 refine ⟨fun r hr=>?_,?_⟩
 ·obtain ⟨i,_,hi⟩:=R1 hr
  exact h.get hi
 ·induction is with
  | nil=>exact .nil
  | cons i is u =>
   rw [NX,Cg] at e
   have f:=u e.2
   rw [YtellehgihceicaaGreatDoor.Aj]
   cases g:Eo L i with
   | none=>exact f
   | some x =>
    refine .cons (fun s hs=>?_) f
    obtain ⟨j,m,v⟩:=R1 hs
    have l:Nat.beq i j = false:=by
     have:=e.1
     simp only [Bool.not_eq_true',List.any_eq_false] at this
     cases hb:Nat.beq i j with
     | false=>rfl
     | true=>exact absurd (Nat.eq_of_beq_eq_true hb) (by simpa using this j m)
    exact h.disj l g v
theorem Sep.upd (h:Sep base w L) {i:Nat} (m:Eo L i = some r) (hs:w.heap.size ≤ w'.heap.size)
  (hk:∀ b,base ≤ b → b < w.heap.size → b ∉ r.fp → w'.heap[b]? = w.heap[b]?) (ap:r'.fp.Nodup) (hf:∀ b ∈ r'.fp,b ∈ r.fp ∨ (w.heap.size ≤ b ∧ b < w'.heap.size)) (ao:base ≤ w.heap.size)
  (al:∀ w'':Ae,(∀ b ∈ r'.fp,w''.heap[b]? = w'.heap[b]?) → r'.ok w''):Sep base w' (Md L i r'):=by
 have v:i < L.length:=by
  rw [NA] at m
  exact (List.getElem?_eq_some_iff.1 m).1
 have am:L[i]? = some r:=by rw [← NA]; exact m
 have ae:∀ (j:Nat) s,j ≠ i → L[j]? = some s → ∀ b ∈ s.fp,b ∉ r.fp:=fun j s u g=>LZ O6 h.2 j i s r u g am
 have ai:r'.good base w':=⟨ap,fun b f=>by
  rcases hf b f with h1 | h1
  ·have:=(h.get m).2.1 b h1
   exact ⟨this.1,Nat.lt_of_lt_of_le this.2 hs⟩
  ·exact ⟨Aw ao h1.1,h1.2⟩,al⟩
 have ab:∀ (j:Nat) s,j ≠ i → L[j]? = some s → ∀ b ∈ s.fp,b ∉ r'.fp:=fun j s u g b f aj=>by
  rcases hf b aj with h1 | h1
  ·exact ae j s u g b f h1
  ·have:=(h.1 s (List.mem_of_getElem? g)).2.1 b f
   omega
 rw [XL]
 refine ⟨fun s an=>?_,Oz fun j k a b aq l f=>?_⟩
 ·obtain ⟨j,g⟩:=List.getElem?_of_mem an
  by_cases e:j = i
  ·subst e
   rw [List.getElem?_set_self v] at g
   cases g
   exact ai
  ·rw [List.getElem?_set_ne (Ne.symm e)] at g
   have aa:=h.1 s (List.mem_of_getElem? g)
   exact aa.keep hs fun b f=>hk b (aa.2.1 b f).1 (aa.2.1 b f).2 (ae j s e g b f)
 ·by_cases e1:j = i
  ·subst e1
   rw [List.getElem?_set_self v] at l
   cases l
   rw [List.getElem?_set_ne (by omega)] at f
   exact O6 _ _ (ab k b (by omega) f)
  ·rw [List.getElem?_set_ne (Ne.symm e1)] at l
   by_cases e2:k = i
   ·subst e2
    rw [List.getElem?_set_self v] at f
    cases f
    exact ab j a (by omega) l
   ·rw [List.getElem?_set_ne (Ne.symm e2)] at f
    exact LZ O6 h.2 j k a b (by omega) l f
end
theorem rdS.ro {α:Type} {e:Ty P α} {w0 w:Ae} {v:Ac} {l:List α} (h:rdS e (· < w0.heap.size) w0 v l) (g:Below w0.heap.size w0 w):rdS e (· < w.heap.size) w v l :=
 (h.keep fun b f=>g.block b f).mono fun b f=>Nat.lt_of_lt_of_le f g.size
theorem Sh.ro {α:Type} {e:Sh α} {w0 w:Ae} {cs:List Ac} {l:α} (h:e.rd (· < w0.heap.size) w0 cs l) (g:Below w0.heap.size w0 w):e.rd (· < w.heap.size) w cs l :=
 e.rd_mono (e.rd_keep h fun b f=>g.block b f) fun b f=>Nat.lt_of_lt_of_le f g.size
theorem Sep.own_ro {α:Type} {e:Ty P α} {base:Nat} {w:Ae} {L:List Res} {F:Al} {v:Ac} {l:List α} (h:Sep base w L) {i:Nat} (f:Eo L i = some (Ab e F v l)):rdS e (· < w.heap.size) w v l :=
 (h.ok f:ownS e F w v l).rd.mono fun b g=>((h.get f).2.1 b g).2
end Go.Proofs.YtellehgihceicaaGreatDoor
namespace Go.Proofs.YtellehgihceicaaGreatDoor
open Go Go.RowKit
structure TF (P:Program) (T:TypeId) (sz:Nat) (agg:Bool) (z:Ac):Prop where
 hsize:∀ w,(sizeOf T).run P w = .ok sz w
 hagg:∀ w,(isAgg T).run P w = .ok agg w
 hzero:∀ w,(zeroValue T).run P w = .ok z w
 pos:0 < sz
 one:agg = false → sz = 1
def pk:Bool → List Ac → Ac
 | true,vs=>.agg vs.toArray
 | false,[v]=>v
 | false,_=>undef
def KK (cs:List Ac) (off sz:Nat):Af (List Ac):=bif Nat.ble (off + sz) cs.length then some ((cs.drop off).take sz) else none
def Dp (cs:List Ac) (off:Nat) (vs:List Ac):List Ac:=cs.take off ++ (vs ++ cs.drop (off + vs.length))
def Ones:List Ac → Prop
 | []=>True
 | v :: r=>v.oneCell' = true ∧ Ones r
theorem Ones.all:∀ {vs:List Ac},Ones vs → ∀ v ∈ vs,v.oneCell' = true
 | _ :: _,h,_,.head _=>h.1
 | _ :: _,h,_,.tail _ hv=>Ones.all h.2 _ hv
theorem Ones.of:∀ {vs:List Ac},(∀ v ∈ vs,v.oneCell' = true) → Ones vs
 | [],_=>trivial
 | v :: r,h=>⟨h v (by simp),Ones.of fun u e=>h u (by simp [e])⟩
variable {P:Program} {α:Type}
theorem rdS.one {e:Ty P α} {S:Nat → Prop} {w:Ae} {v:Ac} {l:List α} (h:rdS e S w v l):v.oneCell' = true:=by
 obtain ⟨a,cap,rfl,_⟩:=h
 rfl
theorem ownS.one {e:Ty P α} {F:Al} {w:Ae} {v:Ac} {l:List α} (h:ownS e F w v l):v.oneCell' = true:=h.rd.one
def EAt (S:Nat → Prop) (w:Ae) (p:Addr) (cs:List Ac):Prop:=S p.block ∧ ∀ (j:Nat) c,cs[j]? = some c → w.cell? (p.add j) = some c
theorem EAt.add {S:Nat → Prop} {w:Ae} {p:Addr} {cs:List Ac} (h:EAt S w p cs) (o:Nat):EAt S w (p.add o) (cs.drop o) :=
 ⟨by rw [JV]; exact h.1,fun j c e=>by
  rw [Pw]
  exact h.2 (o + j) c (by rwa [List.getElem?_drop] at e)⟩
theorem EAt.ro {w0 w:Ae} {p:Addr} {cs:List Ac} (h:EAt (· < w0.heap.size) w0 p cs) (e:Below w0.heap.size w0 w):EAt (· < w.heap.size) w p cs :=
 ⟨Nat.lt_of_lt_of_le h.1 e.size,fun j c f=>by rw [e.cell (p:=p.add j) (by rw [JV]; exact h.1)]; exact h.2 j c f⟩
theorem Bf (w:Ae):Below w.heap.size w w:=Below.refl _ _
theorem EO (w:Ae) (o:Obj):Below w.heap.size w (w.alloc o):=⟨rfl,rfl,rfl,by simp,fun k e=>Below.heap_alloc w o k e⟩
theorem QF (w:Ae) (g:Nat) (cs:Array Ac) {B:Nat} (e:B ≤ g):Below B w (w.setRow g cs) :=
 ⟨rfl,rfl,rfl,by simp,fun k f=>setRow_other w g k cs (by omega)⟩
theorem MS (w:Ae) (g o:Nat) (t U:TypeId) (cs vs:List Ac) (v:Ac) (f:v.cells = vs.toArray) (m:∀ w,(sizeOf U).run P w = .ok vs.length w)
  (e:w.heap[g]? = some (.cells cs.toArray t (0,0))) (l:o + vs.length ≤ cs.length) (h1:Ones vs) :
  (storeVar U ⟨g,o,none⟩ v).run P w = .ok () (w.setRow g (Dp cs o vs).toArray):=by
 have h:=run_storeCells_at P g o t vs 0 cs.toArray w e (by simpa using l) h1.all
 unfold storeVar
 simp only [Sem.run_bind,m,Result.andThen_ok,f,List.size_toArray,ne_eq,not_true_eq_false,if_false]
 rw [h]
 simp [Dp]
section
variable {n:Nat} {σ:E1} {w w0:Ae} {Q:Exit → Act → Ae → Prop} {L:List Res}
variable {ds:List (Af Tmp)} {d:Nat} {T U:TypeId} {pos:String} {af:Array Edge} {rest:List Oper} {x y z:Operand} {sz:Nat} {agg:Bool} {zv:Ac}
theorem UU {b:Nat} (g:Sep w0.heap.size w L) (h:Below w0.heap.size w0 w) (cs:List Ac) (U:TypeId) (e:b = w.heap.size) :
  Sep w0.heap.size (w.alloc (.cells cs.toArray U)) (A5 b U cs :: L):=by
 subst e
 refine g.push (EO w _) (by simp [A5]) (fun b e=>?_) h.size (fun f l=>?_)
 ·simp [A5] at e
  subst e
  simp
 ·have:=l w.heap.size (by simp [A5])
  show f.heap[w.heap.size]? = _
  rw [this,heap_alloc_new]
theorem Ace {v:Ac} {cs:List Ac} (f:Nat.blt d n = true) (s:B2 σ x = some v) (g:v.cells = cs.toArray) (e:Below w0.heap.size w0 w) (m:Sep w0.heap.size w L)
  (h:∀ b w',Below w.heap.size w w' → Below w0.heap.size w0 w' → Sep w0.heap.size w' (A5 b U cs :: L) → WL P n ds rest ((d,.pointer (some ⟨b,0,none⟩)) :: σ) w' Q) :
  WL P n ds (⟨some d,.box U x,T,pos,af,none⟩ :: rest) σ w Q:=by
 refine Cx (w':=w.alloc (.cells cs.toArray U)) (v:=.pointer (some ⟨w.heap.size,0,none⟩)) f (fun ρ l=>?_)
  (h _ _ (EO w _) (e.trans ((EO w _).mono e.size)) (UU m e cs U rfl))
 simp [execOp,l _ _ s,Instr.box,newVar,newRow,g]
theorem ZG {cs:List Ac} (l:TF P U sz agg zv) (f:Nat.blt d n = true) (g:zv.cells = cs.toArray) (e:Below w0.heap.size w0 w) (m:Sep w0.heap.size w L)
  (h:∀ b w',Below w.heap.size w w' → Below w0.heap.size w0 w' → Sep w0.heap.size w' (A5 b U cs :: L) → WL P n ds rest ((d,.pointer (some ⟨b,0,none⟩)) :: σ) w' Q) :
  WL P n ds (⟨some d,.alloc U,T,pos,af,none⟩ :: rest) σ w Q:=by
 refine Cx (w':=w.alloc (.cells cs.toArray U)) (v:=.pointer (some ⟨w.heap.size,0,none⟩)) f (fun ρ s=>?_)
  (h _ _ (EO w _) (e.trans ((EO w _).mono e.size)) (UU m e cs U rfl))
 simp [execOp,Instr.alloc,newVar,newRow,g,l.hzero]
def Fm (P:Program) (U:TypeId) (f o:Nat):Bool :=
 match P.underlying U with
 | some (.struct fs)=>match fs[f]? with
  | some fd=>Nat.beq fd.offset o && (match P.info? fd.type with
   | some i=>!(Nat.beq i.size 0)
   | none=>false)
  | none=>false
 | _=>false
theorem MK {f o:Nat} (g:Fm P U f o = true) (p:Addr):(Instr.fieldAt U (.pointer (some p)) f).run P w = .ok (.pointer (some (p.add o))) w:=by
 unfold Fm at g
 split at g
 ·rename_i fs s
  split at g
  ·rename_i v u
   rw [Cg] at g
   obtain ⟨h1,h⟩:=g
   split at h
   ·rename_i i hi
    have l:v.offset = o:=Nat.eq_of_beq_eq_true h1
    have m:i.size ≠ 0:=fun e=>by rw [e] at h; simp at h
    simp [Instr.fieldAt,run_underlying s,u,Instr.sureAddr,fieldPlace,sizeOf,typeInfo,hi,m,l]
   ·cases h
  ·cases g
 ·cases g
theorem M1 {f o b off off':Nat} (l:Fm P U f o = true) (e:Nat.blt d n = true) (s:B2 σ x = some (.pointer (some ⟨b,off,none⟩))) (m:off + o = off')
  (h:WL P n ds rest ((d,.pointer (some ⟨b,off',none⟩)) :: σ) w Q):WL P n ds (⟨some d,.fieldAddr U x f,T,pos,af,none⟩ :: rest) σ w Q :=
 Cx e (fun ρ g=>by simp [execOp,g _ _ s,MK l,Addr.add_lit,m]) h
theorem JT {f o:Nat} {p:Addr} (g:Fm P U f o = true) (e:Nat.blt d n = true) (m:B2 σ x = some (.pointer (some p)))
  (h:WL P n ds rest ((d,.pointer (some (p.add o))) :: σ) w Q):WL P n ds (⟨some d,.fieldAddr U x f,T,pos,af,none⟩ :: rest) σ w Q :=
 Cx e (fun ρ l=>by simp [execOp,l _ _ m,MK g]) h
theorem HZ (m:TF P U sz agg zv) (p:Addr) (cs vs:List Ac) (s:∀ (j:Nat) c,cs[j]? = some c → w.cell? (p.add j) = some c) (e:KK cs 0 sz = some vs) (h1:agg = false → sz = 1) :
  (loadVar U p).run P w = .ok (pk agg vs) w:=by
 have h:sz ≤ cs.length:=by
  unfold KK at e
  cases u:Nat.ble (0 + sz) cs.length with
  | true=>simpa using Nat.le_of_ble_eq_true u
  | false=>rw [u] at e; cases e
 have g:vs = cs.take sz:=by
  unfold KK at e
  have:Nat.ble (0 + sz) cs.length = true:=by simpa using h
  rw [this] at e
  simpa using e.symm
 unfold loadVar
 rw [Sem.run_bind,m.hagg]
 simp only [Result.andThen_ok]
 cases agg with
 | true =>
  have hl:(loadCells p sz).run P w = .ok vs.toArray w:=by
   have:=run_loadCells_list (P:=P) w p vs (fun j v f=>s j v (by
    rw [g,List.getElem?_take] at f
    split at f
    ·exact f
    ·cases f))
   rwa [g,List.length_take,Nat.min_eq_left h,← g] at this
  simp [m.hsize,hl,pk]
 | false =>
  have hs:=h1 rfl
  subst hs
  cases cs with
  | nil=>simp at h
  | cons c r =>
   have l:=s 0 c rfl
   rw [Addr.add_zero'] at l
   simp [load,Sem.run,l,g,pk]
theorem O8 {b o:Nat} {cs:List Ac} {V:TypeId} (f:w.heap[b]? = some (.cells cs.toArray V (0,0))):∀ (j:Nat) c,(cs.drop o)[j]? = some c → w.cell? ((⟨b,o,none⟩:Addr).add j) = some c:=by
 intro j c e
 rw [Addr.add_lit,cell_of_row w b _ cs.toArray V (0,0) f]
 rw [List.getElem?_drop] at e
 simpa using e
theorem Wh {cs vs:List Ac} {o s:Nat} (e:KK cs o s = some vs) (h:0 < s):KK (cs.drop o) 0 s = some vs:=by
 unfold KK at e ⊢
 cases f:Nat.ble (o + s) cs.length with
 | false=>rw [f] at e; cases e
 | true =>
  rw [f] at e
  have g:=Nat.le_of_ble_eq_true f
  have:Nat.ble (0 + s) (cs.drop o).length = true:=by
   rw [Nat.ble_eq,List.length_drop]; omega
  rw [this]
  simpa using e
theorem J2 {i b off:Nat} {V:TypeId} {cs vs:List Ac} {v:Ac} (e:TF P U sz agg zv) (f:Nat.blt d n = true)
  (hx:B2 σ x = some (.pointer (some ⟨b,off,none⟩))) (hS:Sep w0.heap.size w L) (g:Eo L i = some (A5 b V cs)) (m:KK cs off sz = some vs) (hp:pk agg vs = v)
  (h:WL P n ds rest ((d,v) :: σ) w Q):WL P n ds (⟨some d,.load U x,T,pos,af,none⟩ :: rest) σ w Q:=by
 refine Cx f (fun ρ u=>?_) h
 have l:w.heap[b]? = some (.cells cs.toArray V (0,0)):=hS.ok g
 have s:=HZ (w:=w) e ⟨b,off,none⟩ (cs.drop off) vs (O8 l) (Wh m e.pos) e.one
 rw [← hp]
 simp [execOp,u _ _ hx,Instr.loadAt,Instr.sureAddr,s]
theorem YC {S:Nat → Prop} {p:Addr} {cs vs:List Ac} {v:Ac} (e:TF P U sz agg zv) (f:Nat.blt d n = true)
  (hx:B2 σ x = some (.pointer (some p))) (u:EAt S w p cs) (g:KK cs 0 sz = some vs) (s:pk agg vs = v)
  (h:WL P n ds rest ((d,v) :: σ) w Q):WL P n ds (⟨some d,.load U x,T,pos,af,none⟩ :: rest) σ w Q:=by
 refine Cx f (fun ρ m=>?_) h
 have l:=HZ (w:=w) e p cs vs u.2 g e.one
 rw [← s]
 simp [execOp,m _ _ hx,Instr.loadAt,Instr.sureAddr,l]
theorem Yd {cs vs:List Ac} {off:Nat} (h:off + vs.length ≤ cs.length):(Dp cs off vs).length = cs.length:=by
 unfold Dp
 simp
 omega
theorem B9 {i b off:Nat} {V:TypeId} {cs cs' vs:List Ac} {v:Ac} (tf:TF P U sz agg zv)
  (hx:B2 σ x = some (.pointer (some ⟨b,off,none⟩))) (hy:B2 σ y = some v) (hv:v.cells = vs.toArray) (ag:vs.length = sz) (u:Below w0.heap.size w0 w) (l:Sep w0.heap.size w L)
  (g:Eo L i = some (A5 b V cs)) (hl:Nat.ble (off + vs.length) cs.length = true) (h1:Ones vs) (hc:Dp cs off vs = cs')
  (h:∀ w',(w.heap.size ≤ w'.heap.size ∧ (∀ k,k < w.heap.size → k ∉ [b] → w'.heap[k]? = w.heap[k]?) ∧ ∀ k ∈ [b],k ∈ [b] ∨ w.heap.size ≤ k) → Below w0.heap.size w0 w' → Sep w0.heap.size w' (Md L i (A5 b V cs')) → WL P n ds rest σ w' Q) :
  WL P n ds (⟨none,.store U x y,T,pos,af,none⟩ :: rest) σ w Q:=by
 have m:w.heap[b]? = some (.cells cs.toArray V (0,0)):=l.ok g
 have ai:=Nat.le_of_ble_eq_true hl
 have aa:=(l.get g).2.1 b (by simp [A5])
 subst hc
 refine Aca (w':=w.setRow b (Dp cs off vs).toArray) (fun ρ s=>?_) (h _ ⟨by simp,fun k _ f=>setRow_other w b k _ (by simpa using f),fun k f=>.inl f⟩ (u.trans (QF w b _ aa.1)) ?_)
 ·have hs:=MS (P:=P) w b off V U cs vs v hv (fun w=>by rw [ag]; exact tf.hsize w) m ai h1
  simp [execOp,s _ _ hx,s _ _ hy,Instr.storeAt,Instr.sureAddr,hs]
 ·refine l.upd g (by simp) (fun k _ _ f=>setRow_other w b k _ (by intro e; exact f (by simp [A5,e]))) (by simp [A5]) (fun k f=>.inl f) u.size (fun ac f=>?_)
  have:=f b (by simp [A5])
  show ac.heap[b]? = _
  rw [this,setRow_heap w b _ _ V (0,0) m]
theorem MA {l:List α} {i:Int} {u:α} (h:AM l i = some u):0 ≤ i ∧ l[i.toNat]? = some u ∧ i.toNat < l.length:=by
 unfold AM at h
 split at h
 ·rename_i e
  exact ⟨e,h,(List.getElem?_eq_some_iff.1 h).1⟩
 ·cases h
theorem NN {e:Ty P α} {S:Nat → Prop} {g:Ae} {v:Ac} {l:List α} {k:IntKind} {f:Int} {u:α} (hu:P.underlying U = some (.slice e.tid)) (hr:rdS e S g v l) (hi:AM l f = some u) :
  ∃ p,(∀ w,(Instr.indexAt U v (.int k f)).run P w = .ok (.pointer (some p)) w) ∧ ElemAt e S g p u:=by
 obtain ⟨a,cap,rfl,al,h⟩:=hr
 obtain ⟨h0,hl,s⟩:=MA hi
 rcases h with rfl | ⟨ad,rfl,ah⟩
 ·simp at s
 ·obtain ⟨i,z,m,ae,_⟩:=e.info
  refine ⟨ad.add (f.toNat * e.sz),fun w=>?_,ah _ _ hl⟩
  have hc:0 ≤ f ∧ f < (l.length:Int):=⟨h0,by omega⟩
  simp [Instr.indexAt,asIntOf,run_underlying hu,sizeOf,typeInfo,m,ae,hc]
theorem BP {e:Ty P α} {S:Nat → Prop} {f:Ae} {v:Ac} {l:List α} {k:IntKind} {m:Int} {u:α} (hu:P.underlying U = some (.slice e.tid)) (s:Nat.blt d n = true)
  (hx:B2 σ x = some v) (hy:B2 σ y = some (.int k m)) (hr:rdS e S f v l) (hi:AM l m = some u)
  (h:∀ p cs,e.rd S f cs u → EAt S f p cs → WL P n ds rest ((d,.pointer (some p)) :: σ) w Q):WL P n ds (⟨some d,.indexAddr U x y,T,pos,af,none⟩ :: rest) σ w Q:=by
 obtain ⟨p,ai,hS,cs,ae,hc⟩:=NN (k:=k) hu hr hi
 exact Cx s (fun ρ g=>by simp [execOp,g _ _ hx,g _ _ hy,ai]) (h p cs ae ⟨hS,hc⟩)
theorem Acc {v:Ac} {a:Af Addr} {l c:Nat} {f:TypeId} {e:TypeId} (s:P.underlying f = some (.slice e)) (g:Nat.blt d n = true) (hx:B2 σ x = some v) (m:v = .slice a l c)
  (h:WL P n ds rest ((d,.int .i64 (l:Int)) :: σ) w Q):WL P n ds (⟨some d,.call ⟨.builtin .len,#[x],#[f]⟩,T,pos,af,none⟩ :: rest) σ w Q:=by
 subst m
 exact Cx g (fun ρ u=>by simp [execOp,resolve,invoke,builtin,u _ _ hx,Builtin.len_,run_underlying s,goInt]) h
theorem Abg {e:Ty P α} {S:Nat → Prop} {w1:Ae} {v:Ac} {l:List α} {f:TypeId} (s:P.underlying f = some (.slice e.tid)) (g:Nat.blt d n = true) (hx:B2 σ x = some v) (u:rdS e S w1 v l)
  (h:WL P n ds rest ((d,.int .i64 (l.length:Int)) :: σ) w Q):WL P n ds (⟨some d,.call ⟨.builtin .len,#[x],#[f]⟩,T,pos,af,none⟩ :: rest) σ w Q:=by
 obtain ⟨a,cap,m,_⟩:=u
 exact Acc s g hx m h
theorem LV {e:Ty P α} {S:Nat → Prop} {w1:Ae} {v:Ac} {l m:List α} {f g:Int} (hu:P.underlying U = some (.slice e.tid)) (hr:rdS e S w1 v l) (s:sl l f g = some m) :
  ∃ v',(∀ (vlo vhi:Af Ac) w,((vlo = none ∧ f = 0) ∨ ∃ k,vlo = some (.int k f)) → ((vhi = none ∧ g = l.length) ∨ ∃ k,vhi = some (.int k g)) → (Instr.sliceAt U v vlo vhi none).run P w = .ok v' w) ∧ rdS e S w1 v' m:=by
 obtain ⟨a,cap,rfl,aw,h⟩:=hr
 unfold sl at s
 split at s
 case isFalse=>cases s
 rename_i hb
 obtain ⟨h0,h1,h2⟩:=hb
 cases s
 obtain ⟨i,z,an,ap,_⟩:=e.info
 have ac:((l.take g.toNat).drop f.toNat).length = g.toNat - f.toNat:=by simp; omega
 refine ⟨.slice (if cap = f.toNat then a else a.map (·.add (f.toNat * e.sz))) (g.toNat - f.toNat) (cap - f.toNat),fun vlo vhi w ah am=>?_,?_⟩
 ·have aj:(Instr.sliceBounds true l.length cap vlo vhi none).run P w = .ok (f.toNat,g.toNat,cap) w:=by
   have hh:0 ≤ g ∧ g ≤ (cap:Int):=⟨by omega,by omega⟩
   rcases am with ⟨rfl,rfl⟩ | ⟨k,rfl⟩
   ·rcases ah with ⟨rfl,rfl⟩ | ⟨k',rfl⟩
    ·simp [Instr.sliceBounds]
    ·have ab:0 ≤ f ∧ f ≤ (l.length:Int):=⟨h0,h1⟩
     simp [Instr.sliceBounds,Instr.sliceBound,asIntOf,ab]
   ·rcases ah with ⟨rfl,rfl⟩ | ⟨k',rfl⟩
    ·simp [Instr.sliceBounds,Instr.sliceBound,asIntOf,hh]
    ·have e1:((g.toNat:Nat):Int) = g:=by omega
     have ab:0 ≤ f ∧ f ≤ ((g.toNat:Nat):Int):=⟨h0,by omega⟩
     simp only [Instr.sliceBounds,Instr.sliceBound,asIntOf,Sem.run_bind,Sem.run_pure,Result.andThen_ok,hh,and_self,if_true,ab,Option.isSome_none]
  simp [Instr.sliceAt,Instr.slice,run_underlying hu,aj,sizeOf,typeInfo,an,ap]
 ·refine ⟨_,cap - f.toNat,by rw [ac],by rw [ac]; omega,?_⟩
  by_cases aa:(l.take g.toNat).drop f.toNat = []
  ·exact .inl aa
  ·rcases h with rfl | ⟨ad,rfl,ar⟩
   ·simp at aa
   ·have av:f.toNat < g.toNat:=by
     rcases Nat.lt_or_ge f.toNat g.toNat with h | h
     ·exact h
     ·exact absurd (List.eq_nil_of_length_eq_zero (by rw [ac]; omega)) aa
    refine .inr ⟨ad.add (f.toNat * e.sz),by rw [if_neg (by omega)]; rfl,fun j x u=>?_⟩
    rw [Pw,← Nat.add_mul]
    refine ar _ x ?_
    rw [List.getElem?_drop,List.getElem?_take] at u
    split at u
    ·exact u
    ·cases u
theorem PB {e:Ty P α} {S:Nat → Prop} {w1:Ae} {v:Ac} {l m:List α} {lo hi:Int} {g s:Af Operand} (hu:P.underlying U = some (.slice e.tid)) (hn:Nat.blt d n = true)
  (hx:B2 σ x = some v) (hr:rdS e S w1 v l) (hm:sl l lo hi = some m)
  (aj:(g = none ∧ lo = 0) ∨ ∃ o k,g = some o ∧ B2 σ o = some (.int k lo)) (ak:(s = none ∧ hi = l.length) ∨ ∃ o k,s = some o ∧ B2 σ o = some (.int k hi))
  (h:∀ u,rdS e S w1 u m → WL P n ds rest ((d,u) :: σ) w Q):WL P n ds (⟨some d,.slice U x g s none,T,pos,af,none⟩ :: rest) σ w Q:=by
 obtain ⟨u,am,ag⟩:=LV hu hr hm
 refine Cx hn (fun ρ hρ=>?_) (h u ag)
 have:=am (g.map ρ) (s.map ρ) w (aj.imp (fun ⟨h,f⟩=>⟨by rw [h]; rfl,f⟩) fun ⟨o,k,h,f⟩=>⟨k,by rw [h]; simp [hρ _ _ f]⟩)
  (ak.imp (fun ⟨h,f⟩=>⟨by rw [h]; rfl,f⟩) fun ⟨o,k,h,f⟩=>⟨k,by rw [h]; simp [hρ _ _ f]⟩)
 simp [execOp,hρ _ _ hx,this]
end
end Go.Proofs.YtellehgihceicaaGreatDoor
namespace Go.Proofs.YtellehgihceicaaGreatDoor
open Go Go.RowKit
variable {P:Program} {α:Type}
structure Flat (e:Ty P α) (f:α → List Ac):Prop where
 rd:∀ {S w cs x},e.rd S w cs x → cs = f x
 own:∀ w x,e.own [] w (f x) x
 none:∀ {F w cs x},e.own F w cs x → F = []
theorem Flat.len {e:Ty P α} {f:α → List Ac} (g:Flat e f) (w:Ae) (x:α):(f x).length = e.sz:=e.rd_len (e.own_rd (g.own w x))
theorem Flat.ones {e:Ty P α} {f:α → List Ac} (g:Flat e f) (w:Ae) (x:α):∀ c ∈ f x,c.oneCell' = true:=e.rd_one (e.own_rd (g.own w x))
theorem Flat.z3 {e:Ty P α} {f:α → List Ac} (g:Flat e f) (w:Ae):∀ l:List α,Z3 (fun F cs x=>e.own F w cs x) (l.map fun _=>[]) (l.map f) l
 | []=>trivial
 | x :: l=>⟨g.own w x,Flat.z3 g w l⟩
theorem Flat.of_z3 {e:Ty P α} {f:α → List Ac} (g:Flat e f) {w:Ae}:∀ {Fs:List (Al)} {css:List (List Ac)} {l:List α},Z3 (fun F cs x=>e.own F w cs x) Fs css l → Fs.flatten = [] ∧ css = l.map f
 | [],[],[],_=>⟨rfl,rfl⟩
 | F :: Fs,cs :: css,x :: l,h=>by
  obtain ⟨h1,m⟩:=Flat.of_z3 g h.2
  have s:=g.none h.1
  subst s
  exact ⟨by simpa using h1,by rw [m,g.rd (e.own_rd h.1)]; rfl⟩
 | [],[],_ :: _,h=>h.elim
 | [],_ :: _,_,h=>h.elim
 | _ :: _,[],_,h=>h.elim
 | _ :: _,_ :: _,[],h=>h.elim
theorem OU (l:List α):(l.map fun _=>([]:Al)).flatten = []:=by induction l <;> simp_all
theorem MB (f:α → List Ac) (sz:Nat) (h:∀ x,(f x).length = sz) (l:List α):(l.map f).flatten.length = l.length * sz:=by
 rw [Kw (sz:=sz) (fun c e=>by obtain ⟨x,_,rfl⟩:=List.mem_map.1 e; exact h x),List.length_map]
theorem Hg {e:Ty P α} {f:α → List Ac} (m:Flat e f) {F:Al} {w:Ae} {v:Ac} {l:List α} :
  ownS e F w v l ↔ (v = .slice none 0 0 ∧ l = [] ∧ F = []) ∨ ∃ g cap cur,v = .slice (some ⟨g,0,none⟩) l.length cap ∧ w.heap[g]? = some (.cells cur e.tid (0,0)) ∧ l.length ≤ cap ∧ cap ≤ maxLen ∧
   cur.size = cap * e.sz ∧ cur.toList.take (l.length * e.sz) = (l.map f).flatten ∧ F = [g]:=by
 constructor
 ·rintro (h | ⟨g,cap,cur,css,Fs,h1,h2,h3,h4,h5,h6,h7,h8⟩)
  ·exact .inl h
  ·obtain ⟨u,s⟩:=m.of_z3 h7
   exact .inr ⟨g,cap,cur,h1,h2,h3,h4,h5,by rw [h6,s],by rw [h8,u]⟩
 ·rintro (h | ⟨g,cap,cur,h1,h2,h3,h4,h5,h6,h7⟩)
  ·exact .inl h
  ·exact .inr ⟨g,cap,cur,l.map f,l.map fun _=>[],h1,h2,h3,h4,h5,h6,m.z3 w l,by rw [h7,OU]⟩
theorem ZY {e:Ty P α} {f:α → List Ac} (hf:Flat e f) {S:Nat → Prop} {w:Ae} {l:List α} {h:Addr} (ai:∀ (i:Nat) x,l[i]? = some x → ElemAt e S w (h.add (i * e.sz)) x) :
  ∀ (j:Nat) u,(l.map f).flatten[j]? = some u → w.cell? (h.add j) = some u:=by
 have h2:∀ (m:List α) (k:Nat),(∀ (i:Nat) x,m[i]? = some x → ElemAt e S w (h.add ((k + i) * e.sz)) x) → ∀ (j:Nat) u,(m.map f).flatten[j]? = some u → w.cell? (h.add (k * e.sz + j)) = some u:=by
  intro m
  induction m with
  | nil=>intro k _ j u g; simp at g
  | cons x m ih =>
   intro k s j u g
   have ab:=hf.len w x
   rw [List.map_cons,List.flatten_cons,List.getElem?_append] at g
   split at g
   ·obtain ⟨_,cs,aj,v⟩:=s 0 x rfl
    rw [hf.rd aj] at v
    have:=v j u g
    rwa [Pw] at this
   ·rename_i hj
    have:=ih (k + 1) (fun i y hy=>by
     have:=s (i + 1) y (by simpa using hy)
     rwa [show k + 1 + i = k + (i + 1) by omega]) (j - (f x).length) u g
    rw [ab] at this
    rwa [show (k + 1) * e.sz + (j - e.sz) = k * e.sz + j by rw [Nat.succ_mul]; rw [ab] at hj; omega] at this
 intro j u g
 have:=h2 l 0 (fun i x hx=>by simpa using ai i x hx) j u g
 simpa using this
theorem WY {l m r:List α} (h:Ck l m = some r):r = l ++ m ∧ l.length + m.length ≤ 1073741824:=by
 unfold Ck at h
 split at h
 ·rename_i e
  exact ⟨(Option.some.inj h).symm,e⟩
 ·cases h
theorem WR {k b:Nat} (h:k ≤ 1073741824) (e:b ≤ 65536):k * b ≤ 140737488355328 :=
 Aw (Nat.mul_le_mul h e) (by decide)

theorem Ox {P:Program} (w:Ae) (base:Nat) (t ty e:TypeId) (i:TypeInfo) (z:Ac) (f al:Nat) (ht:P.underlying t = some (.slice e)) (hi:P.info? e = some i) (hz:i.zero = some z)
  (a3:i.size = f) (ax:i.bytes = al) (ay:z.cells.size = f)
  (v:Ac) (n:Nat) (xs:List Ac) (ab:w.ownsRow base e f v n xs)
  (a:Addr) (m c:Nat) (h:List Ac) (s:h.length = m * f) (an:∀ (j:Nat) u,h[j]? = some u → w.cell? (a.add j) = some u) (h1:∀ u ∈ h,u.oneCell' = true)
  (au:n + m ≤ maxLen) (aq:(n + m) * al ≤ 140737488355328) (a9:base ≤ w.heap.size) :
  ∃ v' w',(Builtin.append_ #[t,t] ty #[v,.slice (some a) m c]).run P w = .ok v' w' ∧ w'.ownsRow base e f v' (n + m) (xs ++ h) ∧ w.grownBy w' v.ownBlock ∧
   (v'.ownBlock = v.ownBlock ∨ v'.ownBlock = some w.heap.size):=by
 subst a3
 subst ax
 have ba:n + m ≤ 9223372036854775807:=by simp only [maxLen] at au; omega
 have ag:(xs ++ h).length = (n + m) * i.size:=by rw [CM,ab.1,s,Nat.add_mul]
 have ao:∀ (l:Nat),l < n + m → ∀ (ap:Af Nat),
   (w.drew.alloc (.cells (xs.toArray ++ h.toArray ++ Builtin.zeroCells z.cells (grownCap w (n + m) l e - (n + m))) e)).ownsRow base e i.size
    (.slice (some ⟨w.heap.size,0,none⟩) (n + m) (grownCap w (n + m) l e)) (n + m) (xs ++ h) ∧
   w.grownBy (w.drew.alloc (.cells (xs.toArray ++ h.toArray ++ Builtin.zeroCells z.cells (grownCap w (n + m) l e - (n + m))) e)) ap:=by
  intro l ho ap
  have a5:=grownCap_ge w (n + m) l e
  have aj:grownCap w (n + m) l e ≤ maxLen:=grownCap_le_maxLen w (n + m) l e au
  refine ⟨⟨ag,.inr ⟨w.heap.size,_,_,rfl,a9,heap_alloc_new w.drew _,a5,aj,?_,?_⟩⟩,⟨rfl,rfl,rfl,by simp,fun k hk _=>Below.heap_alloc w.drew _ k hk⟩⟩
  ·simp only [Array.size_append,List.size_toArray,size_zeroCells,ay,ab.1,s,← Nat.add_mul]
   congr 1
   omega
  ·simp only [Array.toList_append,List.append_assoc]
   rw [← List.append_assoc,← ag]
   exact List.take_left
 rcases ab.2 with ⟨rfl,rfl⟩ | ⟨g,cap,ak,rfl,a6,hg,bc,aj,a1,a2⟩
 ·have hx:xs = []:=List.eq_nil_of_length_eq_zero (by simpa using ab.1)
  subst hx
  by_cases hm:m = 0
  ·subst hm
   have hn:h = []:=List.eq_nil_of_length_eq_zero (by simpa using s)
   subst hn
   refine ⟨.slice none 0 0,w,?_,World.ownsRow_nil w base e i.size,⟨rfl,rfl,rfl,Nat.le_refl _,fun _ _ _=>rfl⟩,.inl rfl⟩
   simp [Builtin.append_,run_underlying ht,sizeOf,typeInfo,hi,Builtin.lenOf,Builtin.firstCells,loadCells,loadCellsFrom]
  ·have hr:=run_append_nil (P:=P) w t ty e i z ht hi hz a m c h s an (by omega) (by omega) (by have hb:=aq; simp only [Nat.zero_add] at hb; omega)
   have aa:=ao 0 (by omega) (Value.ownBlock (.slice none 0 0))
   simp only [Nat.zero_add,List.nil_append,Array.empty_append] at aa ⊢
   exact ⟨_,_,hr,aa.1,aa.2,.inr rfl⟩
 ·by_cases ai:n + m ≤ cap
  ·have a4:n * i.size + h.length ≤ ak.size:=by rw [s,a1,← Nat.add_mul]; exact Nat.mul_le_mul_right _ ai
   have hr:=run_append_room (P:=P) w t ty e i ht hi g n cap ak hg a m c h s an h1 ai a4
   refine ⟨_,_,hr,⟨ag,.inr ⟨g,cap,_,rfl,a6,setRow_heap w g ak _ e _ hg,ai,aj,?_,?_⟩⟩,⟨rfl,rfl,rfl,by simp,fun k _ hk=>setRow_other w g k _ (fun e=>hk (by simp [Value.ownBlock,e]))⟩,.inl rfl⟩
   ·simp only [List.size_toArray,CM,List.length_take,List.length_drop,Array.length_toList]
    omega
   ·rw [a2,← ag]
    exact List.take_left
  ·have a0:∀ (j:Nat) u,xs[j]? = some u → w.cell? ((⟨g,0,none⟩:Addr).add j) = some u:=ab.cells (g:=g) rfl
   have hr:=run_append_grow (P:=P) w t ty e i z ht hi hz ⟨g,0,none⟩ n cap xs ab.1 a0 a m c h s an (by omega) (by omega) (growslice_fits (by omega) aq)
   have aa:=ao cap (by omega) (Value.ownBlock (.slice (some ⟨g,0,none⟩) n cap))
   exact ⟨_,_,hr,aa.1,aa.2,.inr rfl⟩
section
variable {n:Nat} {σ:E1} {w w0:Ae} {Q:Exit → Act → Ae → Prop} {L:List Res}
variable {ds:List (Af Tmp)} {d:Nat} {T U:TypeId} {pos:String} {af:Array Edge} {rest:List Oper} {x y z:Operand} {sz:Nat} {agg:Bool} {zv:Ac}
theorem Tc {e:Ty P α} {f:α → List Ac} (hf:Flat e f) (s:P.underlying U = some (.slice e.tid)) {base:Nat} {F:Al} {v v2:Ac} {l m r:List α} {S:Nat → Prop}
  (ho:ownS e F w v l) (hF:∀ b ∈ F,base ≤ b) (hm:rdS e S w v2 m) (ba:Ck l m = some r) (bj:base ≤ w.heap.size) :
  ∃ v' w' F',(Builtin.append_ #[U,U] T #[v,v2]).run P w = .ok v' w' ∧ ownS e F' w' v' r ∧ w.grownBy w' v.ownBlock ∧ F'.Nodup ∧ (∀ b ∈ F',b ∈ F ∨ (w.heap.size ≤ b ∧ b < w'.heap.size)) ∧ (∀ k,v.ownBlock = some k → k ∈ F):=by
 obtain ⟨rfl,bm⟩:=WY ba
 obtain ⟨i,zz,aj,bc,a3,hz,bl⟩:=e.info
 have ax:=fun x=>hf.len w x
 have az:w.ownsRow base e.tid e.sz v l.length (l.map f).flatten:=by
  refine ⟨MB f e.sz ax l,?_⟩
  rcases (Hg hf).1 ho with ⟨h1,h2,h3⟩ | ⟨g,cap,ah,h1,h2,h3,h4,h5,h6,h7⟩
  ·exact .inl ⟨h1,by rw [h2]; rfl⟩
  ·exact .inr ⟨g,cap,ah,h1,hF g (by rw [h7]; simp),h2,h3,h4,h5,h6⟩
 have al:∀ k,v.ownBlock = some k → k ∈ F:=by
  intro k hk
  rcases (Hg hf).1 ho with ⟨h1,h2,h3⟩ | ⟨g,cap,ah,h1,h2,h3,h4,h5,h6,h7⟩
  ·rw [h1] at hk; cases hk
  ·rw [h1] at hk
   simp [Value.ownBlock] at hk
   rw [h7,← hk]; simp
 have a9:zz.cells.size = e.sz:=by rw [bl]; simp; exact e.rd_len (e.own_rd (e.zero_own w))
 obtain ⟨a,cap,rfl,bn,hm⟩:=hm
 rcases hm with rfl | ⟨ad,rfl,bk⟩
 ·
  have a4:∃ w',(Builtin.append_ #[U,U] T #[v,.slice a ([]:List α).length cap]).run P w = .ok v w' ∧ w' = w:=by
   have hs:∀ xs,w.ownsRow base e.tid e.sz v l.length xs → (Builtin.append_ #[U,U] T #[v,.slice a 0 cap]).run P w = .ok v w:=by
    intro xs hx
    rcases hx.2 with ⟨rfl,hn⟩ | ⟨g,c,ah,rfl,hb,hg,hn,hm,hc,ht⟩
    ·cases a with
     | none=>simp [Builtin.append_,run_underlying s,sizeOf,typeInfo,aj,Builtin.lenOf,Builtin.firstCells,loadCells,loadCellsFrom]
     | some a=>simp [Builtin.append_,run_underlying s,sizeOf,typeInfo,aj,Builtin.lenOf,Builtin.firstCells,loadCells,loadCellsFrom]
    ·cases a with
     | none=>simp [Builtin.append_,run_underlying s,sizeOf,typeInfo,aj,Builtin.lenOf,Builtin.firstCells,loadCells,loadCellsFrom,hn,storeCells]
     | some a=>simp [Builtin.append_,run_underlying s,sizeOf,typeInfo,aj,Builtin.lenOf,Builtin.firstCells,loadCells,loadCellsFrom,hn,storeCells]
   exact ⟨w,hs _ az,rfl⟩
  obtain ⟨w',a6,rfl⟩:=a4
  refine ⟨v,w',F,a6,by simpa using ho,⟨rfl,rfl,rfl,Nat.le_refl _,fun _ _ _=>rfl⟩,?_,fun b hb=>.inl hb,al⟩
  rcases (Hg hf).1 ho with ⟨_,_,rfl⟩ | ⟨g,_,_,_,_,_,_,_,_,rfl⟩ <;> simp
 ·have bd:=ZY hf bk
  have a7:(l.length + m.length) * e.bts ≤ 140737488355328:=WR bm e.bts_le
  obtain ⟨v',w',hr,h2,h3,be⟩:=Ox (P:=P) w base U T e.tid i zz e.sz e.bts s aj hz bc a3 a9 v l.length _ az ad m.length cap (m.map f).flatten
   (MB f e.sz ax m) bd (fun u s=>by
    obtain ⟨c,hc,s⟩:=List.mem_flatten.1 s
    obtain ⟨x,_,rfl⟩:=List.mem_map.1 hc
    exact hf.ones w x u s) (by simp only [maxLen]; omega) a7 bj
  rcases h2.2 with ⟨rfl,hn⟩ | ⟨g,c,ah,rfl,hb,hg,hn,hm,hc,ht⟩
  ·have e1:l = []:=List.eq_nil_of_length_eq_zero (by omega)
   have e2:m = []:=List.eq_nil_of_length_eq_zero (by omega)
   subst e1; subst e2
   exact ⟨_,w',[],hr,.inl ⟨rfl,rfl,rfl⟩,h3,.nil,fun b hb=>(by cases hb),al⟩
  ·refine ⟨_,w',[g],hr,(Hg hf).2 (.inr ⟨g,c,ah,by simp,hg,by simpa using hn,hm,hc,by simpa using ht,rfl⟩),h3,by simp,fun b au=>?_,al⟩
   simp at au
   subst au
   rcases be with h | h
   ·exact .inl (al b (by rw [← h]; rfl))
   ·simp [Value.ownBlock] at h
    exact .inr ⟨by omega,(Array.getElem?_eq_some_iff.1 hg).1⟩
theorem UT {i:Nat} {e:Ty P α} {F F':Al} {v v':Ac} {l r:List α} {w':Ae} (s:Sep w0.heap.size w L) (m:Eo L i = some (Ab e F v l)) (g:Below w0.heap.size w0 w)
  (ho:ownS e F' w' v' r) (f:w.grownBy w' v.ownBlock) (ag:F'.Nodup) (hF:∀ b ∈ F',b ∈ F ∨ (w.heap.size ≤ b ∧ b < w'.heap.size)) (u:∀ k,v.ownBlock = some k → k ∈ F) :
  Below w0.heap.size w0 w' ∧ Sep w0.heap.size w' (Md L i (Ab e F' v' r)):=by
 have ac:=(s.get m).2.1
 refine ⟨g.grown f g.size fun k h=>(ac k (u k h)).1,s.upd m f.size (fun b _ ab hb=>f.block b ab fun e=>hb (u b e.symm)) ag hF g.size fun ai h=>?_⟩
 exact ho.keep h
theorem AF {e:Ty P α} {f:α → List Ac} (hf:Flat e f) {F:Al} {v v2:Ac} {l m r:List α} {S:Nat → Prop} {i:Nat} (hu:P.underlying U = some (.slice e.tid)) (hn:Nat.blt d n = true)
  (hx:B2 σ x = some v) (hy:B2 σ y = some v2) (hB:Below w0.heap.size w0 w) (u:Sep w0.heap.size w L) (hg:Eo L i = some (Ab e F v l)) (hm:rdS e S w v2 m) (ao:Ck l m = some r)
  (h:∀ s F' w',(w.heap.size ≤ w'.heap.size ∧ (∀ b,b < w.heap.size → b ∉ F → w'.heap[b]? = w.heap[b]?) ∧ ∀ b ∈ F',b ∈ F ∨ w.heap.size ≤ b) → Below w0.heap.size w0 w' → Sep w0.heap.size w' (Md L i (Ab e F' s r)) → WL P n ds rest ((d,s) :: σ) w' Q) :
  WL P n ds (⟨some d,.call ⟨.builtin .append,#[x,y],#[U,U]⟩,T,pos,af,none⟩ :: rest) σ w Q:=by
 obtain ⟨s,w',F',aj,ho,aa,aw,hF,ac⟩:=Tc (T:=T) hf hu (u.ok hg:ownS e F w v l) (fun b g=>((u.get hg).2.1 b g).1) hm ao hB.size
 obtain ⟨aq,au⟩:=UT u hg hB ho aa aw hF ac
 exact Cx hn (fun ρ hρ=>by simp [execOp,resolve,invoke,builtin,hρ _ _ hx,hρ _ _ hy,aj]) (h s F' w' ⟨aa.size,fun b ak g=>aa.block b ak fun e=>g (ac b e.symm),fun b g=>(hF b g).imp id fun h=>h.1⟩ aq au)
theorem X0 (vs:List Ac):∀ (cs:List Ac) (off k:Nat),off + k + vs.length ≤ cs.length →
  (vs.zipIdx k).foldl (fun (cs:Array Ac) (p:Ac × Nat)=>cs.setIfInBounds (off + p.2) p.1) cs.toArray = (Dp cs (off + k) vs).toArray:=by
 induction vs with
 | nil=>intro cs off k _; simp [Dp]
 | cons v r f =>
  intro cs off k h
  simp only [List.length_cons] at h
  rw [List.zipIdx_cons,List.foldl_cons]
  have e:=f (cs.set (off + k) v) off (k + 1) (by simp; omega)
  simp only [List.setIfInBounds_toArray]
  rw [e]
  congr 1
  unfold Dp
  have h1:(cs.set (off + k) v).take (off + (k + 1)) = cs.take (off + k) ++ [v]:=by
   rw [show off + (k + 1) = off + k + 1 by omega,List.take_succ_eq_append_getElem (by simp; omega),List.take_set,List.set_eq_of_length_le (by simp; omega)]
   simp
  rw [h1]
  simp only [List.append_assoc,List.singleton_append,List.cons_append,List.nil_append,List.length_cons]
  rw [List.drop_set_of_lt (by omega),show off + (k + 1) + r.length = off + k + (r.length + 1) by omega]
def ML (places:List (Nat × Nat)):List Ac → List (Nat × List Ac) → Af (List Ac)
 | cells,[]=>some cells
 | cells,(i,vs) :: rest =>
  match places[i]? with
  | none=>none
  | some (off,size)=>bif Nat.beq vs.length size && Nat.ble (off + vs.length) cells.length then ML places (Dp cells off vs) rest else none
theorem Uf (m:Nat → Af (Nat × Nat)) (l:List (Nat × Nat)) (hp:∀ i o s,l[i]? = some (o,s) → m i = some (o,s)):∀ (parts:List (Nat × Ac)) (ps:List (Nat × List Ac)) (e out:List Ac),
  (parts.map fun p=>(p.1,p.2.cells)) = (ps.map fun p=>(p.1,p.2.toArray)) → ML l e ps = some out → Instr.fill m e.toArray parts = some out.toArray
 | [],[],e,out,_,h=>by
  rw [ML] at h
  rw [Instr.fill,Option.some.inj h]
 | [],_ :: _,_,_,h,_=>by simp at h
 | _ :: _,[],_,_,h,_=>by simp at h
 | (i,v) :: parts,(j,vs) :: ps,e,out,g,h=>by
  simp only [List.map_cons,List.cons.injEq,Prod.mk.injEq] at g
  obtain ⟨⟨rfl,hv⟩,g⟩:=g
  rw [ML] at h
  cases aa:l[i]? with
  | none=>rw [aa] at h; cases h
  | some q =>
   obtain ⟨off,u⟩:=q
   rw [aa] at h
   simp only at h
   cases f:(Nat.beq vs.length u && Nat.ble (off + vs.length) e.length) with
   | false=>rw [f] at h; cases h
   | true =>
    rw [f] at h
    rw [Cg] at f
    have e1:=Nat.eq_of_beq_eq_true f.1
    have e2:=Nat.le_of_ble_eq_true f.2
    rw [Instr.fill,hp i off u aa]
    have ag:v.cells.size = vs.length:=by rw [hv]; simp
    simp only [ag]
    rw [if_neg (by simp [e1]; omega)]
    have hf:=X0 vs e off 0 (by omega)
    simp only [Nat.add_zero] at hf
    have e3:v.cells.zipIdx.foldl (fun (cs:Array Ac) (p:Ac × Nat)=>cs.setIfInBounds (off + p.2) p.1) e.toArray = (Dp e off vs).toArray:=by
     rw [← hf,← Array.foldl_toList,hv]
     simp
    exact (congrArg (fun c=>Instr.fill m c parts) e3).trans (Uf m l hp parts ps _ out g h)
end
end Go.Proofs.YtellehgihceicaaGreatDoor
namespace Go.Proofs.YtellehgihceicaaGreatDoor
open Go Go.RowKit
variable {P:Program} {α:Type}
section
variable {n:Nat} {σ:E1} {w w0:Ae} {Q:Exit → Act → Ae → Prop} {L:List Res}
variable {ds:List (Af Tmp)} {d:Nat} {T U:TypeId} {pos:String} {af:Array Edge} {rest:List Oper} {x y z:Operand} {sz:Nat} {agg:Bool} {zv:Ac}
def HK (P:Program) (U:TypeId) (places:List (Nat × Nat)):Bool :=
 match P.underlying U with
 | some (.struct fs)=>Nat.beq fs.size places.length && (places.zipIdx.all fun p=>match fs[p.2]? with
  | some f=>Nat.beq f.offset p.1.1 && (match P.info? f.type with
   | some i=>Nat.beq i.size p.1.2
   | none=>false)
  | none=>false)
 | _=>false
theorem UW {e:List (Nat × Nat)} (hp:HK P U e = true) (hz:∀ w,(zeroValue U).run P w = .ok zv w) {zs out:List Ac} (az:zv.cells = zs.toArray)
  {parts:List (Nat × Ac)} {ps:List (Nat × List Ac)} (al:(parts.map fun p=>(p.1,p.2.cells)) = (ps.map fun p=>(p.1,p.2.toArray))) (m:ML e zs ps = some out) (w:Ae) :
  (Instr.build U parts.toArray).run P w = .ok (.agg out.toArray) w:=by
 unfold HK at hp
 split at hp
 case h_2=>cases hp
 rename_i v hu
 rw [Cg] at hp
 obtain ⟨h1,h2⟩:=hp
 have aj:=Nat.eq_of_beq_eq_true h1
 have au:∀ (i o s:Nat),e[i]? = some (o,s) → ∃ (f:Field) (u:TypeInfo),v[i]? = some f ∧ f.offset = o ∧ P.info? f.type = some u ∧ u.size = s:=by
  intro i o s hi
  rw [List.all_eq_true] at h2
  have ao:((o,s),i) ∈ e.zipIdx:=by
   rw [List.mem_zipIdx_iff_getElem?]
   exact hi
  have:=h2 _ ao
  simp only at this
  cases m:v[i]? with
  | none=>rw [m] at this; cases this
  | some f =>
   rw [m] at this
   simp only [Cg] at this
   cases aa:P.info? f.type with
   | none=>rw [aa] at this; exact absurd this.2 (by simp)
   | some u =>
    rw [aa] at this
    exact ⟨f,u,rfl,Nat.eq_of_beq_eq_true this.1,aa,Nat.eq_of_beq_eq_true this.2⟩
 have ay:∀ (l:List Field) (k:Nat),(∀ i f,l[i]? = some f → v[k + i]? = some f) → (l.mapM fun (f:Field)=>(do pure (f.offset,← sizeOf f.type):Sem (Nat × Nat))).run P w = .ok ((e.drop k).take l.length) w:=by
  intro l
  induction l with
  | nil=>intro k _; simp
  | cons f l ih =>
   intro k hk
   have h0:=hk 0 f rfl
   simp only [Nat.add_zero] at h0
   have ag:k < e.length:=by rw [← aj]; exact (Array.getElem?_eq_some_iff.1 h0).1
   obtain ⟨f',u,ah,ho,aa,hs⟩:=au k e[k].1 e[k].2 (by simp [ag])
   rw [h0] at ah
   cases ah
   have ad:=ih (k + 1) (fun i g hg=>by have:=hk (i + 1) g (by simpa using hg); rwa [show k + 1 + i = k + (i + 1) by omega])
   rw [List.mapM_cons]
   simp only [Sem.run_bind,sizeOf,typeInfo,run_program,Result.andThen_ok,aa,Sem.run_pure] at ad ⊢
   rw [ad]
   simp only [Result.andThen_ok,Sem.run_pure]
   congr 1
   rw [List.drop_eq_getElem_cons ag,List.length_cons,List.take_succ_cons]
   simp [ho,hs]
 have am:(v.mapM fun (f:Field)=>(do pure (f.offset,← sizeOf f.type):Sem (Nat × Nat))).run P w = .ok e.toArray w:=by
  have h:=ay v.toList 0 (fun i f m=>by simpa using m)
  rw [Array.mapM_eq_mapM_toList]
  simp only [Sem.run_map,h,Result.andThen_ok]
  congr 1
  simp [aj]
 have ax:=Uf (e.toArray[·]?) e (fun i o s h=>by simpa using h) parts ps zs out al m
 unfold Instr.build
 simp only [Sem.run_bind,hz,Result.andThen_ok,Sem.run_pure,run_underlying hu,am,az,ax]
theorem Se {ρ:Operand → Ac} (h:∀ x v,B2 σ x = some v → ρ x = v):∀ (parts:List (Nat × Operand)) (vs:List Ac) (css:List (List Ac)),(parts.map fun p=>B2 σ p.2) = vs.map some → vs.map (·.cells) = css.map (·.toArray) →
  ((parts.map fun p=>(p.1,ρ p.2)).map fun p=>(p.1,p.2.cells)) = (((parts.map (·.1)).zip css).map fun p=>(p.1,p.2.toArray)):=by
 intro parts
 induction parts with
 | nil=>intro vs css _ _; simp
 | cons p parts g =>
  intro vs css f e
  cases vs with
  | nil=>simp at f
  | cons v vs =>
   cases css with
   | nil=>simp at e
   | cons cs css =>
    simp only [List.map_cons,List.cons.injEq,List.zip_cons_cons,Prod.mk.injEq,true_and] at f e ⊢
    exact ⟨by rw [h _ _ f.1]; exact e.1,g vs css f.2 e.2⟩
theorem DV {e:List (Nat × Nat)} {zs out:List Ac} {parts:List (Nat × Operand)} {vs:List Ac} {css:List (List Ac)} (m:TF P U sz agg zv) (u:HK P U e = true) (f:Nat.blt d n = true)
  (hx:(parts.map fun p=>B2 σ p.2) = vs.map some) (g:vs.map (·.cells) = css.map (·.toArray)) (v:zv.cells = zs.toArray) (s:ML e zs ((parts.map (·.1)).zip css) = some out)
  (h:WL P n ds rest ((d,.agg out.toArray) :: σ) w Q):WL P n ds (⟨some d,.build U parts.toArray,T,pos,af,none⟩ :: rest) σ w Q:=by
 refine Cx f (fun ρ l=>?_) h
 have:=UW (zv:=zv) u m.hzero v (parts:=parts.map fun p=>(p.1,ρ p.2)) (ps:=(parts.map (·.1)).zip css) (Se l parts vs css hx g) s w
 simp only [execOp,List.map_toArray,Sem.run_bind,this,Result.andThen_ok,Sem.run_pure]
theorem Ce {v:Ac} (h:v.oneCell' = true):v.cells = #[v]:=by
 cases v <;> first | rfl | cases h
theorem Pl (zs:List Ac) (n:Nat):(madeCells zs.toArray (n * zs.length)).toList = (List.replicate n zs).flatten:=by
 apply List.ext_getElem?
 intro j
 simp only [madeCells,Array.toList_map,Array.toList_range,List.getElem?_map,List.size_toArray]
 by_cases e:j < n * zs.length
 ·have g:0 < zs.length:=by
   rcases Nat.eq_zero_or_pos zs.length with h | h
   ·rw [h] at e; simp at e
   ·exact h
  have m:j / zs.length < n:=(Nat.div_lt_iff_lt_mul g).2 e
  have l:j % zs.length < zs.length:=Nat.mod_lt _ g
  have:=OV (cs:=List.replicate n zs) (sz:=zs.length) (fun c f=>by rw [List.eq_of_mem_replicate f]) (j / zs.length) (j % zs.length) zs (by simp [List.getElem?_replicate,m]) (zs[j % zs.length]) (by simp [l])
  rw [show j / zs.length * zs.length + j % zs.length = j by rw [Nat.mul_comm]; exact Nat.div_add_mod j zs.length] at this
  rw [this]
  simp [e,l,List.getElem?_range]
 ·have s:((List.replicate n zs).flatten).length = n * zs.length:=by rw [Kw (sz:=zs.length) (fun c f=>by rw [List.eq_of_mem_replicate f])]; simp
  rw [show ((List.replicate n zs).flatten)[j]? = none from List.getElem?_eq_none (by rw [s]; omega)]
  simp [List.getElem?_range,e]
theorem Aam {sz:Nat}:∀ (css:List (List Ac)) (k m:Nat) (done e:List Ac),(∀ c ∈ css,c.length = sz) → done.length = k * sz → e.length = css.length * sz → k + css.length ≤ m →
  ML ((List.range m).map fun i=>(i * sz,sz)) (done ++ e) ((List.range' k css.length).zip css) = some (done ++ css.flatten):=by
 intro css
 induction css with
 | nil=>intro k m done e _ _ f _; simp at f; subst f; simp [ML]
 | cons c css v =>
  intro k m done e s l f u
  simp only [List.length_cons] at f u
  have g:=s c (by simp)
  have ae:sz ≤ e.length:=by rw [f,Nat.succ_mul]; omega
  rw [List.length_cons,List.range'_succ,List.zip_cons_cons,ML]
  have hp:((List.range m).map fun i=>(i * sz,sz))[k]? = some (k * sz,sz):=by simp [List.getElem?_range (show k < m by omega)]
  rw [hp]
  have e1:Nat.beq c.length sz = true:=by rw [g]; exact Nat.beq_refl sz
  have e2:Nat.ble (k * sz + c.length) (done ++ e).length = true:=by rw [Nat.ble_eq,CM,l,g]; omega
  simp only [e1,e2,Bool.and_self,cond_true]
  have e3:Dp (done ++ e) (k * sz) c = (done ++ c) ++ e.drop sz:=by
   unfold Dp
   rw [← l,List.take_left,List.drop_append,g]
   simp
  rw [e3,v (k + 1) m (done ++ c) (e.drop sz) (fun c' h=>s c' (by simp [h])) (by rw [CM,l,g,Nat.succ_mul]) (by rw [List.length_drop,f,Nat.succ_mul]; omega) (by omega)]
  simp
theorem M6 {e:Ty P α} (hu:P.underlying U = some (.slice e.tid)) {parts:List (Nat × Ac)} {css:List (List Ac)} (ac:(parts.map fun p=>(p.1,p.2.cells)) = ((List.range css.length).zip css).map fun p=>(p.1,p.2.toArray))
  (g:∀ c ∈ css,c.length = e.sz) (ag:css.length * e.sz ≤ 16777216) (w:Ae) :
  (Instr.buildSlice U css.length parts.toArray).run P w = .ok (.slice (some ⟨w.heap.size,0,none⟩) css.length css.length) (w.alloc (.cells css.flatten.toArray e.tid)):=by
 obtain ⟨i,zz,f,v,am,hz,al⟩:=e.info
 have m:e.zero.length = e.sz:=e.rd_len (e.own_rd (e.zero_own w))
 have ai:Instr.fill (fun i=>some (i * e.sz,e.sz)) (madeCells zz.cells (css.length * e.sz)) parts = some css.flatten.toArray:=by
  have e0:madeCells zz.cells (css.length * e.sz) = ((List.replicate css.length e.zero).flatten).toArray:=by
   apply Array.toList_inj.1
   rw [al,← m,Pl]
  rw [e0]
  refine Uf _ ((List.range css.length).map fun i=>(i * e.sz,e.sz)) (fun i o s h=>?_) parts ((List.range css.length).zip css) _ _ ac ?_
  ·rw [List.getElem?_map] at h
   rcases Nat.lt_or_ge i css.length with l | l
   ·rw [List.getElem?_range l] at h
    simpa using h
   ·rw [List.getElem?_eq_none (by simpa using l)] at h
    cases h
  ·have h:=Aam (sz:=e.sz) css 0 css.length [] ((List.replicate css.length e.zero).flatten) g (by simp) (by rw [Kw (sz:=e.sz) (fun c g=>by rw [List.eq_of_mem_replicate g]; exact m)]; simp) (by omega)
   simpa [List.range_eq_range'] using h
 unfold Instr.buildSlice
 by_cases u:css.length * e.sz = 0
 ·have aj:css = []:=by
   rcases Nat.mul_eq_zero.1 u with h | h
   ·exact List.eq_nil_of_length_eq_zero h
   ·exact absurd h (Nat.ne_of_gt e.sz_pos)
  subst aj
  have ak:parts = []:=by simpa using ac
  subst ak
  simp [run_underlying hu,sizeOf,typeInfo,f,v,Instr.fill,newRow,Array.range_zero']
 ·simp only [Sem.run_bind,run_underlying hu,Result.andThen_ok,sizeOf,typeInfo,run_program,f,Sem.run_pure,v]
  rw [if_neg (by simpa using ag)]
  simp only [u,if_false,Sem.run_bind,zeroValue,typeInfo,run_program,Result.andThen_ok,f,hz,Sem.run_pure]
  have ad:=ai
  unfold madeCells at ad
  rw [ad]
  simp [newRow]
theorem Bc {e:Ty P α} {f:α → List Ac} (hf:Flat e f) {parts:List (Nat × Operand)} {vs:List Ac} {l:List α} {k:Nat} (hu:P.underlying U = some (.slice e.tid)) (hn:Nat.blt d n = true)
  (hk:l.length = k) (al:parts.map (·.1) = List.range k) (hx:(parts.map fun p=>B2 σ p.2) = vs.map some) (hc:vs.map (·.cells) = l.map fun u=>(f u).toArray) (aj:Nat.ble (k * e.sz) 65536 = true)
  (hB:Below w0.heap.size w0 w) (hS:Sep w0.heap.size w L)
  (h:∀ v F w',Below w.heap.size w w' → Below w0.heap.size w0 w' → Sep w0.heap.size w' (Ab e F v l :: L) → WL P n ds rest ((d,v) :: σ) w' Q) :
  WL P n ds (⟨some d,.buildSlice U k parts.toArray,T,pos,af,none⟩ :: rest) σ w Q:=by
 have ab:=fun x=>hf.len w x
 have av:=Nat.le_of_ble_eq_true aj
 refine Cx (w':=w.alloc (.cells (l.map f).flatten.toArray e.tid)) (v:=.slice (some ⟨w.heap.size,0,none⟩) l.length l.length) hn (fun ρ hρ=>?_)
  (h _ [w.heap.size] _ (EO w _) (hB.trans ((EO w _).mono hB.size)) (hS.push (EO w _) (by simp [Ab]) (fun b s=>by simp [Ab] at s; subst s; simp) hB.size fun au ai=>?_))
 ·have ak:∀ (parts:List (Nat × Operand)) (vs:List Ac) (l:List α) (m:Nat),parts.map (·.1) = List.range' m l.length → (parts.map fun p=>B2 σ p.2) = vs.map some → vs.map (·.cells) = l.map (fun u=>(f u).toArray) →
    ((parts.map fun p=>(p.1,ρ p.2)).map fun p=>(p.1,p.2.cells)) = (((List.range' m l.length).zip (l.map f)).map fun p=>(p.1,p.2.toArray)):=by
   intro parts
   induction parts with
   | nil =>
    intro vs l m h1 _ _
    cases l with
    | nil=>rfl
    | cons _ _=>simp [List.range'_succ] at h1
   | cons p parts ih =>
    intro vs l m h1 g h3
    cases l with
    | nil=>simp at h1
    | cons u l =>
     cases vs with
     | nil=>simp at g
     | cons v vs =>
      simp only [List.map_cons,List.cons.injEq,List.length_cons,List.range'_succ,List.zip_cons_cons,Prod.mk.injEq] at h1 g h3 ⊢
      exact ⟨⟨h1.1,by rw [hρ _ _ g.1]; exact h3.1⟩,ih vs l (m + 1) h1.2 g.2 h3.2⟩
  have s:=M6 (P:=P) hu (parts:=parts.map fun p=>(p.1,ρ p.2)) (css:=l.map f) (by
    have:=ak parts vs l 0 (by rw [al,hk,List.range_eq_range']) hx hc
    simpa [List.range_eq_range'] using this) (fun c hc=>by obtain ⟨u,_,rfl⟩:=List.mem_map.1 hc; exact ab u) (by simp [hk]; omega) w
  simp only [List.length_map,hk] at s
  simp only [execOp,List.map_toArray,Sem.run_bind,s,Result.andThen_ok,Sem.run_pure,hk]
 ·have hh:=ai w.heap.size (by simp [Ab])
  refine (Hg hf).2 (.inr ⟨w.heap.size,l.length,_,rfl,by rw [hh,heap_alloc_new],Nat.le_refl _,?_,?_,?_,rfl⟩)
  ·simp only [maxLen]
   have:=e.sz_pos
   have g:k ≤ k * e.sz:=Nat.le_mul_of_pos_right k this
   omega
  ·simp [MB f e.sz ab l]
  ·rw [List.toList_toArray,List.take_of_length_le (by rw [MB f e.sz ab l]; exact Nat.le_refl _)]
theorem Q3 {A B C:Type} {R:A → B → C → Prop} {a:A} {b:B} {c:C} (h:R a b c):∀ n,Z3 R (List.replicate n a) (List.replicate n b) (List.replicate n c)
 | 0=>trivial
 | n + 1=>⟨h,Q3 h n⟩
theorem N4 {e:Ty P α} {k:IntKind} {m:Int} {l:List α} (hu:P.underlying U = some (.slice e.tid)) (hn:Nat.blt d n = true) (hx:B2 σ x = some (.int k m)) (f:RY m e.dflt = some l)
  (s:Below w0.heap.size w0 w) (hS:Sep w0.heap.size w L)
  (h:∀ v F w',Below w.heap.size w w' → Below w0.heap.size w0 w' → Sep w0.heap.size w' (Ab e F v l :: L) → WL P n ds rest ((d,v) :: σ) w' Q) :
  WL P n ds (⟨some d,.makeSlice U x x,T,pos,af,none⟩ :: rest) σ w Q:=by
 unfold RY at f
 split at f
 case isFalse=>cases f
 rename_i g
 have ar:=(Option.some.inj f).symm
 subst ar
 obtain ⟨i,zz,ai,am,ae,hz,au⟩:=e.info
 have al:e.zero.length = e.sz:=e.rd_len (e.own_rd (e.zero_own w))
 have u:=run_make (P:=P) w U e.tid i zz hu ai hz k k m m g.1 (Int.le_refl _) (by
  rw [ae]
  have h1:(e.bts:Int) ≤ 65536:=by have:=e.bts_le; omega
  have h2:(e.bts:Int) * m ≤ 65536 * 1073741824:=Int.mul_le_mul h1 g.2 g.1 (by omega)
  omega) (by omega)
 rw [am,au] at u
 refine Cx (w':=w.alloc (.cells (madeCells e.zero.toArray (m.toNat * e.sz)) e.tid)) (v:=.slice (some ⟨w.heap.size,0,none⟩) m.toNat m.toNat) hn (fun ρ hρ=>by simp [execOp,hρ _ _ hx,u])
  (h _ [w.heap.size] _ (EO w _) (s.trans ((EO w _).mono s.size)) (hS.push (EO w _) (by simp [Ab]) (fun b hb=>by simp [Ab] at hb; subst hb; simp) s.size fun aa ad=>?_))
 have hh:=ad w.heap.size (by simp [Ab])
 refine .inr ⟨w.heap.size,m.toNat,_,List.replicate m.toNat e.zero,List.replicate m.toNat [],by simp,by rw [hh,heap_alloc_new],by simp,by simp only [maxLen]; omega,by simp [madeCells],?_,Q3 (R:=fun F cs x=>e.own F aa cs x) (a:=[]) (e.zero_own aa) _,?_⟩
 ·rw [← al,Pl,List.length_replicate,List.take_of_length_le]
  rw [Kw (sz:=e.zero.length) (fun c hc=>by rw [List.eq_of_mem_replicate hc])]
  simp
 ·have:(List.replicate m.toNat ([]:Al)).flatten = []:=by induction m.toNat <;> simp_all [List.replicate_succ]
  rw [this]
def OPtr (sz:Nat) (v:Ac) (p:Addr) (k o:Nat):Prop:=∃ g c m,v = .slice (some ⟨g,0,none⟩) c m ∧ p = ⟨g,k * sz + o,none⟩
theorem OPtr.add {sz:Nat} {v:Ac} {p:Addr} {k o:Nat} (h:OPtr sz v p k o) (j:Nat):OPtr sz v (p.add j) k (o + j):=by
 obtain ⟨g,c,m,h1,rfl⟩:=h
 exact ⟨g,c,m,h1,by rw [Addr.add_lit,Nat.add_assoc]⟩
theorem Cw {e:Ty P α} {F:Al} {v:Ac} {l:List α} {k:IntKind} {f:Int} {u:α} {i:Nat} (hu:P.underlying U = some (.slice e.tid)) (hn:Nat.blt d n = true)
  (hx:B2 σ x = some v) (hy:B2 σ y = some (.int k f)) (hS:Sep w0.heap.size w L) (hg:Eo L i = some (Ab e F v l)) (hi:AM l f = some u)
  (h:∀ p cs,e.rd (· < w.heap.size) w cs u → EAt (· < w.heap.size) w p cs → OPtr e.sz v p f.toNat 0 → WL P n ds rest ((d,.pointer (some p)) :: σ) w Q):WL P n ds (⟨some d,.indexAddr U x y,T,pos,af,none⟩ :: rest) σ w Q:=by
 have ho:ownS e F w v l:=hS.ok hg
 have hr:=hS.own_ro hg
 obtain ⟨h0,hl,aa⟩:=MA hi
 rcases ho with ⟨_,rfl,_⟩ | ⟨g,cap,a1,css,Fs,hv,bb,az,hm,hc,ht,hz,hF⟩
 ·simp at aa
 ·subst hv
  obtain ⟨a,a3,he,a7,s⟩:=hr
  injection he with m bc a6
  rcases s with rfl | ⟨ad,rfl,s⟩
  ·simp at aa
  ·injection m with m
   subst m
   obtain ⟨ii,zz,ap,aq,_⟩:=e.info
   obtain ⟨hb,cs,al,aj⟩:=s _ _ hl
   have ah:0 ≤ f ∧ f < (l.length:Int):=⟨h0,by omega⟩
   refine Cx hn (fun ρ hρ=>?_) (h _ cs al ⟨hb,aj⟩ ⟨g,_,_,rfl,by rw [Addr.add_lit,Nat.zero_add,Nat.add_zero]⟩)
   simp [execOp,hρ _ _ hx,hρ _ _ hy,Instr.indexAt,asIntOf,run_underlying hu,sizeOf,typeInfo,ap,aq,ah]
theorem Ue {sz:Nat} {css:List (List Ac)} (f:∀ c ∈ css,c.length = sz):∀ (k o:Nat) (vs c:List Ac),css[k]? = some c → o + vs.length ≤ sz →
  Dp css.flatten (k * sz + o) vs = (css.set k (Dp c o vs)).flatten:=by
 induction css with
 | nil=>intro k o vs c h _; simp at h
 | cons d r g =>
  intro k o vs c e m
  have s:d.length = sz:=f d (by simp)
  cases k with
  | zero =>
   simp at e
   subst e
   simp only [Nat.zero_mul,Nat.zero_add,List.set_cons_zero,List.flatten_cons,Dp]
   rw [List.take_append_of_le_length (by omega),List.drop_append_of_le_length (by omega)]
   simp
  | succ k =>
   simp at e
   have:=g (fun c l=>f c (by simp [l])) k o vs c e m
   simp only [List.set_cons_succ,List.flatten_cons]
   rw [← this]
   unfold Dp
   rw [show (k + 1) * sz + o = d.length + (k * sz + o) by rw [s,Nat.succ_mul]; omega,List.take_length_add_append,show d.length + (k * sz + o) + vs.length = d.length + (k * sz + o + vs.length) by omega,List.drop_length_add_append]
   simp
theorem BT {e:Ty P α} {f:α → List Ac} (hf:Flat e f) {F:Al} {v vx:Ac} {l:List α} {u u':α} {i o:Nat} {m:Int} {p:Addr} {vs:List Ac} (tf:TF P U sz agg zv)
  (hx:B2 σ x = some (.pointer (some p))) (hy:B2 σ y = some vx) (hv:vx.cells = vs.toArray) (a6:vs.length = sz) (hp:OPtr e.sz v p m.toNat o) (hi:AM l m = some u)
  (hB:Below w0.heap.size w0 w) (hS:Sep w0.heap.size w L) (hg:Eo L i = some (Ab e F v l)) (aw:Nat.ble (o + vs.length) e.sz = true) (h1:Ones vs) (a1:Dp (f u) o vs = f u')
  (h:∀ w',(w.heap.size ≤ w'.heap.size ∧ (∀ b,b < w.heap.size → b ∉ F → w'.heap[b]? = w.heap[b]?) ∧ ∀ b ∈ F,b ∈ F ∨ w.heap.size ≤ b) → Below w0.heap.size w0 w' → Sep w0.heap.size w' (Md L i (Ab e F v (BG l m u'))) → WL P n ds rest σ w' Q) :
  WL P n ds (⟨none,.store U x y,T,pos,af,none⟩ :: rest) σ w Q:=by
 have ho:ownS e F w v l:=hS.ok hg
 have a7:=(hS.get hg).2.1
 obtain ⟨h0,hl,al⟩:=MA hi
 have ax:=Nat.le_of_ble_eq_true aw
 rcases (Hg hf).1 ho with ⟨_,rfl,_⟩ | ⟨g,cap,aa,an,ap,aj,hm,hc,ht,hF⟩
 ·simp at al
 ·obtain ⟨g',c',m',am,rfl⟩:=hp
  rw [an] at am
  injection am with ha _ _
  injection ha with ha
  injection ha with ha _ _
  subst ha
  have az:=fun x=>hf.len w x
  have a5:(m.toNat + 1) * e.sz ≤ aa.size:=by rw [hc]; exact Nat.mul_le_mul_right _ (by omega)
  rw [Nat.succ_mul] at a5
  have au:=(a7 g (by rw [hF]; simp [Ab])).1
  have bc:=MS (P:=P) w g (m.toNat * e.sz + o) e.tid U aa.toList vs vx hv (fun w=>by rw [a6]; exact tf.hsize w) (by simpa using ap) (by simp; omega) h1
  have ao:∀ b,b ≠ g → (w.setRow g (Dp aa.toList (m.toNat * e.sz + o) vs).toArray).heap[b]? = w.heap[b]?:=fun b s=>setRow_other w g b _ s
  refine Aca (w':=w.setRow g (Dp aa.toList (m.toNat * e.sz + o) vs).toArray) (fun ρ hρ=>?_)
   (h _ ⟨by simp,fun b _ s=>ao b fun e=>s (by rw [hF,e]; simp),fun b s=>.inl s⟩ (hB.trans (QF w g _ au)) (hS.upd hg (by simp) (fun b _ _ s=>ao b fun e=>s (by rw [hF,e]; simp [Ab])) (by rw [hF]; simp [Ab]) (fun b s=>.inl s) hB.size fun bf hk=>?_))
  ·simp [execOp,hρ _ _ hx,hρ _ _ hy,Instr.storeAt,Instr.sureAddr,bc]
  ·have hh:=hk g (by rw [hF]; simp [Ab])
   refine (Hg hf).2 (.inr ⟨g,cap,_,by simpa [BG] using an,by rw [hh,setRow_heap w g aa _ e.tid _ ap],by simpa [BG] using aj,hm,?_,?_,hF⟩)
   ·rw [List.size_toArray,Yd (by simp; omega)]
    simpa using hc
   ·have ak:=Ue (sz:=e.sz) (css:=l.map f) (fun c hc=>by obtain ⟨x,_,rfl⟩:=List.mem_map.1 hc; exact az x) m.toNat o vs (f u) (by simp [hl]) ax
    rw [a1,← List.map_set] at ak
    simp only [BG]
    rw [← ak,← ht,List.toList_toArray,List.length_set]
    have bg:m.toNat * e.sz + o + vs.length ≤ l.length * e.sz:=by
     have:(m.toNat + 1) * e.sz ≤ l.length * e.sz:=Nat.mul_le_mul_right _ al
     rw [Nat.succ_mul] at this
     omega
    unfold Dp
    rw [List.take_append,List.take_append,List.length_take,List.take_take,List.drop_take]
    have bh:l.length * e.sz ≤ aa.toList.length:=by simp [hc]; exact Nat.mul_le_mul_right _ aj
    rw [Nat.min_eq_left (by omega:m.toNat * e.sz + o ≤ aa.toList.length),List.take_take,List.take_of_length_le (l:=vs) (by omega)]
    rw [Nat.min_eq_right (by omega),Nat.min_eq_left (by omega)]
    congr 2
    congr 1
    omega
theorem Acd {xs f:Array Ac} {b:Bool} {TB:TypeId} (l:P.eqGuardType P.depth U = false) (s:∀ w,(Op.equalIn 10000 U (.agg xs) (.agg f)).run P w = .ok b w) (g:Nat.blt d n = true)
  (u:B2 σ x = some (.agg xs)) (m:B2 σ y = some (.agg f)) (h:WL P n ds rest ((d,.bool b) :: σ) w Q):WL P n ds (⟨some d,.binOp .eql U x y TB,T,pos,af,none⟩ :: rest) σ w Q :=
 Cx g (fun ρ e=>by simp [execOp,e _ _ u,e _ _ m,run_eqGuard_agg w _ _ _ _ _ _ l,run_eql_struct,s]) h
def WC (tmps:Array Ac):ResultVar → Sem Ac
 | .tmp t=>pure (tmps.getD t undef)
 | .cell ad T=>do loadVar T (← asAddr (tmps.getD ad undef))
def RV (P:Program) (n:Nat) (σ:E1) (w:Ae) (rv:ResultVar) (v:Ac):Prop :=
 ∀ a,St n σ a → (WC a.tmps rv).run P w = .ok v w
theorem Jk {t:Tmp} {v:Ac} (h:Gv σ t = some v):RV P n σ w (.tmp t) v:=fun a e=>by
 simp [WC,e.get t v h]
theorem Ha {t:Tmp} {v:Ac} {b i:Nat} {V:TypeId} {cs vs:List Ac} (e:TF P U sz agg zv) (h:Gv σ t = some (.pointer (some ⟨b,0,none⟩))) (m:Sep w0.heap.size w L) (f:Eo L i = some (A5 b V cs)) (l:KK cs 0 sz = some vs) (u:pk agg vs = v) :
  RV P n σ w (.cell t U) v:=fun a s=>by
 have g:w.heap[b]? = some (.cells cs.toArray V (0,0)):=m.ok f
 have hl:=HZ (w:=w) e ⟨b,0,none⟩ cs vs (by simpa using O8 (o:=0) g) l e.one
 rw [← u]
 simp [WC,s.get t _ h,asAddr,hl]
theorem YV {e:Func} (f:Array Ac) (w:Ae):(results e f).run P w = ((e.results.mapM (WC f)).run P w).andThen fun vs w'=>.ok (if h:vs.size = 1 then vs[0] else .tuple vs) w':=by
 unfold results
 rw [Sem.run_bind]
 rfl
theorem Zn (e:Array Ac) (w:Ae):∀ (rs:List ResultVar) (vs:List Ac),rs.length = vs.length → (∀ (i:Nat) r v,rs[i]? = some r → vs[i]? = some v → (WC e r).run P w = .ok v w) → (rs.mapM (WC e)).run P w = .ok vs w
 | [],[],_,_=>by simp
 | r :: rs,v :: vs,hl,h=>by
  rw [List.mapM_cons]
  have m:=h 0 r v rfl rfl
  have f:=Zn e w rs vs (by simpa using hl) fun i r v l g=>h (i + 1) r v (by simpa using l) (by simpa using g)
  simp only [Sem.run_bind,m,f,Result.andThen_ok,Sem.run_pure]
 | [],_ :: _,hl,_=>by simp at hl
 | _ :: _,[],hl,_=>by simp at hl
def PE:List Ac → Ac
 | [v]=>v
 | vs=>.tuple vs.toArray
def RVs (P:Program) (n:Nat) (σ:E1) (w:Ae):List ResultVar → List Ac → Prop
 | [],[]=>True
 | r :: rs,v :: vs=>RV P n σ w r v ∧ RVs P n σ w rs vs
 | _,_=>False
theorem RVs.get:∀ {rs:List ResultVar} {vs:List Ac},RVs P n σ w rs vs → rs.length = vs.length ∧ ∀ (i:Nat) r v,rs[i]? = some r → vs[i]? = some v → RV P n σ w r v
 | [],[],_=>⟨rfl,fun i r v h=>by simp at h⟩
 | r :: rs,v :: vs,h=>by
  obtain ⟨h1,g⟩:=RVs.get h.2
  refine ⟨by simp [h1],fun i r' l f e=>?_⟩
  cases i with
  | zero =>
   simp at f e
   subst f; subst e
   exact h.1
  | succ i=>exact g i r' l (by simpa using f) (by simpa using e)
 | [],_ :: _,h=>h.elim
 | _ :: _,[],h=>h.elim
theorem IM {f:Func} {R:Ending → Ae → Prop} {rs:List ResultVar} {vs:List Ac} {Q:Exit → Act → Ae → Prop} (l:∀ a w,bodyPost P f R .ret a w → Q .ret a w) (e:f.results = rs.toArray) (h0:RVs P n σ w rs vs) (h:R (.returned (PE vs)) w) :
  ∀ a,St n σ a → Q .ret a w:=fun a g=>l _ _ (by
 refine ⟨g.defs,PE vs,?_,h⟩
 obtain ⟨h1,h2⟩:=h0.get
 have m:=Zn (P:=P) a.tmps w rs vs h1 fun i r v e s=>h2 i r v e s a g
 rw [YV,e]
 have:(rs.toArray.mapM (WC a.tmps)).run P w = .ok vs.toArray w:=by
  rw [Array.mapM_eq_mapM_toList]
  simp only [Sem.run_map,List.toList_toArray,m,Result.andThen_ok]
 rw [this,Result.andThen_ok]
 congr 1
 cases vs with
 | nil=>simp [PE]
 | cons v r =>
  cases r with
  | nil=>simp [PE]
  | cons u r=>simp [PE])
end
def IX (Q:Exit → Act → Ae → Prop):Prop:=∀ c a (d:Af Tmp) v w,Q (.panic c) (Act.put a d v) w → Q (.panic c) a w
theorem G4 {f:FuncId} {e:Func} {c:Code} {g:List Ac} {w:Ae} {R:Ending → Ae → Prop} {n:Nat}
  (m:P.funcs[f]? = some e) (s:e.body = some c) (l:e.ntmps = n) (hl:g.length + (n - g.length) = n) {σ:E1} (u:σ = g.zipIdx.map (fun p=>(p.2,p.1)))
  (h:∀ Q:Exit → Act → Ae → Prop,(∀ a w,bodyPost P e R .ret a w → Q .ret a w) → IX Q → W P n c σ w Q):Calls P f g.toArray w R :=
 WQ m s l hl u (h _ (fun _ _ h=>h) fun c a d v w h=>by cases d <;> exact h)
theorem AU {n:Nat} {σ:E1} {w:Ae} {Q:Exit → Act → Ae → Prop} {c:Code} (I:Nat → Act → Ae → Prop) (f:Nat) (u:∀ a,St n σ a → I f a w)
  (s:∀ m a w,I m a w → ∀ KL:Act → Ae → Prop,(∀ a' w' e,e < m → I e a' w' → KL a' w') → c.wp P (Exit.then KL Q) a w):W P n (.loop c) σ w Q :=
 Ads I f u fun m a w h=>s m a w h _ fun _ _ e g l=>⟨e,g,l⟩
theorem BE {n:Nat} {σ:E1} {w:Ae} {Q:Exit → Act → Ae → Prop} {c:Code} {a:Act} (h:W P n c σ w Q) (e:St n σ a):c.wp P Q a w:=h a e
theorem Sep.join {base:Nat} {w w':Ae} {L M:List Res} (h:Sep base w L) (f:Below w.heap.size w w') (g:Sep w.heap.size w' M) (u:base ≤ w.heap.size):Sep base w' (M ++ L):=by
 have l:=h.below f
 refine ⟨fun r e=>?_,List.pairwise_append.2 ⟨g.2,l.2,fun r e s v b f m=>?_⟩⟩
 ·rcases AX.1 e with e | e
  ·have:=g.1 r e
   exact ⟨this.1,fun b f=>⟨Aw u (this.2.1 b f).1,(this.2.1 b f).2⟩,this.2.2⟩
  ·exact l.1 r e
 ·have h1:=((g.1 r e).2.1 b f).1
  have h2:=((h.1 s v).2.1 b m).2
  omega
theorem Ad6 {α β:Type} {o:Af α} {f:α → Af β} {r:β} (h:Option.bind o f = some r):∃ a,o = some a ∧ f a = some r:=by
 cases o with
 | none=>cases h
 | some a=>exact ⟨a,rfl,h⟩
theorem Bg {α:Type} {r:α} {C:Prop} (h:none = some r):C:=by cases h
theorem Cj {A R:Type} {rest:A → Af R} {e:(A → Af R) → Af R} {r:R} (h:Bk rest e = some r):∃ k,k = rest ∧ e k = some r:=⟨_,rfl,h⟩
theorem Nn {A B R:Type} {rest:A → B → Af R} {e:(A → B → Af R) → Af R} {r:R} (h:Gk rest e = some r):∃ k,k = rest ∧ e k = some r:=⟨_,rfl,h⟩
theorem jE3 {A B C R:Type} {rest:A → B → C → Af R} {e:(A → B → C → Af R) → Af R} {r:R} (h:W8 rest e = some r):∃ k,k = rest ∧ e k = some r:=⟨_,rfl,h⟩
theorem jE4 {A B C D R:Type} {rest:A → B → C → D → Af R} {e:(A → B → C → D → Af R) → Af R} {r:R} (h:W7 rest e = some r):∃ k,k = rest ∧ e k = some r:=⟨_,rfl,h⟩
theorem jE5 {A B C D E R:Type} {rest:A → B → C → D → E → Af R} {e:(A → B → C → D → E → Af R) → Af R} {r:R} (h:jK5 rest e = some r):∃ k,k = rest ∧ e k = some r:=⟨_,rfl,h⟩
theorem BA {c:Prop} [Decidable c] {α:Type} {A B:Af α} {r:α} (h:c) (e:(if c then A else B) = some r):A = some r:=by rwa [if_pos h] at e
theorem Lp {c:Prop} [Decidable c] {α:Type} {A B:Af α} {r:α} (h:¬ c) (e:(if c then A else B) = some r):B = some r:=by rwa [if_neg h] at e
theorem Cf {b:Bool} {α:Type} {A B:Af α} {r:α} (h:b = false) (e:(if b = true then A else B) = some r):B = some r:=by rw [h] at e; exact e
theorem bE (b:Bool):b = true ∨ b = false:=by cases b <;> simp
def B1 (l:List Ai):ByteArray:=⟨l.toArray⟩
end Go.Proofs.YtellehgihceicaaGreatDoor
namespace Go.Proofs.YtellehgihceicaaGreatDoor
open Go Go.RowKit
variable {P:Program} {α:Type}
structure KeepX (wS:Ae) (X:Al) (w:Ae):Prop where
 lt:∀ b,b < wS.heap.size → b ∉ X → b < w.heap.size
 blk:∀ b,b < wS.heap.size → b ∉ X → w.heap[b]? = wS.heap[b]?
theorem KeepX.refl (w:Ae) (X:Al):KeepX w X w:=⟨fun _ h _=>h,fun _ _ _=>rfl⟩
theorem KeepX.ext {wS w w':Ae} {X:Al} (h:KeepX wS X w) (e:Below w.heap.size w w'):KeepX wS X w' :=
 ⟨fun b h1 l=>Nat.lt_of_lt_of_le (h.lt b h1 l) e.size,fun b f g=>(e.block b (h.lt b f g)).trans (h.blk b f g)⟩
def PR (P:Program) (n:Nat) (σ:E1) (S:Ae → Prop) (d:Nat) (op:Op) (T:TypeId) (v:Ac):Prop :=
 Nat.blt d n = true ∧ ∀ ρ:Operand → Ac,(∀ x v,B2 σ x = some v → ρ x = v) → ∀ w,S w → ∀ dst pos af gd,(execOp ρ ⟨dst,op,T,pos,af,gd⟩).run P w = .ok (.value v) w
section
variable {n:Nat} {σ:E1} {S:Ae → Prop} {G:Ac → Prop} {d:Nat} {T TB U:TypeId} {x y z:Operand} {k:IntKind} {a b:Int} {p q:Bool} {sz:Nat} {agg:Bool} {zv:Ac} {wS w0:Ae} {X:Al} {L:List Res}
theorem Da {v:Ac} (e:Nat.blt d n = true) (g:B2 σ x = some v) (h:G (v)):∃ v,PR P n σ S d (.move x) T v ∧ G v :=
 ⟨_,⟨e,fun ρ f w _ l pos af m=>by simp [execOp,f _ _ g]⟩,h⟩
theorem AC {v:Ac} (e:Nat.blt d n = true) (g:B2 σ x = some v) (h:G (v)):∃ v,PR P n σ S d (.assign x) T v ∧ G v :=
 ⟨_,⟨e,fun ρ f w _ l pos af m=>by simp [execOp,f _ _ g]⟩,h⟩
theorem Ep {v:Ac} {b:Bool} (f:Nat.blt d n = true) (m:B2 σ x = some (.bool b)) (l:b = true) (g:B2 σ y = some v) (h:G (v)):∃ v,PR P n σ S d (.pick x y z) T v ∧ G v :=
 ⟨_,⟨f,fun ρ e w _ s pos af u=>by subst l; simp [execOp,e _ _ m,e _ _ g,asBool]⟩,h⟩
theorem FV {v:Ac} {b:Bool} (f:Nat.blt d n = true) (m:B2 σ x = some (.bool b)) (l:b = false) (g:B2 σ z = some v) (h:G (v)):∃ v,PR P n σ S d (.pick x y z) T v ∧ G v :=
 ⟨_,⟨f,fun ρ e w _ s pos af u=>by subst l; simp [execOp,e _ _ m,e _ _ g,asBool]⟩,h⟩
theorem E7 (f:Nat.blt d n = true) (l:B2 σ x = some (.int k a)) (g:B2 σ y = some (.int k b)) (h:G (.int k (k.wrap (a + b)))):∃ v,PR P n σ S d (.binOp .add T x y U) T v ∧ G v :=
 ⟨_,⟨f,fun ρ e w _ m pos af s=>by simp [execOp,e _ _ l,e _ _ g,eqGuard,binOp,Op.intArith]⟩,h⟩
theorem GM (f:Nat.blt d n = true) (l:B2 σ x = some (.int k a)) (g:B2 σ y = some (.int k b)) (h:G (.int k (k.wrap (a - b)))):∃ v,PR P n σ S d (.binOp .sub T x y U) T v ∧ G v :=
 ⟨_,⟨f,fun ρ e w _ m pos af s=>by simp [execOp,e _ _ l,e _ _ g,eqGuard,binOp,Op.intArith]⟩,h⟩
theorem Jl (f:Nat.blt d n = true) (l:B2 σ x = some (.int k a)) (g:B2 σ y = some (.int k b)) (h:G (.int k (k.wrap (a * b)))):∃ v,PR P n σ S d (.binOp .mul T x y U) T v ∧ G v :=
 ⟨_,⟨f,fun ρ e w _ m pos af s=>by simp [execOp,e _ _ l,e _ _ g,eqGuard,binOp,Op.intArith]⟩,h⟩
theorem LX (f:Nat.blt d n = true) (m:B2 σ x = some (.int k a)) (g:B2 σ y = some (.int k b)) (l:b ≠ 0) (h:G (.int k (k.wrap (a.tdiv b)))):∃ v,PR P n σ S d (.binOp .quo T x y U) T v ∧ G v :=
 ⟨_,⟨f,fun ρ e w _ s pos af u=>by simp [execOp,e _ _ m,e _ _ g,eqGuard,binOp,Op.intDiv,l]⟩,h⟩
theorem Te (f:Nat.blt d n = true) (m:B2 σ x = some (.int k a)) (g:B2 σ y = some (.int k b)) (l:b ≠ 0) (h:G (.int k (a.tmod b))):∃ v,PR P n σ S d (.binOp .rem T x y U) T v ∧ G v :=
 ⟨_,⟨f,fun ρ e w _ s pos af u=>by simp [execOp,e _ _ m,e _ _ g,eqGuard,binOp,Op.intDiv,l]⟩,h⟩
theorem LY (f:Nat.blt d n = true) (l:B2 σ x = some (.int k a)) (g:B2 σ y = some (.int k b)) (h:G (.bool (decide (a < b)))):∃ v,PR P n σ S d (.binOp .lss T x y U) TB v ∧ G v :=
 ⟨_,⟨f,fun ρ e w _ m pos af s=>by simp [execOp,e _ _ l,e _ _ g,eqGuard,binOp,Op.intCmp]⟩,h⟩
theorem Tg (f:Nat.blt d n = true) (l:B2 σ x = some (.int k a)) (g:B2 σ y = some (.int k b)) (h:G (.bool (decide (b < a)))):∃ v,PR P n σ S d (.binOp .gtr T x y U) TB v ∧ G v :=
 ⟨_,⟨f,fun ρ e w _ m pos af s=>by simp [execOp,e _ _ l,e _ _ g,eqGuard,binOp,Op.intCmp]⟩,h⟩
theorem Ws (f:Nat.blt d n = true) (l:B2 σ x = some (.int k a)) (g:B2 σ y = some (.int k b)) (h:G (.bool (decide (b ≤ a)))):∃ v,PR P n σ S d (.binOp .geq T x y U) TB v ∧ G v :=
 ⟨_,⟨f,fun ρ e w _ m pos af s=>by simp [execOp,e _ _ l,e _ _ g,eqGuard,binOp,Op.intCmp]⟩,h⟩
theorem Pn (f:Nat.blt d n = true) (l:B2 σ x = some (.int k a)) (g:B2 σ y = some (.int k b)) (h:G (.bool (a == b))):∃ v,PR P n σ S d (.binOp .eql T x y U) TB v ∧ G v :=
 ⟨_,⟨f,fun ρ e w _ m pos af s=>by simp [execOp,e _ _ l,e _ _ g,eqGuard,binOp,Op.intCmp]⟩,h⟩
theorem Acs (f:Nat.blt d n = true) (l:B2 σ x = some (.int k a)) (g:B2 σ y = some (.int k b)) (h:G (.bool (a != b))):∃ v,PR P n σ S d (.binOp .neq T x y U) TB v ∧ G v :=
 ⟨_,⟨f,fun ρ e w _ m pos af s=>by simp [execOp,e _ _ l,e _ _ g,eqGuard,binOp,Op.intCmp]⟩,h⟩
theorem KM (e:Nat.blt d n = true) (g:B2 σ x = some (.bool p)) (h:G (.bool (!p))):∃ v,PR P n σ S d (.unOp .not T x) TB v ∧ G v :=
 ⟨_,⟨e,fun ρ f w _ l pos af m=>by simp [execOp,f _ _ g,Op.unary]⟩,h⟩
theorem AV {vs:Array Ac} {i:Nat} {v:Ac} (e:Nat.blt d n = true) (l:B2 σ x = some (.tuple vs)) (f:vs[i]? = some v) (h:G (v)):∃ v,PR P n σ S d (.extract x i) T v ∧ G v :=
 ⟨_,⟨e,fun ρ g w _ m pos af s=>by simp [execOp,g _ _ l,Instr.extract,f]⟩,h⟩
theorem Aaa {f o b off off':Nat} (l:Fm P U f o = true) (e:Nat.blt d n = true) (s:B2 σ x = some (.pointer (some ⟨b,off,none⟩))) (m:off + o = off')
  (h:G (.pointer (some ⟨b,off',none⟩))):∃ v,PR P n σ S d (.fieldAddr U x f) T v ∧ G v :=
 ⟨_,⟨e,fun ρ g w _ u pos af gd=>by simp [execOp,g _ _ s,MK l,Addr.add_lit,m]⟩,h⟩
theorem C6 {f o:Nat} {p:Addr} (l:Fm P U f o = true) (e:Nat.blt d n = true) (m:B2 σ x = some (.pointer (some p)))
  (h:G (.pointer (some (p.add o)))):∃ v,PR P n σ S d (.fieldAddr U x f) T v ∧ G v :=
 ⟨_,⟨e,fun ρ g w _ s pos af u=>by simp [execOp,g _ _ m,MK l]⟩,h⟩
theorem OO {i b off:Nat} {V:TypeId} {cs vs:List Ac} {v:Ac} (e:TF P U sz agg zv) (l:Nat.blt d n = true)
  (s:B2 σ x = some (.pointer (some ⟨b,off,none⟩))) (g:Sep w0.heap.size wS L) (f:Eo L i = some (A5 b V cs)) (u:KK cs off sz = some vs) (hp:pk agg vs = v) (hX:b ∉ X)
  (h:G v):∃ v,PR P n σ (KeepX wS X) d (.load U x) T v ∧ G v:=by
 refine ⟨_,⟨l,fun ρ hρ w hw ah pos af gd=>?_⟩,h⟩
 have m:wS.heap[b]? = some (.cells cs.toArray V (0,0)):=g.ok f
 have hb:=((g.get f).2.1 b (by simp [A5])).2
 have hl:=HZ (w:=w) e ⟨b,off,none⟩ (cs.drop off) vs (O8 ((hw.blk b hb hX).trans m)) (Wh u e.pos) e.one
 rw [← hp]
 simp [execOp,hρ _ _ s,Instr.loadAt,Instr.sureAddr,hl]
theorem YY {S':Nat → Prop} {p:Addr} {cs vs:List Ac} {v:Ac} (e:TF P U sz agg zv) (f:Nat.blt d n = true)
  (hx:B2 σ x = some (.pointer (some p))) (u:∀ w,S w → EAt S' w p cs) (g:KK cs 0 sz = some vs) (s:pk agg vs = v)
  (h:G v):∃ v,PR P n σ S d (.load U x) T v ∧ G v:=by
 refine ⟨_,⟨f,fun ρ m w hw ac pos af gd=>?_⟩,h⟩
 have l:=HZ (w:=w) e p cs vs (u w hw).2 g e.one
 rw [← s]
 simp [execOp,m _ _ hx,Instr.loadAt,Instr.sureAddr,l]
theorem EAt.kx {p:Addr} {cs:List Ac} (h:EAt (· < w0.heap.size) w0 p cs) (e:Below w0.heap.size w0 wS) (l:∀ b ∈ X,w0.heap.size ≤ b):∀ w,KeepX wS X w → EAt (· < w0.heap.size) w p cs:=fun w m =>
 ⟨h.1,fun j c g=>by
  have f:p.block < w0.heap.size:=h.1
  rw [O7 (w:=w0) (w':=w) (a:=p.add j) (by rw [JV,m.blk _ (Nat.lt_of_lt_of_le f e.size) (fun s=>by have:=l _ s; omega),e.block _ f])]
  exact h.2 j c g⟩
theorem EAt.kx0 {p:Addr} {cs:List Ac} (h:EAt (· < wS.heap.size) wS p cs):∀ w,KeepX wS [] w → EAt (· < wS.heap.size) w p cs:=fun w g =>
 ⟨h.1,fun j c f=>by
  have e:p.block < wS.heap.size:=h.1
  rw [O7 (w:=wS) (w':=w) (a:=p.add j) (by rw [JV,g.blk _ e (by simp)])]
  exact h.2 j c f⟩
theorem EAt.addk {S':Nat → Prop} {p:Addr} {cs:List Ac} (h:∀ w,S w → EAt S' w p cs) (o:Nat):∀ w,S w → EAt S' w (p.add o) (cs.drop o):=fun w e=>(h w e).add o
theorem BB {e:Ty P α} {S1:Nat → Prop} {f:Ae} {v:Ac} {l:List α} {k:IntKind} {m:Int} {u:α} (hu:P.underlying U = some (.slice e.tid)) (s:Nat.blt d n = true)
  (hx:B2 σ x = some v) (hy:B2 σ y = some (.int k m)) (hr:rdS e S1 f v l) (hi:AM l m = some u)
  (h:∀ p cs,e.rd S1 f cs u → EAt S1 f p cs → G (.pointer (some p))):∃ v,PR P n σ S d (.indexAddr U x y) T v ∧ G v:=by
 obtain ⟨p,ai,hS,cs,ae,hc⟩:=NN (k:=k) hu hr hi
 exact ⟨_,⟨s,fun ρ g w _ ak pos af gd=>by simp [execOp,g _ _ hx,g _ _ hy,ai]⟩,h p cs ae ⟨hS,hc⟩⟩
theorem Bv {e:Ty P α} {F:Al} {v:Ac} {l:List α} {k:IntKind} {f:Int} {u:α} {i:Nat} {w:Ae} (hu:P.underlying U = some (.slice e.tid)) (hn:Nat.blt d n = true)
  (hx:B2 σ x = some v) (hy:B2 σ y = some (.int k f)) (hS:Sep w0.heap.size w L) (hg:Eo L i = some (Ab e F v l)) (hi:AM l f = some u)
  (h:∀ p cs,e.rd (· < w.heap.size) w cs u → EAt (· < w.heap.size) w p cs → OPtr e.sz v p f.toNat 0 → G (.pointer (some p))):∃ v,PR P n σ S d (.indexAddr U x y) T v ∧ G v:=by
 have ho:ownS e F w v l:=hS.ok hg
 have hr:=hS.own_ro hg
 obtain ⟨h0,hl,aa⟩:=MA hi
 rcases ho with ⟨_,rfl,_⟩ | ⟨g,cap,a2,css,Fs,hv,bd,az,hm,hc,ht,hz,hF⟩
 ·simp at aa
 ·subst hv
  obtain ⟨a,a4,he,a9,s⟩:=hr
  injection he with m be a8
  rcases s with rfl | ⟨ad,rfl,s⟩
  ·simp at aa
  ·injection m with m
   subst m
   obtain ⟨ii,zz,ap,aq,_⟩:=e.info
   obtain ⟨hb,cs,al,aj⟩:=s _ _ hl
   have ah:0 ≤ f ∧ f < (l.length:Int):=⟨h0,by omega⟩
   refine ⟨_,⟨hn,fun ρ hρ w _ a6 pos af gd=>?_⟩,h _ cs al ⟨hb,aj⟩ ⟨g,_,_,rfl,by rw [Addr.add_lit,Nat.zero_add,Nat.add_zero]⟩⟩
   simp [execOp,hρ _ _ hx,hρ _ _ hy,Instr.indexAt,asIntOf,run_underlying hu,sizeOf,typeInfo,ap,aq,ah]
theorem Acv {v:Ac} {a:Af Addr} {l c:Nat} {f:TypeId} {e:TypeId} (s:P.underlying f = some (.slice e)) (g:Nat.blt d n = true) (hx:B2 σ x = some v) (m:v = .slice a l c)
  (h:G (.int .i64 (l:Int))):∃ v,PR P n σ S d (.call ⟨.builtin .len,#[x],#[f]⟩) T v ∧ G v:=by
 subst m
 exact ⟨_,⟨g,fun ρ u w _ ab pos af gd=>by simp [execOp,resolve,invoke,builtin,u _ _ hx,Builtin.len_,run_underlying s,goInt]⟩,h⟩
theorem M8 {e:Ty P α} {S1:Nat → Prop} {w1:Ae} {v:Ac} {l:List α} {f:TypeId} (s:P.underlying f = some (.slice e.tid)) (g:Nat.blt d n = true) (hx:B2 σ x = some v) (u:rdS e S1 w1 v l)
  (h:G (.int .i64 (l.length:Int))):∃ v,PR P n σ S d (.call ⟨.builtin .len,#[x],#[f]⟩) T v ∧ G v:=by
 obtain ⟨a,cap,m,_⟩:=u
 exact Acv s g hx m h
theorem ZZ {e:Ty P α} {S1:Nat → Prop} {w1:Ae} {v:Ac} {l m:List α} {lo hi:Int} {u g:Af Operand} (hu:P.underlying U = some (.slice e.tid)) (hn:Nat.blt d n = true)
  (hx:B2 σ x = some v) (hr:rdS e S1 w1 v l) (hm:sl l lo hi = some m)
  (an:(u = none ∧ lo = 0) ∨ ∃ o k,u = some o ∧ B2 σ o = some (.int k lo)) (ak:(g = none ∧ hi = l.length) ∨ ∃ o k,g = some o ∧ B2 σ o = some (.int k hi))
  (h:∀ s,rdS e S1 w1 s m → G s):∃ v,PR P n σ S d (.slice U x u g none) T v ∧ G v:=by
 obtain ⟨s,ah,al⟩:=LV hu hr hm
 refine ⟨_,⟨hn,fun ρ hρ w _ ap pos af gd=>?_⟩,h s al⟩
 have:=ah (u.map ρ) (g.map ρ) w (an.imp (fun ⟨h,f⟩=>⟨by rw [h]; rfl,f⟩) fun ⟨o,k,h,f⟩=>⟨k,by rw [h]; simp [hρ _ _ f]⟩)
  (ak.imp (fun ⟨h,f⟩=>⟨by rw [h]; rfl,f⟩) fun ⟨o,k,h,f⟩=>⟨k,by rw [h]; simp [hρ _ _ f]⟩)
 simp [execOp,hρ _ _ hx,this]
theorem Acw {xs f:Array Ac} {b:Bool} (l:P.eqGuardType P.depth U = false) (s:∀ w,(Op.equalIn 10000 U (.agg xs) (.agg f)).run P w = .ok b w) (g:Nat.blt d n = true)
  (u:B2 σ x = some (.agg xs)) (m:B2 σ y = some (.agg f)) (h:G (.bool b)):∃ v,PR P n σ S d (.binOp .eql U x y TB) T v ∧ G v :=
 ⟨_,⟨g,fun ρ e w _ aa pos af gd=>by simp [execOp,e _ _ u,e _ _ m,run_eqGuard_agg w _ _ _ _ _ _ l,run_eql_struct,s]⟩,h⟩
theorem HR {e:List (Nat × Nat)} {zs out:List Ac} {parts:List (Nat × Operand)} {vs:List Ac} {css:List (List Ac)} (m:TF P U sz agg zv) (u:HK P U e = true) (f:Nat.blt d n = true)
  (hx:(parts.map fun p=>B2 σ p.2) = vs.map some) (g:vs.map (·.cells) = css.map (·.toArray)) (aa:zv.cells = zs.toArray) (s:ML e zs ((parts.map (·.1)).zip css) = some out)
  (h:G (.agg out.toArray)):∃ v,PR P n σ S d (.build U parts.toArray) T v ∧ G v:=by
 refine ⟨_,⟨f,fun ρ l w _ ac pos af gd=>?_⟩,h⟩
 have:=UW (zv:=zv) u m.hzero aa (parts:=parts.map fun p=>(p.1,ρ p.2)) (ps:=(parts.map (·.1)).zip css) (Se l parts vs css hx g) s w
 simp only [execOp,List.map_toArray,Sem.run_bind,this,Result.andThen_ok,Sem.run_pure]
end
def WH (P:Program) (n:Nat) (ops:List Oper) (S:Ae → Prop) (fuel:Nat) (li:List Bool) (σ:E1) (w:Ae) (Q:Exit → Act → Ae → Prop):Prop :=
 ∀ a,St n σ a → wpAnyH P .any ops.toArray Q S fuel li.toArray a w
section
variable {n:Nat} {σ:E1} {S:Ae → Prop} {Q:Exit → Act → Ae → Prop} {w w0:Ae} {ops:List Oper} {fuel:Nat} {li:List Bool} {L:List Res} {X:Al}
theorem Yv (w:Ae):Below w.heap.size w w.drew:=⟨rfl,rfl,rfl,Nat.le_refl _,fun _ _=>rfl⟩
theorem AQ {id:Nat} (g:P.follows .mixedOrders = true) (X:Al) (f:Below w0.heap.size w0 w) (l:Sep w0.heap.size w L)
  (h:∀ w',Below w.heap.size w w' → Below w0.heap.size w0 w' → Sep w0.heap.size w' L → WH P n ops (KeepX w' X) ops.length (List.replicate ops.length false) σ w' Q):W P n (.region id ops.toArray true) σ w Q:=by
 intro a m
 refine wp_region_held (S:=KeepX w.drew X) g ?_
 have e:=Yv w
 have:=h w.drew e (f.trans (e.mono f.size)) (l.below e) a m
 simpa using this
theorem VR {g:Nat} {s:Tmp} {b want:Bool} {a:Act} (l:St n σ a) (e:(ops.map (·.dst))[g]? = some (some s)) (f:Gv σ s = some (.bool b)):yielded ops.toArray a.tmps g = some b:=by
 unfold yielded
 have:(ops.toArray[g]?).bind (·.dst) = some s:=by
  simp only [List.getElem?_map] at e
  cases h:ops[g]? with
  | none=>rw [h] at e; cases e
  | some o=>rw [h] at e; simp [h]; simpa using e
 rw [this]
 simp [l.get s _ f]
variable {d:Nat} {op:Op} {T:TypeId} {pos:String} {af:Array Edge}
theorem Aa2 {i:Nat} (m:ops[i]? = some ⟨some d,op,T,pos,af,none⟩) (u:Region.noSelect ops.toArray = true) (s:Region.free .any ops.toArray li.toArray i = true) (hr:(Region.ready .any ops.toArray li.toArray).contains i = true)
  (l:IX Q) (e:S w) (h:∃ v,PR P n σ S d op T v ∧ WH P n ops S fuel (li.set i true) ((d,v) :: σ) w Q):WH P n ops S (fuel + 1) li σ w Q:=by
 intro a f
 obtain ⟨v,⟨g,ab⟩,h⟩:=h
 refine wpAnyH_take (i:=i) (oi:=⟨some d,op,T,pos,af,none⟩) (v:=v) (by simpa using m) u s hr (fun c a w=>l c a _ _ w) (.inl ⟨by simp [Region.wanted],fun w e=>ab a.eval (fun x v hx=>f.eval hx) w e _ _ _ _⟩) e ?_
 have:=h _ (f.put v g)
 simpa using this
theorem ZD {i g:Nat} {s:Tmp} {b want:Bool} (hi:ops[i]? = some ⟨some d,op,T,pos,af,some (g,want)⟩) (hs:Region.noSelect ops.toArray = true) (hf:Region.free .any ops.toArray li.toArray i = true) (hr:(Region.ready .any ops.toArray li.toArray).contains i = true)
  (m:IX Q) (aa:(ops.map (·.dst))[g]? = some (some s)) (ab:Gv σ s = some (.bool b)) (ac:b = want) (f:S w) (h:∃ v,PR P n σ S d op T v ∧ WH P n ops S fuel (li.set i true) ((d,v) :: σ) w Q):WH P n ops S (fuel + 1) li σ w Q:=by
 intro a e
 obtain ⟨v,⟨l,ah⟩,h⟩:=h
 refine wpAnyH_take (i:=i) (oi:=⟨some d,op,T,pos,af,some (g,want)⟩) (v:=v) (by simpa using hi) hs hf hr (fun c a w=>m c a _ _ w) (.inl ⟨by simp [Region.wanted,VR (want:=want) e aa ab,ac],fun w f=>ah a.eval (fun x v u=>e.eval u) w f _ _ _ _⟩) f ?_
 have:=h _ (e.put v l)
 simpa using this
theorem Adr {i g:Nat} {s:Tmp} {b want:Bool} (hi:ops[i]? = some ⟨some d,op,T,pos,af,some (g,want)⟩) (hs:Region.noSelect ops.toArray = true) (hf:Region.free .any ops.toArray li.toArray i = true) (hr:(Region.ready .any ops.toArray li.toArray).contains i = true)
  (l:IX Q) (m:(ops.map (·.dst))[g]? = some (some s)) (u:Gv σ s = some (.bool b)) (aa:b = !want) (f:Nat.blt d n = true) (hw:S w) (h:WH P n ops S fuel (li.set i true) ((d,undef) :: σ) w Q):WH P n ops S (fuel + 1) li σ w Q:=by
 intro a e
 refine wpAnyH_take (i:=i) (oi:=⟨some d,op,T,pos,af,some (g,want)⟩) (v:=undef) (by simpa using hi) hs hf hr (fun c a w=>l c a _ _ w) (.inr ⟨by simp [Region.wanted,VR (want:=want) e m u,aa],rfl⟩) hw ?_
 have:=h _ (e.put undef f)
 simpa using this
theorem Ab8 {i g:Nat} {s:Tmp} {want:Bool} (hi:ops[i]? = some ⟨some d,op,T,pos,af,some (g,want)⟩) (hs:Region.noSelect ops.toArray = true) (hf:Region.free .any ops.toArray li.toArray i = true) (hr:(Region.ready .any ops.toArray li.toArray).contains i = true)
  (m:IX Q) (e:(ops.map (·.dst))[g]? = some (some s)) (aa:Gv σ s = some undef) (l:Nat.blt d n = true) (hw:S w) (h:WH P n ops S fuel (li.set i true) ((d,undef) :: σ) w Q):WH P n ops S (fuel + 1) li σ w Q:=by
 intro a f
 have u:yielded ops.toArray a.tmps g = none:=by
  unfold yielded
  have:(ops.toArray[g]?).bind (·.dst) = some s:=by
   simp only [List.getElem?_map] at e
   cases h:ops[g]? with
   | none=>rw [h] at e; cases e
   | some o=>rw [h] at e; simp [h]; simpa using e
  rw [this]
  simp [f.get s _ aa,undef]
 refine wpAnyH_take (i:=i) (oi:=⟨some d,op,T,pos,af,some (g,want)⟩) (v:=undef) (by simpa using hi) hs hf hr (fun c a w=>m c a _ _ w) (.inr ⟨by simp [Region.wanted,u],rfl⟩) hw ?_
 have:=h _ (f.put undef l)
 simpa using this
theorem Nu {i:Nat} {o:Oper} {K:Act → Ae → Prop} {a:Act} (l:ops[i]? = some o) (h:WL P n (ops.map (·.dst)) [o] σ w (Exit.then K Q)) (s:St n σ a):wpOp P ops.toArray Q i K a w:=by
 have e:=h ops.toArray (by simp [Uq]) a s
 unfold wpOp
 have u:ops.toArray[i]? = some o:=by simpa using l
 simp only [u]
 unfold wpList at e
 split
 ·rename_i f
  rw [if_pos f] at e
  rcases e with e | ⟨h1,m,w',g⟩
  ·left
   unfold Oper.wp Oper.upon at e ⊢
   generalize (execOp a.eval o).run P w = r at e
   cases r with
   | ok x w'=>cases x <;> exact e
   | halt x w'=>cases x <;> exact e
  ·exact .inr ⟨h1,m,w',g⟩
 ·rename_i f
  rw [if_neg f] at e
  exact e
theorem Adq {i:Nat} {o:Oper} (f:Region.ready .any ops.toArray li.toArray = [i]) (l:ops[i]? = some o)
  (h:WL P n (ops.map (·.dst)) [o] σ w (Exit.then (fun a w=>S w ∧ wpAnyH P .any ops.toArray Q S fuel (li.set i true).toArray a w) Q)):WH P n ops S (fuel + 1) li σ w Q:=by
 intro a g
 refine wpAnyH_all f (by simp) fun j e=>?_
 simp at e
 subst e
 have:=Nu l h g
 simpa using this
theorem Aex {i j:Nat} {o f:Oper} (m:Region.ready .any ops.toArray li.toArray = [i,j]) (u:ops[i]? = some o) (l:ops[j]? = some f)
  (h:WL P n (ops.map (·.dst)) [o] σ w (Exit.then (fun a w=>S w ∧ wpAnyH P .any ops.toArray Q S fuel (li.set i true).toArray a w) Q))
  (s:WL P n (ops.map (·.dst)) [f] σ w (Exit.then (fun a w=>S w ∧ wpAnyH P .any ops.toArray Q S fuel (li.set j true).toArray a w) Q)):WH P n ops S (fuel + 1) li σ w Q:=by
 intro a g
 refine wpAnyH_all m (by simp) fun k e=>?_
 simp at e
 rcases e with rfl | rfl
 ·have:=Nu u h g
  simpa using this
 ·have:=Nu l s g
  simpa using this
theorem Am (f:S w) (h:WH P n ops S fuel li σ w Q):∀ a,St n σ a → Exit.then (fun a w=>S w ∧ wpAnyH P .any ops.toArray Q S fuel li.toArray a w) Q .normal a w :=
 fun a e=>⟨f,h a e⟩
theorem Ab9 (e:Region.ready .any ops.toArray li.toArray = []) (h:∀ a,St n σ a → Q .normal a w):WH P n ops S fuel li σ w Q :=
 fun a f=>wpAnyH_done e (h a f) fuel
end
end Go.Proofs.YtellehgihceicaaGreatDoor
namespace Go.Proofs.YtellehgihceicaaGreatDoor
open Go Go.RowKit
variable {P:Program} {α β:Type}
def Qc (e:Ty P α) (F:Al) (cs:List Ac) (x:α):Res:=⟨F,fun w=>e.own F w cs x⟩
section
variable {base:Nat} {w w':Ae} {M L:List Res} {r r1 r2 r':Res}
theorem Sep.head (h:Sep base w (r :: M)) (g:r'.fp = r.fp) (hk:∀ w,r.ok w → r'.ok w):Sep base w (r' :: M):=by
 obtain ⟨h1,m⟩:=h
 cases m with
 | cons v ht =>
  refine ⟨fun s e=>?_,.cons (fun s e b f=>v s e b (by rw [← g]; exact f)) ht⟩
  cases e with
  | head =>
   have l:=h1 r (by simp)
   exact ⟨by rw [g]; exact l.1,fun b f=>l.2.1 b (by rw [← g]; exact f),fun w' u=>hk _ (l.2.2 w' fun b f=>u b (by rw [g]; exact f))⟩
  | tail _ e=>exact h1 s (.tail _ e)
theorem Sep.merge (h:Sep base w (r1 :: r2 :: M)) (l:r.fp = r1.fp ++ r2.fp) (hk:∀ w,r1.ok w → r2.ok w → r.ok w):Sep base w (r :: M):=by
 obtain ⟨h1,h2⟩:=h
 have m:=h1 r1 (by simp)
 have u:=h1 r2 (by simp)
 cases h2 with
 | cons hd v =>
  cases v with
  | cons ac v =>
   refine ⟨fun s g=>?_,.cons (fun s g b f=>?_) v⟩
   ·cases g with
    | head =>
     refine ⟨?_,fun b f=>?_,fun w' hw=>hk _ (m.2.2 w' fun b f=>hw b (by rw [l]; exact At _ f)) (u.2.2 w' fun b f=>hw b (by rw [l]; exact Bi _ f))⟩
     ·rw [l,List.nodup_append]
      exact ⟨m.1,u.1,fun a ha b f e=>hd r2 (by simp) a ha (by rw [e]; exact f)⟩
     ·rw [l] at f
      rcases AX.1 f with f | f
      ·exact m.2.1 b f
      ·exact u.2.1 b f
    | tail _ g=>exact h1 s (.tail _ (.tail _ g))
   ·rw [l] at f
    rcases AX.1 f with f | f
    ·exact hd s (by simp [g]) b f
    ·exact ac s g b f
end
section
variable {n:Nat} {σ:E1} {w w0:Ae} {Q:Exit → Act → Ae → Prop} {L M:List Res}
variable {ds:List (Af Tmp)} {d:Nat} {T U:TypeId} {pos:String} {af:Array Edge} {rest:List Oper} {x y z:Operand} {sz:Nat} {agg:Bool} {zv:Ac}
end
end Go.Proofs.YtellehgihceicaaGreatDoor
namespace Go.Proofs.YtellehgihceicaaGreatDoor
open Go Go.RowKit
variable {P:Program} {n:Nat} {ds:List (Af Tmp)} {d:Nat} {T TB U:TypeId} {pos:String} {af:Array Edge} {rest:List Oper} {x y z:Operand} {σ:E1} {w:Ae} {Q:Exit → Act → Ae → Prop}
variable {a b c:List Ai} {k:IntKind} {i j:Int} {S:Ae → Prop} {G:Ac → Prop}
theorem Wz (a:List Ai):(B1 a).toList = a:=ByteArray.toList_mk a
theorem NZ (a:List Ai):(B1 a).size = a.length:=by simp [B1,ByteArray.size]
theorem W0 {s:ByteArray} {l:List Ai} (h:s.data.toList = l):s = B1 l:=by
 subst h
 simp [B1]
theorem AP (f:Nat.blt d n = true) (l:B2 σ x = some (.string (B1 a))) (g:B2 σ y = some (.string (B1 b))) (h:WL P n ds rest ((d,.bool (a == b)) :: σ) w Q) :
  WL P n ds (⟨some d,.binOp .eql T x y U,TB,pos,af,none⟩ :: rest) σ w Q :=
 Cx f (fun ρ e=>by simp only [execOp,e _ _ l,e _ _ g,eqGuard_at_string,binOp_string_eql,Wz,Sem.run_bind,Sem.run_pure,Result.andThen_ok]) h
theorem UO (f:Nat.blt d n = true) (l:B2 σ x = some (.string (B1 a))) (g:B2 σ y = some (.string (B1 b))) (h:WL P n ds rest ((d,.bool (a != b)) :: σ) w Q) :
  WL P n ds (⟨some d,.binOp .neq T x y U,TB,pos,af,none⟩ :: rest) σ w Q :=
 Cx f (fun ρ e=>by simp only [execOp,e _ _ l,e _ _ g,eqGuard_at_string,binOp_string_neq,Wz,Sem.run_bind,Sem.run_pure,Result.andThen_ok,bne]) h
theorem Tb (h:Ck a b = some c) (w:Ae):(binOp .add U (.string (B1 a)) (.string (B1 b))).run P w = .ok (.string (B1 c)) w:=by
 unfold Ck at h
 split at h
 ·rename_i g
  cases h
  have e:(B1 a) ++ (B1 b) = B1 (a ++ b):=W0 (by rw [ByteArray.data_append]; simp [B1])
  have f:¬ ((((B1 a).size + (B1 b).size:Nat):Int) > IntKind.i64.max):=by
   rw [NZ,NZ]
   simp [IntKind.max,IntKind.signed,IntKind.bits]
   omega
  simp only [binOp,Op.stringOp,if_neg f,Sem.run_pure,e]
 ·cases h
theorem Hf (f:Nat.blt d n = true) (m:B2 σ x = some (.string (B1 a))) (l:B2 σ y = some (.string (B1 b))) (g:Ck a b = some c) (h:WL P n ds rest ((d,.string (B1 c)) :: σ) w Q) :
  WL P n ds (⟨some d,.binOp .add T x y U,TB,pos,af,none⟩ :: rest) σ w Q :=
 Cx f (fun ρ e=>by simp only [execOp,e _ _ m,e _ _ l,eqGuard_at_string,Tb g,Sem.run_bind,Sem.run_pure,Result.andThen_ok]) h
theorem D4 {e:TypeId} (g:P.underlying e = some .string) (f:Nat.blt d n = true) (m:B2 σ x = some (.string (B1 a)))
  (h:WL P n ds rest ((d,.int .i64 (a.length:Int)) :: σ) w Q):WL P n ds (⟨some d,.call ⟨.builtin .len,#[x],#[e]⟩,T,pos,af,none⟩ :: rest) σ w Q :=
 Cx f (fun ρ l=>by simp [execOp,resolve,invoke,builtin,l _ _ m,Builtin.len_,run_underlying g,goInt,NZ]) h
theorem Wl {g f:Int} {vlo vhi:Af Ac} (l:P.underlying U = some .string) (h:sl a g f = some c)
  (m:(vlo = none ∧ g = 0) ∨ ∃ k,vlo = some (.int k g)) (s:(vhi = none ∧ f = a.length) ∨ ∃ k,vhi = some (.int k f)) (w:Ae) :
  (Instr.slice U (.string (B1 a)) vlo vhi none).run P w = .ok (.string (B1 c)) w:=by
 unfold sl at h
 split at h
 ·rename_i u
  cases h
  obtain ⟨h0,h1,h2⟩:=u
  have e:(B1 a).extract g.toNat f.toNat = B1 ((a.take f.toNat).drop g.toNat):=W0 (by
   rw [ByteArray.data_extract]
   simp [B1,List.extract_eq_take_drop,List.drop_take])
  have v:=NZ a
  have c1:0 ≤ f ∧ f ≤ ((B1 a).size:Int):=⟨by omega,by omega⟩
  have c2:0 ≤ g ∧ g ≤ ((f.toNat:Nat):Int):=⟨by omega,by omega⟩
  rcases s with ⟨rfl,rfl⟩ | ⟨k,rfl⟩ <;> rcases m with ⟨rfl,rfl⟩ | ⟨k',rfl⟩ <;>
   simp_all [Instr.slice,Instr.sliceBounds,Instr.sliceBound,asIntOf,run_underlying l]
 ·cases h
theorem Kt {s l:Int} {f g:Af Operand} (u:P.underlying U = some .string) (v:Nat.blt d n = true) (hx:B2 σ x = some (.string (B1 a))) (hm:sl a s l = some c)
  (ab:(f = none ∧ s = 0) ∨ ∃ o k,f = some o ∧ B2 σ o = some (.int k s)) (ac:(g = none ∧ l = a.length) ∨ ∃ o k,g = some o ∧ B2 σ o = some (.int k l))
  (h:WL P n ds rest ((d,.string (B1 c)) :: σ) w Q):WL P n ds (⟨some d,.slice U x f g none,T,pos,af,none⟩ :: rest) σ w Q :=
 Cx v (fun ρ m=>by
  have:=Wl (P:=P) (U:=U) (vlo:=f.map ρ) (vhi:=g.map ρ) u hm (ab.imp (fun ⟨h,e⟩=>⟨by rw [h]; rfl,e⟩) fun ⟨o,k,h,e⟩=>⟨k,by rw [h]; simp [m _ _ e]⟩)
   (ac.imp (fun ⟨h,e⟩=>⟨by rw [h]; rfl,e⟩) fun ⟨o,k,h,e⟩=>⟨k,by rw [h]; simp [m _ _ e]⟩) w
  simp [execOp,m _ _ hx,Instr.sliceAt,run_underlying u,this]) h
theorem Wm {u:Ai} (f:P.underlying U = some .string) (e:AM a i = some u) (w:Ae):(Instr.index U (.string (B1 a)) (.int k i)).run P w = .ok (.int .u8 (u.toNat:Int)) w:=by
 unfold AM at e
 split at e
 ·rename_i h
  obtain ⟨m,g⟩:=List.getElem?_eq_some_iff.1 e
  have l:=NZ a
  rw [run_index_string _ _ _ _ _ f,dif_pos ⟨h,by omega⟩]
  have:(B1 a)[i.toNat]'(by omega) = u:=by rw [← g]; rfl
  rw [this]
 ·cases e
theorem EN {u:Ai} (l:P.underlying U = some .string) (f:Nat.blt d n = true) (s:B2 σ x = some (.string (B1 a))) (g:B2 σ y = some (.int k i)) (m:AM a i = some u)
  (h:WL P n ds rest ((d,.int .u8 (u.toNat:Int)) :: σ) w Q):WL P n ds (⟨some d,.index U x y,T,pos,af,none⟩ :: rest) σ w Q :=
 Cx f (fun ρ e=>by simp [execOp,e _ _ s,e _ _ g,Wm l m]) h
theorem Pf {l:Array TypeId} (f:Nat.blt d n = true) (m:B2 σ x = some (.int k i)) (g:B2 σ y = some (.int k j))
  (h:WL P n ds rest ((d,.int k (Fx i j)) :: σ) w Q):WL P n ds (⟨some d,.call ⟨.builtin .max,#[x,y],l⟩,T,pos,af,none⟩ :: rest) σ w Q :=
 Cx f (fun ρ e=>by simp [execOp,resolve,invoke,builtin,e _ _ m,e _ _ g,Builtin.max_,Builtin.max2,Fx]) h
theorem SK {l:Array TypeId} (f:Nat.blt d n = true) (m:B2 σ x = some (.int k i)) (g:B2 σ y = some (.int k j))
  (h:WL P n ds rest ((d,.int k (Fn i j)) :: σ) w Q):WL P n ds (⟨some d,.call ⟨.builtin .min,#[x,y],l⟩,T,pos,af,none⟩ :: rest) σ w Q :=
 Cx f (fun ρ e=>by simp [execOp,resolve,invoke,builtin,e _ _ m,e _ _ g,Builtin.min_,Builtin.min2,Fn]) h
end Go.Proofs.YtellehgihceicaaGreatDoor
namespace Go.Proofs.YtellehgihceicaaGreatDoor
open Go Go.RowKit
variable {P:Program} {α β:Type}
def wE (w:Ae):Ae:={ w with heap:=#[] }
theorem Ej (w:Ae):Below (wE w).heap.size (wE w) w:=⟨rfl,rfl,rfl,Nat.zero_le _,fun k e=>absurd e (Nat.not_lt_zero _)⟩
def Be (L:List Res):Al:=L.flatMap fun r=>r.fp
theorem Kv {L:List Res} {b:Nat}:b ∈ Be L ↔ ∃ r ∈ L,b ∈ r.fp:=by simp [Be]
def A6 (w0:Ae) (X:Al):Res:=⟨(List.range w0.heap.size).filter (fun b=>!X.contains b),fun w=>∀ b,b < w0.heap.size → b ∉ X → w.heap[b]? = w0.heap[b]?⟩
theorem IR {w0:Ae} {X:Al} {b:Nat}:b ∈ (A6 w0 X).fp ↔ b < w0.heap.size ∧ b ∉ X:=by simp [A6]
section
variable {base:Nat} {w w' w0:Ae} {L M M':List Res} {r r1 r2:Res}
theorem Sep.rest (h:Sep 0 w M):Sep 0 w (A6 w (Be M) :: M):=by
 refine ⟨fun s e=>?_,.cons (fun s e b f g=>(IR.1 f).2 (Kv.2 ⟨s,e,g⟩)) h.2⟩
 cases e with
 | tail _ e=>exact h.1 s e
 | head=>exact ⟨List.Nodup.sublist List.filter_sublist List.nodup_range,fun b f=>⟨Nat.zero_le _,(IR.1 f).1⟩,fun w' l b f m=>l b (IR.2 ⟨f,m⟩)⟩
theorem Sep.base0 (h:Sep base w L):Sep 0 w L:=⟨fun r e=>⟨(h.1 r e).1,fun b f=>⟨Nat.zero_le _,((h.1 r e).2.1 b f).2⟩,(h.1 r e).2.2⟩,h.2⟩
theorem PH:∀ (is e:Al),Aj L (is ++ e) = Aj L is ++ Aj L e
 | [],e=>rfl
 | i :: is,e=>by
  rw [List.cons_append,Aj,Aj,PH is e]
  cases Eo L i <;> rfl
theorem Vh (g:M'.map (·.fp) = M.map (·.fp)) (f:r ∈ M'):∃ s ∈ M,s.fp = r.fp:=by
 have:r.fp ∈ M.map (·.fp):=by rw [← g]; exact List.mem_map.2 ⟨r,f,rfl⟩
 obtain ⟨s,h,e⟩:=List.mem_map.1 this
 exact ⟨s,h,e⟩
theorem M9 (e:Sep 0 w' (A6 w (Be M) :: M')):∀ b,b < w.heap.size → b ∉ Be M → w'.heap[b]? = w.heap[b]?:=(e.1 _ (List.mem_cons_self ..)).ok
theorem Wy (h:M'.map (·.fp) = M.map (·.fp)) (g:Sep 0 w' (A6 w (Be M) :: M')):w.heap.size ≤ w'.heap.size:=by
 by_cases u:w.heap.size = 0
 ·omega
 ·by_cases f:w.heap.size - 1 ∈ Be M
  ·obtain ⟨r,m,f⟩:=Kv.1 f
   have:r.fp ∈ M'.map (·.fp):=by rw [h]; exact List.mem_map.2 ⟨r,m,rfl⟩
   obtain ⟨s,l,e⟩:=List.mem_map.1 this
   have:=((g.1 s (by simp [l])).2.1 _ (by rw [e]; exact f)).2
   omega
  ·have:=((g.1 _ (List.mem_cons_self ..)).2.1 (w.heap.size - 1) (IR.2 ⟨by omega,f⟩)).2
   omega
theorem Sep.mut (h:Sep base w L) (is js:Al) (hn:NX (is ++ js) = true) (hM:YtellehgihceicaaGreatDoor.Aj L is = M) (ab:M'.map (·.fp) = M.map (·.fp)) (v:Sep 0 w' (A6 w (Be M) :: M')):Sep base w' (M' ++ YtellehgihceicaaGreatDoor.Aj L js):=by
 have ai:=Wy ab v
 have aj:=M9 v
 have m:=h.sel (is ++ js) hn
 rw [PH,hM] at m
 have ad:=(List.pairwise_append.1 m.2).2.2
 have aa:=v.2
 cases aa with
 | cons _ aa =>
  refine ⟨fun r f=>?_,List.pairwise_append.2 ⟨aa,(List.pairwise_append.1 m.2).2.1,fun r f s u b l=>?_⟩⟩
  ·rcases AX.1 f with f | f
   ·have g:=v.1 r (by simp [f])
    obtain ⟨s,u,e⟩:=Vh ab f
    have gs:=m.1 s (by simp [u])
    exact ⟨g.1,fun b l=>⟨(gs.2.1 b (by rw [e]; exact l)).1,(g.2.1 b l).2⟩,g.2.2⟩
   ·have g:=m.1 r (by simp [f])
    refine g.keep ai fun b l=>aj b (g.2.1 b l).2 fun hx=>?_
    obtain ⟨s,u,ag⟩:=Kv.1 hx
    exact ad s u r f b ag l
  ·obtain ⟨t,ht,e⟩:=Vh ab f
   exact ad t ht s u b (by rw [e]; exact l)
theorem Sep.mutB (h:Sep base w L) (is:Al) (l:NX is = true) (u:YtellehgihceicaaGreatDoor.Aj L is = M) (m:M'.map (·.fp) = M.map (·.fp)) (e:Below base w0 w) (ae:base ≤ w.heap.size) (f:Below 0 (wE w) w') (g:Sep 0 w' (A6 w (Be M) :: M')):Below base w0 w' :=
 ⟨f.os.trans e.os,f.tape.trans e.tape,f.output.trans e.output,Aw e.size (Wy m g),fun k hk=>(M9 g k (by omega) fun hx=>by
  obtain ⟨s,hs,hb⟩:=Kv.1 hx
  have v:s ∈ YtellehgihceicaaGreatDoor.Aj L is:=by rw [u]; exact hs
  have:=((h.sel is l).1 s v).2.1 k hb
  omega).trans (e.block k hk)⟩
end
end Go.Proofs.YtellehgihceicaaGreatDoor
namespace Go.Proofs.YtellehgihceicaaGreatDoor
open Go Go.RowKit
variable {P:Program} {n:Nat} {ds:List (Af Tmp)} {d:Nat} {T U V:TypeId} {pos:String} {af:Array Edge} {rest:List Oper} {x y z:Operand} {σ:E1} {w w0:Ae} {Q:Exit → Act → Ae → Prop} {L:List Res}
theorem XU {i b:Nat} {V:TypeId} {cs:List Ac} (f:Sep w0.heap.size w L) (e:Eo L i = some (A5 b V cs)):EAt (· < w.heap.size) w ⟨b,0,none⟩ cs :=
 ⟨((f.get e).2.1 b (by simp [A5])).2,fun j c g=>O8 (o:=0) (f.ok e) j c (by simpa using g)⟩
theorem PD {f:FuncId} {caps:List Ac} {xs:List Operand} {m:Array TypeId} {vs:List Ac} {R:Ending → Ae → Prop} (s:Nat.blt d n = true)
  (hf:B2 σ x = some (.func (.func f) #[] caps.toArray))
  (ah:∀ args w,(callFunc f args).run P w = .ok (.enter f args) w) (hc:Calls P f (vs ++ caps).toArray w R) (l:xs.map (B2 σ) = vs.map some)
  (h:∀ e w',R e w' → ∃ v,e = .returned v ∧ WL P n ds rest ((d,v) :: σ) w' Q) :
  WL P n ds (⟨some d,.call ⟨.value x,xs.toArray,m⟩,T,pos,af,none⟩ :: rest) σ w Q:=by
 intro ops ho a g
 refine wpList_plain rfl fun K u=>?_
 unfold Oper.wp
 have he:(execOp a.eval ⟨some d,.call ⟨.value x,xs.toArray,m⟩,T,pos,af,none⟩).run P w = .ok (.enter f (vs ++ caps).toArray) w:=by
  have ac:=QY l a.eval (fun x v l=>g.eval l)
  have ae:=g.eval hf
  simp [execOp,resolve,Deferred.ofValue,invoke,ah,ac,ae]
 rw [he]
 simp only [Oper.upon]
 refine hc.mono fun e w' hR=>?_
 obtain ⟨v,rfl,hv⟩:=h e w' hR
 exact u _ _ (hv ops ho _ (g.put v s))
theorem DU {k k':IntKind} {a:Int} {f:TypeDesc} (m:P.underlying U = some f) (l:P.underlying V = some (.int k')) (e:Nat.blt d n = true) (s:B2 σ x = some (.int k a))
  (h:WL P n ds rest ((d,.int k' (k'.wrap a)) :: σ) w Q):WL P n ds (⟨some d,.convert U V x,T,pos,af,none⟩ :: rest) σ w Q :=
 Cx e (fun ρ g=>by simp [execOp,g _ _ s,convert,run_underlying m,run_underlying l,Conv.intToInt]) h
theorem Ys (l:List Int) (s:ByteArray):(l.foldl (fun r n=>r.push (UInt8.ofNat n.toNat)) s).data.toList = s.data.toList ++ Ky l:=by
 induction l generalizing s with
 | nil=>simp [Ky]
 | cons x l e=>rw [List.foldl_cons,e]; simp [Ky]
theorem YT {e:Ty P Int} (hf:Flat e (fun u=>[.int .u8 u])) {S:Nat → Prop} {v:Ac} {l:List Int} (hs:P.underlying U = some (.slice e.tid)) (he:P.underlying e.tid = some (.int .u8)) (hd:P.underlying V = some .string) (ac:e.sz = 1)
  {w:Ae} (hr:rdS e S w v l):(convert U V v).run P w = .ok (.string (B1 (Ky l))) w:=by
 obtain ⟨a,cap,rfl,hc,s⟩:=hr
 rw [run_convert_bytes_string w U V e.tid a _ _ hs he hd]
 cases a with
 | none =>
  rcases s with rfl | ⟨g,h,_⟩
  ·simp [Conv.bytesToString,Ky,B1,Sem.run_pure]
   rfl
  ·cases h
 | some g =>
  rw [run_bytesToString w g l.length cap l]
  ·congr 2
   apply W0
   rw [Ys]
   simp
  ·have:=run_loadCells_list (P:=P) w g (l.map (Value.int .u8)) (fun j c f=>?_)
   ·simpa using this
   ·rcases s with rfl | ⟨an,h,ae⟩
    ·simp at f
    ·cases h
     rw [List.getElem?_map] at f
     cases m:l[j]? with
     | none=>rw [m] at f; cases f
     | some u =>
      rw [m] at f
      obtain ⟨_,cs,ag,aa⟩:=ae j u m
      have ab:=hf.rd ag
      have:=aa 0 c (by rw [ab]; simpa using f)
      rw [ac,Nat.mul_one,Addr.add_zero'] at this
      exact this
theorem PC {e:Ty P Int} (s:Flat e (fun u=>[.int .u8 u])) {S:Nat → Prop} {v:Ac} {l:List Int} (hs:P.underlying U = some (.slice e.tid)) (he:P.underlying e.tid = some (.int .u8)) (hd:P.underlying V = some .string) (g:e.sz = 1) (f:Nat.blt d n = true)
  (hx:B2 σ x = some v) (hr:rdS e S w v l) (h:WL P n ds rest ((d,.string (B1 (Ky l))) :: σ) w Q):WL P n ds (⟨some d,.convert U V x,T,pos,af,none⟩ :: rest) σ w Q :=
 Cx f (fun ρ m=>by simp [execOp,m _ _ hx,YT s hs he hd g hr]) h
end Go.Proofs.YtellehgihceicaaGreatDoor
namespace Go.Proofs.YtellehgihceicaaGreatDoor
open Go Go.RowKit
variable {P:Program} {α β:Type} {n:Nat} {ds:List (Af Tmp)} {d:Nat} {T U V:TypeId} {pos:String} {af:Array Edge} {rest:List Oper} {x y z:Operand} {σ:E1} {w w0:Ae} {Q:Exit → Act → Ae → Prop} {L M:List Res}
theorem TR {e:Ty P α} (hu:P.underlying U = some (.slice e.tid)) {base:Nat} {F F2:Al} {v v2:Ac} {l m r:List α}
  (ho:ownS e F w v l) (bv:ownS e F2 w v2 m) (hF:∀ b ∈ F,base ≤ b) (au:F.Nodup) (bb:F2.Nodup) (ax:∀ b ∈ F,b ∉ F2) (bs:Ck l m = some r) (b3:base ≤ w.heap.size) :
  ∃ v' w' F',(Builtin.append_ #[U,U] T #[v,v2]).run P w = .ok v' w' ∧ ownS e F' w' v' r ∧ w.grownBy w' v.ownBlock ∧ F'.Nodup ∧ (∀ b ∈ F',b ∈ F ∨ b ∈ F2 ∨ (w.heap.size ≤ b ∧ b < w'.heap.size)) ∧ (∀ k,v.ownBlock = some k → k ∈ F):=by
 obtain ⟨rfl,b8⟩:=WY bs
 obtain ⟨i,zz,a0,bx,bi,hz,b7⟩:=e.info
 have bo:zz.cells.size = e.sz:=by rw [b7]; simp; exact e.rd_len (e.own_rd (e.zero_own w))
 have aj:∀ k,v.ownBlock = some k → k ∈ F:=by
  intro k hk
  rcases ho with ⟨h1,h2,h3⟩ | ⟨g,cap,am,css,Fs,h1,h2,h3,h4,h5,h6,h7,h8⟩
  ·rw [h1] at hk; cases hk
  ·rw [h1] at hk
   simp [Value.ownBlock] at hk
   rw [h8,← hk]; simp
 have b6:∃ css Fs,w.ownsRow base e.tid e.sz v l.length css.flatten ∧ Z3 (fun F cs x=>e.own F w cs x) Fs css l ∧ (∀ b ∈ Fs.flatten,b ∈ F) ∧ Fs.flatten.Nodup ∧ (∀ k,v.ownBlock = some k → k ∉ Fs.flatten):=by
  rcases ho with ⟨h1,h2,h3⟩ | ⟨g,cap,am,css,Fs,h1,h2,h3,h4,h5,h6,h7,h8⟩
  ·subst h2
   refine ⟨[],[],⟨by simp,.inl ⟨h1,rfl⟩⟩,trivial,fun b f=>by simp at f,by simp,fun k _=>by simp⟩
  ·subst h8
   rw [List.nodup_cons] at au
   refine ⟨css,Fs,⟨by rw [Kw h7.sz,h7.len.2],.inr ⟨g,cap,am,h1,hF g (by simp),h2,h3,h4,h5,h6⟩⟩,h7,fun b f=>List.mem_cons_of_mem _ f,au.2,fun k hk=>?_⟩
   rw [h1] at hk
   simp [Value.ownBlock] at hk
   rw [← hk]
   exact au.1
 obtain ⟨css,Fs,ba,ao,a3,bp,bc⟩:=b6
 rcases bv with ⟨rfl,rfl,rfl⟩ | ⟨g2,bu,bm,ai,Fs2,rfl,br,cd,cc,cb,b4,ae,rfl⟩
 ·
  have bj:(Builtin.append_ #[U,U] T #[v,.slice none 0 0]).run P w = .ok v w:=by
   rcases ba.2 with ⟨rfl,hn⟩ | ⟨g,c,am,rfl,f,hg,hn,hm,hc,ht⟩
   ·simp [Builtin.append_,run_underlying hu,sizeOf,typeInfo,a0,Builtin.lenOf,Builtin.firstCells,loadCells,loadCellsFrom]
   ·simp [Builtin.append_,run_underlying hu,sizeOf,typeInfo,a0,Builtin.lenOf,Builtin.firstCells,loadCells,loadCellsFrom,hn,storeCells]
  exact ⟨v,w,F,bj,by simpa using ho,⟨rfl,rfl,rfl,Nat.le_refl _,fun _ _ _=>rfl⟩,au,fun b f=>.inl f,aj⟩
 ·have bq:ai.flatten.length = m.length * e.sz:=by rw [Kw ae.sz,ae.len.2]
  have bw:∀ (j:Nat) u,ai.flatten[j]? = some u → w.cell? ((⟨g2,0,none⟩:Addr).add j) = some u:=by
   intro j u hj
   rw [Addr.add_lit,Nat.zero_add,cell_of_row w g2 _ bm e.tid (0,0) br]
   rw [← b4,List.getElem?_take] at hj
   split at hj
   ·simpa using hj
   ·cases hj
  have b9:∀ u ∈ ai.flatten,u.oneCell' = true:=by
   intro u hu
   obtain ⟨c,hc,hu⟩:=List.mem_flatten.1 hu
   obtain ⟨k,hk⟩:=List.getElem?_of_mem hc
   have ab:k < m.length:=by rw [← ae.len.2]; exact (List.getElem?_eq_some_iff.1 hk).1
   obtain ⟨a,b,_,h2,h3⟩:=ae.get k m[k] (by simp [ab])
   rw [hk] at h2
   cases h2
   exact e.rd_one (e.own_rd h3) u hu
  have bl:(l.length + m.length) * e.bts ≤ 140737488355328:=WR b8 e.bts_le
  obtain ⟨v',w',hr,h2,h3,bd⟩:=Ox (P:=P) w base U T e.tid i zz e.sz e.bts hu a0 hz bx bi bo v l.length _ ba ⟨g2,0,none⟩ m.length bu ai.flatten
   bq bw b9 (by simp only [maxLen]; omega) bl b3
  rw [List.nodup_cons] at bb
  have bh:∀ b,b ∈ Fs.flatten ∨ b ∈ Fs2.flatten → w'.heap[b]? = w.heap[b]? ∧ b < w.heap.size:=by
   intro b f
   rcases f with f | f
   ·obtain ⟨G,hG,s⟩:=List.mem_flatten.1 f
    obtain ⟨k,hk⟩:=List.getElem?_of_mem hG
    have ab:k < l.length:=by rw [← ao.len.1]; exact (List.getElem?_eq_some_iff.1 hk).1
    obtain ⟨a,c,ag,_,an⟩:=ao.get k l[k] (by simp [ab])
    rw [hk] at ag
    cases ag
    have ab:=e.own_lt an b s
    exact ⟨h3.block b ab fun h=>bc b h.symm f,ab⟩
   ·obtain ⟨G,hG,s⟩:=List.mem_flatten.1 f
    obtain ⟨k,hk⟩:=List.getElem?_of_mem hG
    have ab:k < m.length:=by rw [← ae.len.1]; exact (List.getElem?_eq_some_iff.1 hk).1
    obtain ⟨a,c,ag,_,an⟩:=ae.get k m[k] (by simp [ab])
    rw [hk] at ag
    cases ag
    have ab:=e.own_lt an b s
    exact ⟨h3.block b ab fun h=>ax b (aj b h.symm) (List.mem_cons_of_mem _ f),ab⟩
  have bk:Z3 (fun F cs x=>e.own F w' cs x) (Fs ++ Fs2) (css ++ ai) (l ++ m):=by
   refine Z3.of (by simp [ao.len.1,ae.len.1]) (by simp [ao.len.2,ae.len.2]) fun k a c x ha hc hx=>?_
   have ca:=Z3.app ao ae
   obtain ⟨a',c',ag,bg,an⟩:=ca.get k x hx
   rw [ha] at ag
   rw [hc] at bg
   cases ag
   cases bg
   refine e.own_keep an fun b f=>(bh b ?_).1
   rcases AX.1 (List.mem_of_getElem? ha) with h | h
   ·exact .inl (List.mem_flatten.2 ⟨a,h,f⟩)
   ·exact .inr (List.mem_flatten.2 ⟨a,h,f⟩)
  rcases h2.2 with ⟨rfl,hn⟩ | ⟨g,c,am,rfl,f,hg,hn,hm,hc,ht⟩
  ·have e1:l = []:=List.eq_nil_of_length_eq_zero (by omega)
   have e2:m = []:=List.eq_nil_of_length_eq_zero (by omega)
   subst e1; subst e2
   exact ⟨_,w',[],hr,.inl ⟨rfl,rfl,rfl⟩,h3,.nil,fun b f=>(by cases f),aj⟩
  ·have b5:g ∉ (Fs ++ Fs2).flatten:=by
    intro s
    rw [List.flatten_append,AX] at s
    rcases bd with h | h
    ·have bt:=aj g (by rw [← h]; rfl)
     rcases s with s | s
     ·exact bc g (by rw [← h]; rfl) s
     ·exact ax g bt (List.mem_cons_of_mem _ s)
    ·simp [Value.ownBlock] at h
     have:=(bh g s).2
     omega
   refine ⟨_,w',g :: (Fs ++ Fs2).flatten,hr,.inr ⟨g,c,am,css ++ ai,Fs ++ Fs2,by simp,hg,by simpa using hn,hm,hc,by simpa using ht,bk,rfl⟩,h3,?_,fun b s=>?_,aj⟩
   ·rw [List.nodup_cons]
    refine ⟨b5,?_⟩
    rw [List.flatten_append,List.nodup_append]
    exact ⟨bp,bb.2,fun a ha b f e=>by subst e; exact ax a (a3 a ha) (List.mem_cons_of_mem _ f)⟩
   ·rcases List.mem_cons.1 s with rfl | s
    ·rcases bd with h | h
     ·exact .inl (aj b (by rw [← h]; rfl))
     ·simp [Value.ownBlock] at h
      exact .inr (.inr ⟨by omega,(Array.getElem?_eq_some_iff.1 hg).1⟩)
    ·rw [List.flatten_append,AX] at s
     rcases s with s | s
     ·exact .inl (a3 b s)
     ·exact .inr (.inl (List.mem_cons_of_mem _ s))
theorem Lb {e:Ty P α} {F F2:Al} {v v2:Ac} {l m r:List α} (hu:P.underlying U = some (.slice e.tid)) (hn:Nat.blt d n = true)
  (hx:B2 σ x = some v) (hy:B2 σ y = some v2) (hB:Below w0.heap.size w0 w) (g:Sep w0.heap.size w (Ab e F v l :: Ab e F2 v2 m :: M)) (ao:Ck l m = some r)
  (h:∀ u F' w',(w.heap.size ≤ w'.heap.size ∧ (∀ b,b < w.heap.size → b ∉ F → w'.heap[b]? = w.heap[b]?) ∧ ∀ b ∈ F',b ∈ F ∨ b ∈ F2 ∨ w.heap.size ≤ b) → Below w0.heap.size w0 w' → Sep w0.heap.size w' (Ab e F' u r :: M) → WL P n ds rest ((d,u) :: σ) w' Q) :
  WL P n ds (⟨some d,.call ⟨.builtin .append,#[x,y],#[U,U]⟩,T,pos,af,none⟩ :: rest) σ w Q:=by
 have ab:=g.get (i:=0) rfl
 have aw:=g.get (i:=1) rfl
 have ak:∀ b ∈ F,b ∉ F2:=g.disj (i:=0) (j:=1) rfl rfl rfl
 obtain ⟨u,w',F',al,ho,s,ax,hF,ac⟩:=TR (T:=T) hu (g.ok (i:=0) rfl:ownS e F w v l) (g.ok (i:=1) rfl:ownS e F2 w v2 m) (fun b f=>(ab.2.1 b f).1) ab.1 aw.1 ak ao hB.size
 have aq:=ab.2.1
 have ap:Sep w0.heap.size w (⟨F ++ F2,fun _=>True⟩ :: M):=g.merge rfl fun _ _ _=>trivial
 have ar:=ap.upd (i:=0) (w':=w') (r':=Ab e F' u r) rfl s.size (fun b _ ad f=>s.block b ad fun e=>f (At _ (ac b e.symm))) ax
  (fun b f=>(hF b f).elim (fun h=>.inl (At _ h)) fun h=>h.elim (fun h=>.inl (Bi _ h)) .inr) hB.size fun ay hk=>ho.keep hk
 exact Cx hn (fun ρ hρ=>by simp [execOp,resolve,invoke,builtin,hρ _ _ hx,hρ _ _ hy,al])
  (h u F' w' ⟨s.size,fun b ad f=>s.block b ad fun e=>f (ac b e.symm),fun b f=>(hF b f).imp id fun h=>h.imp id fun h=>h.1⟩ (hB.grown s hB.size fun k hk=>(aq k (ac k hk)).1) ar)
theorem N5 {e:Ty P α} {F2:Al} {vx:Ac} {vs:List Ac} {u:α} (hu:P.underlying U = some (.slice e.tid)) (hn:Nat.blt d n = true)
  (hx:B2 σ x = some vx) (g:vx.cells = vs.toArray) (ad:Nat.ble e.sz 65536 = true) (hB:Below w0.heap.size w0 w) (m:Sep w0.heap.size w (Qc e F2 vs u :: M))
  (h:∀ v F w',Below w.heap.size w w' → (∀ b ∈ F,b ∈ F2 ∨ w.heap.size ≤ b) → Below w0.heap.size w0 w' → Sep w0.heap.size w' (Ab e F v [u] :: M) → WL P n ds rest ((d,v) :: σ) w' Q) :
  WL P n ds (⟨some d,.buildSlice U 1 #[(0,x)],T,pos,af,none⟩ :: rest) σ w Q:=by
 have ho:e.own F2 w vs u:=m.ok (i:=0) rfl
 have ao:=m.get (i:=0) rfl
 have s:vs.length = e.sz:=e.rd_len (e.own_rd ho)
 have ap:=Nat.le_of_ble_eq_true ad
 have l:Below w.heap.size w (w.alloc (.cells vs.toArray e.tid)):=EO w _
 have aj:=(m.push (r:=⟨[w.heap.size],fun w'=>w'.heap[w.heap.size]? = some (.cells vs.toArray e.tid (0,0))⟩) l (by simp) (fun b f=>by simp at f; subst f; simp) hB.size
  (fun ag hk=>by
   show ag.heap[w.heap.size]? = _
   rw [hk w.heap.size (by simp),heap_alloc_new]))
 have al:=aj.merge (r:=Ab e (w.heap.size :: F2) (.slice (some ⟨w.heap.size,0,none⟩) 1 1) [u]) rfl (fun w1 h1 h2 =>
  .inr ⟨w.heap.size,1,vs.toArray,[vs],[F2],rfl,h1,Nat.le_refl _,by simp [maxLen],by simp [s],by simp [← s],⟨h2,trivial⟩,by simp⟩)
 refine Cx (w':=w.alloc (.cells vs.toArray e.tid)) (v:=.slice (some ⟨w.heap.size,0,none⟩) 1 1) hn (fun ρ hρ=>?_)
  (h _ (w.heap.size :: F2) _ l (fun b f=>(List.mem_cons.1 f).elim (fun h=>.inr (by omega)) .inl) (hB.trans (l.mono hB.size)) al)
 have f:=M6 (P:=P) hu (parts:=[(0,ρ x)]) (css:=[vs]) (by simp [hρ _ _ hx,g]) (fun c g=>by simp at g; subst g; exact s) (by simp; omega) w
 simp only [List.length_singleton,List.flatten_cons,List.flatten_nil,List.append_nil] at f
 simp only [execOp,Array.map,List.map_toArray,Sem.run_bind,f,Result.andThen_ok,Sem.run_pure]
 simp [f]
theorem Sep.take {base:Nat} {w':Ae} {L M N:List Res} (h:Sep base w L) (is u:Al) (hn:NX (is ++ u) = true) (hM:YtellehgihceicaaGreatDoor.Aj L is = M) (ab:Sep 0 w' (A6 w (Be M) :: N)) (m:base ≤ w.heap.size):Sep base w' (N ++ YtellehgihceicaaGreatDoor.Aj L u):=by
 have ao:=M9 ab
 have l:=h.sel (is ++ u) hn
 rw [PH,hM] at l
 have ap:=(List.pairwise_append.1 l.2).2.2
 have ak:=ab.1 _ (List.mem_cons_self ..)
 have ad:=ab.2
 cases ad with
 | cons hr ad =>
  have ac:∀ s ∈ YtellehgihceicaaGreatDoor.Aj L u,∀ b ∈ s.fp,b ∈ (A6 w (Be M)).fp:=fun s v b m=>by
   have g:=l.1 s (by simp [v])
   refine IR.2 ⟨(g.2.1 b m).2,fun hx=>?_⟩
   obtain ⟨t,ht,e⟩:=Kv.1 hx
   exact ap t ht s v b e m
  refine ⟨fun r f=>?_,List.pairwise_append.2 ⟨ad,(List.pairwise_append.1 l.2).2.1,fun r f s v b m e=>hr r f b (ac s v b e) m⟩⟩
  rcases AX.1 f with f | f
  ·have g:=ab.1 r (by simp [f])
   refine ⟨g.1,fun b e=>⟨?_,(g.2.1 b e).2⟩,g.2.2⟩
   by_cases al:b < w.heap.size
   ·by_cases hx:b ∈ Be M
    ·obtain ⟨t,ht,ai⟩:=Kv.1 hx
     exact ((l.1 t (by simp [ht])).2.1 b ai).1
    ·exact absurd e (hr r f b (IR.2 ⟨al,hx⟩))
   ·omega
  ·have g:=l.1 r (by simp [f])
   refine ⟨g.1,fun b e=>⟨(g.2.1 b e).1,(ak.2.1 b (ac r f b e)).2⟩,fun am hk=>g.2.2 am fun b e=>(hk b e).trans ?_⟩
   have:=IR.1 (ac r f b e)
   exact ao b this.1 this.2
theorem Sep.takeB {w':Ae} {L M N:List Res} (h:Sep w0.heap.size w L) (is:Al) (u:NX is = true) (hM:YtellehgihceicaaGreatDoor.Aj L is = M) (e:Below w0.heap.size w0 w) (f:Below 0 (wE w) w') (l:Sep 0 w' (A6 w (Be M) :: N)):Below w0.heap.size w0 w':=by
 have g:∀ b,b < w0.heap.size → b ∈ (A6 w (Be M)).fp:=fun b hb=>IR.2 ⟨by have:=e.size; omega,fun hx=>by
  obtain ⟨s,hs,aa⟩:=Kv.1 hx
  have ac:s ∈ YtellehgihceicaaGreatDoor.Aj L is:=by rw [hM]; exact hs
  have:=((h.sel is u).1 s ac).2.1 b aa
  omega⟩
 have v:=l.1 _ (List.mem_cons_self ..)
 refine ⟨f.os.trans e.os,f.tape.trans e.tape,f.output.trans e.output,?_,fun k m=>(M9 l k (by have:=e.size; omega) (IR.1 (g k m)).2).trans (e.block k m)⟩
 by_cases h0:w0.heap.size = 0
 ·omega
 ·have:=(v.2.1 (w0.heap.size - 1) (g _ (by omega))).2
  omega
end Go.Proofs.YtellehgihceicaaGreatDoor
namespace Go.Proofs.YtellehgihceicaaGreatDoor
open Go Go.RowKit
variable {P:Program} {n:Nat} {ds:List (Af Tmp)} {d:Nat} {T TB U V:TypeId} {pos:String} {af:Array Edge} {rest:List Oper} {x y z:Operand} {σ:E1} {w w0 wS:Ae} {Q:Exit → Act → Ae → Prop} {L:List Res} {X F:Al}
variable {a b c:List Ai} {k k' yk:IntKind} {i j:Int} {S:Ae → Prop} {G:Ac → Prop}
theorem ER (f:Nat.blt d n = true) (m:B2 σ x = some (.string (B1 a))) (l:B2 σ y = some (.string (B1 b))) (g:Ck a b = some c) (h:G (.string (B1 c))):∃ v,PR P n σ S d (.binOp .add T x y U) TB v ∧ G v :=
 ⟨_,⟨f,fun ρ e w _ s pos af u=>by simp only [execOp,e _ _ m,e _ _ l,eqGuard_at_string,Tb g,Sem.run_bind,Sem.run_pure,Result.andThen_ok]⟩,h⟩
theorem Acu {l:Array TypeId} (f:Nat.blt d n = true) (m:B2 σ x = some (.int k i)) (g:B2 σ y = some (.int k j)) (h:G (.int k (Fx i j))):∃ v,PR P n σ S d (.call ⟨.builtin .max,#[x,y],l⟩) T v ∧ G v :=
 ⟨_,⟨f,fun ρ e w _ s pos af u=>by simp [execOp,resolve,invoke,builtin,e _ _ m,e _ _ g,Builtin.max_,Builtin.max2,Fx]⟩,h⟩
theorem Tf {l:Array TypeId} (f:Nat.blt d n = true) (m:B2 σ x = some (.int k i)) (g:B2 σ y = some (.int k j)) (h:G (.int k (Fn i j))):∃ v,PR P n σ S d (.call ⟨.builtin .min,#[x,y],l⟩) T v ∧ G v :=
 ⟨_,⟨f,fun ρ e w _ s pos af u=>by simp [execOp,resolve,invoke,builtin,e _ _ m,e _ _ g,Builtin.min_,Builtin.min2,Fn]⟩,h⟩
theorem PJ {f:TypeDesc} (m:P.underlying U = some f) (l:P.underlying V = some (.int k')) (e:Nat.blt d n = true) (s:B2 σ x = some (.int k i)) (h:G (.int k' (k'.wrap i))):∃ v,PR P n σ S d (.convert U V x) T v ∧ G v :=
 ⟨_,⟨e,fun ρ g w _ u pos af gd=>by simp [execOp,g _ _ s,convert,run_underlying m,run_underlying l,Conv.intToInt]⟩,h⟩
theorem I2 (f:Nat.blt d n = true) (l:B2 σ x = some (.int k i)) (g:B2 σ y = some (.int k j)) (h:WL P n ds rest ((d,.int k (B5 k i j)) :: σ) w Q):WL P n ds (⟨some d,.binOp .and T x y U,TB,pos,af,none⟩ :: rest) σ w Q :=
 Cx f (fun ρ e=>by simp [execOp,e _ _ l,e _ _ g,eqGuard,binOp,Op.intBits,B5]) h
theorem Gi (f:decide (0 ≤ j) = true) (g:Nat.blt d n = true) (s:B2 σ x = some (.int k i)) (l:B2 σ y = some (.int yk j)) (h:WL P n ds rest ((d,.int k (Bq k i j)) :: σ) w Q):WL P n ds (⟨some d,.binOp .shr T x y U,TB,pos,af,none⟩ :: rest) σ w Q :=
 Cx g (fun ρ e=>by
  have m:¬ j < 0:=by simpa using f
  simp [execOp,e _ _ s,e _ _ l,eqGuard,binOp,Op.shift,m,Bq]) h
theorem J8 (f:decide (0 ≤ j) = true) (g:Nat.blt d n = true) (s:B2 σ x = some (.int k i)) (l:B2 σ y = some (.int yk j)) (h:WL P n ds rest ((d,.int k (K0 k i j)) :: σ) w Q):WL P n ds (⟨some d,.binOp .shl T x y U,TB,pos,af,none⟩ :: rest) σ w Q :=
 Cx g (fun ρ e=>by
  have m:¬ j < 0:=by simpa using f
  simp [execOp,e _ _ s,e _ _ l,eqGuard,binOp,Op.shift,m,K0]) h
theorem KeepX.wr' {wS w w':Ae} {X F:Al} (h:KeepX wS X w) (m:w.heap.size ≤ w'.heap.size) (u:∀ b,b < w.heap.size → b ∉ F → w'.heap[b]? = w.heap[b]?) (s:∀ b,b < wS.heap.size → b ∈ F → b ∈ X):KeepX wS X w' :=
 ⟨fun b h1 g=>Nat.lt_of_lt_of_le (h.lt b h1 g) m,fun b e f=>(u b (h.lt b e f) fun l=>f (s b e l)).trans (h.blk b e f)⟩
theorem KeepX.below {wS w w0:Ae} {k:Nat} (h:KeepX wS [] w) (f:wS.heap.size ≤ w.heap.size) (h1:Below k w0 wS) (e:Below k w0 w):Below wS.heap.size wS w :=
 ⟨e.os.trans h1.os.symm,e.tape.trans h1.tape.symm,e.output.trans h1.output.symm,f,fun b g=>h.blk b g (by simp)⟩
variable {ops:List Oper} {fuel:Nat} {li:List Bool}
theorem C0 {is:Al} (u:Region.ready .any ops.toArray li.toArray = is) (f:is.isEmpty = false)
  (h:∀ i ∈ is,∃ o,ops[i]? = some o ∧ WL P n (ops.map (·.dst)) [o] σ w (Exit.then (fun a w=>S w ∧ wpAnyH P .any ops.toArray Q S fuel (li.set i true).toArray a w) Q)):WH P n ops S (fuel + 1) li σ w Q:=by
 intro a l
 refine wpAnyH_all u (by intro e; rw [e] at f; simp at f) fun i g=>?_
 obtain ⟨o,m,s⟩:=h i g
 have:=Nu m s l
 simpa using this
end Go.Proofs.YtellehgihceicaaGreatDoor
namespace Go.Proofs.YtellehgihceicaaGreatDoor
open Go Go.RowKit
variable {P:Program} {α:Type} {n:Nat} {ds:List (Af Tmp)} {d:Nat} {T U:TypeId} {pos:String} {af:Array Edge} {rest:List Oper} {σ:E1} {w w0:Ae} {Q:Exit → Act → Ae → Prop} {L:List Res}
theorem TK {e:Ty P α} (hu:P.underlying U = some (.slice e.tid)) (m:Nat.blt d n = true) (l:Below w0.heap.size w0 w) (hS:Sep w0.heap.size w L)
  (h:∀ v F w',Below w.heap.size w w' → Below w0.heap.size w0 w' → Sep w0.heap.size w' (Ab e F v ([]:List α) :: L) → WL P n ds rest ((d,v) :: σ) w' Q) :
  WL P n ds (⟨some d,.buildSlice U 0 #[],T,pos,af,none⟩ :: rest) σ w Q:=by
 have g:Below w.heap.size w (w.alloc (.cells #[] e.tid)):=EO w _
 refine Cx (w':=w.alloc (.cells #[] e.tid)) (v:=.slice (some ⟨w.heap.size,0,none⟩) 0 0) m (fun ρ hρ=>?_)
  (h _ [w.heap.size] _ g (l.trans (g.mono l.size)) (hS.push g (by simp [Ab]) (fun b f=>by simp [Ab] at f; subst f; simp) l.size fun ad s=>?_))
 ·have f:=M6 (P:=P) hu (parts:=[]) (css:=[]) rfl (fun c hc=>by cases hc) (by simp) w
  simp only [List.length_nil,List.flatten_nil] at f
  simp [execOp,f]
 ·have u:=s w.heap.size (by simp [Ab])
  exact .inr ⟨w.heap.size,0,#[],[],[],rfl,by rw [u,heap_alloc_new],Nat.le_refl _,by simp [maxLen],by simp,by simp,trivial,rfl⟩
end Go.Proofs.YtellehgihceicaaGreatDoor
namespace Go.Proofs.YtellehgihceicaaGreatDoor
open Go Go.RowKit
variable {P:Program} {α:Type} {n:Nat} {ds:List (Af Tmp)} {d:Nat} {T U:TypeId} {pos:String} {af:Array Edge} {rest:List Oper} {x y z:Operand} {σ:E1} {w w0:Ae} {Q:Exit → Act → Ae → Prop} {L M:List Res} {S:Ae → Prop} {G:Ac → Prop}
def SlOf (sz:Nat) (v v':Ac) (lo hi:Nat):Prop:=∃ a n c,v = .slice a n c ∧ v' = .slice (if c = lo then a else a.map (·.add (lo * sz))) (hi - lo) (c - lo)
theorem VE {l u:List α} {f e:Int} (h:sl l f e = some u):e.toNat ≤ l.length ∧ u = (l.take e.toNat).drop f.toNat:=by
 unfold sl at h
 split at h
 ·exact ⟨by omega,(Option.some.inj h).symm⟩
 ·cases h
theorem Sep.shrink {base:Nat} {w:Ae} {M:List Res} {r r':Res} (h:Sep base w (r :: M)) (aa:r'.fp.Nodup) (g:∀ b ∈ r'.fp,b ∈ r.fp) (u:∀ w',(∀ b ∈ r'.fp,w'.heap[b]? = w.heap[b]?) → r'.ok w'):Sep base w (r' :: M):=by
 obtain ⟨h1,v⟩:=h
 cases v with
 | cons hd m =>
  refine ⟨fun s e=>?_,.cons (fun s e b f=>hd s e b (g b f)) m⟩
  cases e with
  | head =>
   have l:=h1 r (by simp)
   exact ⟨aa,fun b f=>l.2.1 b (g b f),u⟩
  | tail _ e=>exact h1 s (.tail _ e)
theorem RX {e:Ty P α} {a:Af Addr} {len cap:Nat} {f g:Int} (hu:P.underlying U = some (.slice e.tid)) (l:0 ≤ f) (h1:f ≤ g) (h2:g ≤ (cap:Int)) (ai:len ≤ cap) (vlo vhi u:Af Ac) (w:Ae)
  (s:(vlo = none ∧ f = 0) ∨ ∃ k,vlo = some (.int k f)) (ag:(vhi = none ∧ g = len) ∨ ∃ k,vhi = some (.int k g)) (hm:u = none) :
  (Instr.sliceAt U (.slice a len cap) vlo vhi u).run P w = .ok (.slice (if cap = f.toNat then a else a.map (·.add (f.toNat * e.sz))) (g.toNat - f.toNat) (cap - f.toNat)) w:=by
 subst hm
 obtain ⟨i,z,v,ac,_⟩:=e.info
 have ae:(Instr.sliceBounds true len cap vlo vhi none).run P w = .ok (f.toNat,g.toNat,cap) w:=by
  have m:0 ≤ g ∧ g ≤ (cap:Int):=⟨by omega,h2⟩
  rcases ag with ⟨rfl,rfl⟩ | ⟨k,rfl⟩
  ·rcases s with ⟨rfl,rfl⟩ | ⟨k',rfl⟩
   ·simp [Instr.sliceBounds]
   ·have h:0 ≤ f ∧ f ≤ (len:Int):=⟨l,h1⟩
    simp [Instr.sliceBounds,Instr.sliceBound,asIntOf,h]
  ·rcases s with ⟨rfl,rfl⟩ | ⟨k',rfl⟩
   ·simp [Instr.sliceBounds,Instr.sliceBound,asIntOf,m]
   ·have e1:((g.toNat:Nat):Int) = g:=by omega
    have h:0 ≤ f ∧ f ≤ ((g.toNat:Nat):Int):=⟨l,by omega⟩
    simp only [Instr.sliceBounds,Instr.sliceBound,asIntOf,Sem.run_bind,Sem.run_pure,Result.andThen_ok,m,and_self,if_true,h,Option.isSome_none]
 simp [Instr.sliceAt,Instr.slice,run_underlying hu,ae,sizeOf,typeInfo,v,ac]
theorem Nv {e:Ty P α} {S1:Nat → Prop} {w1:Ae} {v:Ac} {l m:List α} {s g:Int} {aa u:Af Operand} (hu:P.underlying U = some (.slice e.tid)) (hn:Nat.blt d n = true)
  (hx:B2 σ x = some v) (hr:rdS e S1 w1 v l) (hm:sl l s g = some m)
  (ao:(aa = none ∧ s = 0) ∨ ∃ o k,aa = some o ∧ B2 σ o = some (.int k s)) (aj:(u = none ∧ g = l.length) ∨ ∃ o k,u = some o ∧ B2 σ o = some (.int k g))
  (h:∀ v',rdS e S1 w1 v' m → SlOf e.sz v v' s.toNat g.toNat → WL P n ds rest ((d,v') :: σ) w Q):WL P n ds (⟨some d,.slice U x aa u none,T,pos,af,none⟩ :: rest) σ w Q:=by
 obtain ⟨v',ah,ar⟩:=LV hu hr hm
 obtain ⟨a,cap,hv,hc,_⟩:=hr
 unfold sl at hm
 split at hm
 case isFalse=>cases hm
 rename_i hb
 have an:(aa.map (fun _=>Value.int .i64 s) = none ∧ s = 0) ∨ ∃ k,aa.map (fun _=>Value.int .i64 s) = some (.int k s):=by
  rcases ao with ⟨h,f⟩ | ⟨o,k,h,_⟩
  ·exact .inl ⟨by rw [h]; rfl,f⟩
  ·exact .inr ⟨.i64,by rw [h]; rfl⟩
 have ak:(u.map (fun _=>Value.int .i64 g) = none ∧ g = l.length) ∨ ∃ k,u.map (fun _=>Value.int .i64 g) = some (.int k g):=by
  rcases aj with ⟨h,f⟩ | ⟨o,k,h,_⟩
  ·exact .inl ⟨by rw [h]; rfl,f⟩
  ·exact .inr ⟨.i64,by rw [h]; rfl⟩
 have h1:=ah _ _ w an ak
 have h2:=RX (P:=P) (e:=e) (a:=a) (len:=l.length) (cap:=cap) hu hb.1 hb.2.1 (by omega) hc _ _ none w an ak rfl
 rw [hv] at h1
 rw [h1] at h2
 injection h2 with h2 _
 refine Cx hn (fun ρ hρ=>?_) (h v' ar ⟨a,l.length,cap,hv,h2⟩)
 have:=ah (aa.map ρ) (u.map ρ) w (ao.imp (fun ⟨h,f⟩=>⟨by rw [h]; rfl,f⟩) fun ⟨o,k,h,f⟩=>⟨k,by rw [h]; simp [hρ _ _ f]⟩)
  (aj.imp (fun ⟨h,f⟩=>⟨by rw [h]; rfl,f⟩) fun ⟨o,k,h,f⟩=>⟨k,by rw [h]; simp [hρ _ _ f]⟩)
 simp [execOp,hρ _ _ hx,this]
theorem Td {e:Ty P α} {S1:Nat → Prop} {w1:Ae} {v:Ac} {l m:List α} {s g:Int} {ab u:Af Operand} (hu:P.underlying U = some (.slice e.tid)) (hn:Nat.blt d n = true)
  (hx:B2 σ x = some v) (hr:rdS e S1 w1 v l) (hm:sl l s g = some m)
  (ap:(ab = none ∧ s = 0) ∨ ∃ o k,ab = some o ∧ B2 σ o = some (.int k s)) (ak:(u = none ∧ g = l.length) ∨ ∃ o k,u = some o ∧ B2 σ o = some (.int k g))
  (h:∀ v',rdS e S1 w1 v' m → SlOf e.sz v v' s.toNat g.toNat → G v'):∃ v,PR P n σ S d (.slice U x ab u none) T v ∧ G v:=by
 obtain ⟨v',ai,ar⟩:=LV hu hr hm
 obtain ⟨a,cap,hv,hc,_⟩:=hr
 unfold sl at hm
 split at hm
 case isFalse=>cases hm
 rename_i hb
 have ao:(ab.map (fun _=>Value.int .i64 s) = none ∧ s = 0) ∨ ∃ k,ab.map (fun _=>Value.int .i64 s) = some (.int k s):=by
  rcases ap with ⟨h,f⟩ | ⟨o,k,h,_⟩
  ·exact .inl ⟨by rw [h]; rfl,f⟩
  ·exact .inr ⟨.i64,by rw [h]; rfl⟩
 have al:(u.map (fun _=>Value.int .i64 g) = none ∧ g = l.length) ∨ ∃ k,u.map (fun _=>Value.int .i64 g) = some (.int k g):=by
  rcases ak with ⟨h,f⟩ | ⟨o,k,h,_⟩
  ·exact .inl ⟨by rw [h]; rfl,f⟩
  ·exact .inr ⟨.i64,by rw [h]; rfl⟩
 have h1:=ai _ _ w1 ao al
 have h2:=RX (P:=P) (e:=e) (a:=a) (len:=l.length) (cap:=cap) hu hb.1 hb.2.1 (by omega) hc _ _ none w1 ao al rfl
 rw [hv] at h1
 rw [h1] at h2
 injection h2 with h2 _
 refine ⟨v',⟨hn,fun ρ hρ w _ ax pos af gd=>?_⟩,h v' ar ⟨a,l.length,cap,hv,h2⟩⟩
 have:=ai (ab.map ρ) (u.map ρ) w (ap.imp (fun ⟨h,f⟩=>⟨by rw [h]; rfl,f⟩) fun ⟨o,k,h,f⟩=>⟨k,by rw [h]; simp [hρ _ _ f]⟩)
  (ak.imp (fun ⟨h,f⟩=>⟨by rw [h]; rfl,f⟩) fun ⟨o,k,h,f⟩=>⟨k,by rw [h]; simp [hρ _ _ f]⟩)
 simp [execOp,hρ _ _ hx,this]
theorem SlOf.inv {sz:Nat} {a:Af Addr} {n c f g:Nat} {l:Ac} (h:SlOf sz (.slice a n c) l f g):l = .slice (if c = f then a else a.map (·.add (f * sz))) (g - f) (c - f):=by
 obtain ⟨s,m,c',e,h⟩:=h
 cases e
 exact h
theorem RN {Fs Gs:List (Al)} (h:Gs.Sublist Fs):Gs.flatten.Sublist Fs.flatten:=by
 induction h with
 | slnil=>exact .slnil
 | cons a _ e=>rw [List.flatten_cons]; exact List.Sublist.trans e (List.sublist_append_right _ _)
 | cons_cons a _ e=>rw [List.flatten_cons,List.flatten_cons]; exact List.Sublist.append (List.Sublist.refl _) e
theorem Z3.take {R:Al → List Ac → α → Prop}:∀ (k:Nat) {Fs:List (Al)} {css:List (List Ac)} {l:List α},Z3 R Fs css l → Z3 R (Fs.take k) (css.take k) (l.take k)
 | 0,_,_,_,_=>by simp only [List.take_zero]; trivial
 | k + 1,[],[],[],h=>by simp only [List.take_nil]; trivial
 | k + 1,_ :: _,_ :: _,_ :: _,h=>by simp only [List.take_succ_cons]; exact ⟨h.1,Z3.take k h.2⟩
theorem Z3.drop {R:Al → List Ac → α → Prop}:∀ (k:Nat) {Fs:List (Al)} {css:List (List Ac)} {l:List α},Z3 R Fs css l → Z3 R (Fs.drop k) (css.drop k) (l.drop k)
 | 0,_,_,_,h=>by simpa only [List.drop_zero] using h
 | k + 1,[],[],[],h=>by simp only [List.drop_nil]; trivial
 | k + 1,_ :: _,_ :: _,_ :: _,h=>by simp only [List.drop_succ_cons]; exact Z3.drop k h.2
theorem QW {sz:Nat}:∀ (css:List (List Ac)) (k:Nat),(∀ c ∈ css,c.length = sz) → k ≤ css.length → css.flatten.take (k * sz) = (css.take k).flatten
 | css,0,_,_=>by simp
 | [],k + 1,_,h=>by simp at h
 | c :: css,k + 1,hc,h=>by
  have h1:=hc c (by simp)
  rw [List.flatten_cons,List.take_succ_cons,List.flatten_cons,Nat.succ_mul,Nat.add_comm,← h1,List.take_length_add_append,h1,QW css k (fun c e=>hc c (by simp [e])) (by simpa using h)]
theorem XG {e:Ty P α} {F:Al} {v u:Ac} {l:List α} {k:Nat} (ho:ownS e F w v l) (al:F.Nodup) (hs:SlOf e.sz v u 0 k) (f:k ≤ l.length):∃ F',ownS e F' w u (l.take k) ∧ F'.Nodup ∧ ∀ b ∈ F',b ∈ F:=by
 rcases ho with ⟨rfl,rfl,rfl⟩ | ⟨g,cap,ak,css,Fs,rfl,hg,hn,hm,hc,ht,m,rfl⟩
 ·have s:=hs.inv
  simp at f
  subst f
  exact ⟨[],.inl ⟨by simpa using s,by simp,rfl⟩,.nil,fun _ h=>h⟩
 ·have s:=hs.inv
  have ag:u = .slice (some ⟨g,0,none⟩) k cap:=by
   rw [s]
   by_cases h0:cap = 0
   ·simp [h0]
   ·simp [h0,Addr.add_zero']
  obtain ⟨n1,n2⟩:=m.len
  refine ⟨g :: (Fs.take k).flatten,.inr ⟨g,cap,ak,css.take k,Fs.take k,by rw [ag,List.length_take,Nat.min_eq_left f],hg,by rw [List.length_take]; omega,hm,hc,?_,Z3.take k m,rfl⟩,?_,fun b hb=>?_⟩
  ·rw [List.length_take,Nat.min_eq_left f,← QW css k m.sz (by omega),← ht,List.take_take,Nat.min_eq_left (Nat.mul_le_mul_right _ f)]
  ·exact List.Nodup.sublist (List.Sublist.cons_cons g (RN (List.take_sublist k Fs))) al
  ·exact (List.Sublist.cons_cons g (RN (List.take_sublist k Fs))).subset hb
theorem Ij {f:FuncId} {e:Func} {c:Code} {g:List Ac} {w:Ae} {R:Ending → Ae → Prop} {n:Nat}
  (m:P.funcs[f]? = some e) (s:e.body = some c) (l:e.ntmps = n) (hl:g.length + (n - g.length) = n) {σ:E1} (u:σ = g.zipIdx.map (fun p=>(p.2,p.1)))
  (h:∀ Q:Exit → Act → Ae → Prop,(∀ a w,bodyPost P e R .normal a w → Q .normal a w) → (∀ a w,bodyPost P e R .ret a w → Q .ret a w) → IX Q → W P n c σ w Q):Calls P f g.toArray w R :=
 WQ m s l hl u (h _ (fun _ _ h=>h) (fun _ _ h=>h) fun c a d v w h=>by cases d <;> exact h)
theorem LW {e:Func} {R:Ending → Ae → Prop} {rs:List ResultVar} {vs:List Ac} {Q:Exit → Act → Ae → Prop} (f:∀ a w,bodyPost P e R .normal a w → Q .normal a w) (g:e.results = rs.toArray) (l:RVs P n σ w rs vs) (h:R (.returned (PE vs)) w) :
  ∀ a,St n σ a → Q .normal a w :=
 IM (Q:=fun _ a w=>Q .normal a w) (fun a w h=>f a w h) g l h
theorem EAt.keepS {S S':Nat → Prop} {p:Addr} {cs:List Ac} {w w':Ae} (h:EAt S w p cs) (g:∀ b,S b → w'.heap[b]? = w.heap[b]?) (e:∀ b,S b → S' b):EAt S' w' p cs :=
 ⟨e _ h.1,fun j c f=>by
  rw [O7 (w:=w) (w':=w') (a:=p.add j) (by rw [JV]; exact g _ h.1)]
  exact h.2 j c f⟩
theorem Sep.split2 {base:Nat} {r r1 r2:Res} (h:Sep base w (r :: M)) (l:r.fp = r1.fp ++ r2.fp) (g1:∀ w',(∀ b ∈ r1.fp,w'.heap[b]? = w.heap[b]?) → r1.ok w') (g2:∀ w',(∀ b ∈ r2.fp,w'.heap[b]? = w.heap[b]?) → r2.ok w'):Sep base w (r1 :: r2 :: M):=by
 obtain ⟨h1,h2⟩:=h
 have g:=h1 r (by simp)
 have m:=g.1
 rw [l,List.nodup_append] at m
 cases h2 with
 | cons v ht =>
  refine ⟨fun s e=>?_,.cons (fun s e b f u=>?_) (.cons (fun s e b f=>v s e b (by rw [l]; exact Bi _ f)) ht)⟩
  ·cases e with
   | head=>exact ⟨m.1,fun b f=>g.2.1 b (by rw [l]; exact At _ f),g1⟩
   | tail _ e =>
    cases e with
    | head=>exact ⟨m.2.1,fun b f=>g.2.1 b (by rw [l]; exact Bi _ f),g2⟩
    | tail _ e=>exact h1 s (.tail _ e)
  ·cases e with
   | head=>exact m.2.2 b f b u rfl
   | tail _ e=>exact v s e b (by rw [l]; exact At _ f) u
end Go.Proofs.YtellehgihceicaaGreatDoor
namespace Go.Proofs.YtellehgihceicaaGreatDoor
open Go Go.RowKit
variable {P:Program} {α:Type} {n:Nat} {w w0:Ae} {L M:List Res}
end Go.Proofs.YtellehgihceicaaGreatDoor
namespace Go.Proofs.YtellehgihceicaaGreatDoor
open Go Go.RowKit
variable {P:Program} {α:Type} {n:Nat} {ds:List (Af Tmp)} {d:Nat} {T U:TypeId} {pos:String} {af:Array Edge} {rest:List Oper} {x y z:Operand} {σ:E1} {w w0:Ae} {Q:Exit → Act → Ae → Prop}
theorem VM {f:FuncId} {g:Func} {e:Array Ac → Sem Ac} {xs:List Operand} {ts:Array TypeId} {vs:List Ac} {v:Ac} (m:Nat.blt d n = true)
  (hf:P.funcs[f]? = some g) (u:(g.name == "runtime.NumGoroutine") = false) (hb:g.body.isNone = true) (aa:Extern.findNext g = none) (he:Extern.find g = some e)
  (hx:xs.map (B2 σ) = vs.map some) (hr:(e vs.toArray).run P w = .ok v w) (h:WL P n ds rest ((d,v) :: σ) w Q) :
  WL P n ds (⟨some d,.call ⟨.value (.func f),xs.toArray,ts⟩,T,pos,af,none⟩ :: rest) σ w Q :=
 Cx m (fun ρ l=>by
  have ab:=QY hx ρ l
  have s:(callFunc f vs.toArray).run P w = .ok (.value v) w:=by rw [run_callFunc_extern hf u hb aa he,hr]; rfl
  have ae:=l (.func f) _ rfl
  simp [execOp,resolve,Deferred.ofValue,invoke,ab,s,ae]) h
theorem Zz {p q:Nat → Bool}:∀ {l:Al},(∀ x ∈ l,p x = q x) → l.find? p = l.find? q:=by
 intro l
 induction l with
 | nil=>intro _; rfl
 | cons a l e=>intro h; rw [List.find?_cons,List.find?_cons,h a (by simp),e fun x f=>h x (by simp [f])]
theorem Zx (l:List Ai) (c:Int):firstIdx (B1 l) c.toNat.toUInt8 = PU l c:=by
 unfold firstIdx PU
 have f:(B1 l).size = l.length:=by simp [B1,ByteArray.size]
 have g:∀ i ∈ List.range l.length,((B1 l)[i]! == c.toNat.toUInt8) = (l[i]? == some c.toNat.toUInt8):=by
  intro i h
  have e:i < l.length:=List.mem_range.1 h
  have:(B1 l)[i]! = l[i]:=by
   rw [getElem!_pos (B1 l) i (by rw [f]; exact e)]
   rfl
  rw [this,Cp e]
  simp
 rw [f,Zz g]
 rfl
theorem ZR (l:List Ai) (c:Int):(Extern.BytealgIndexByte.indexByte #[.string (B1 l),.int .u8 c]).run P w = .ok (.int .i64 (PU l c)) w:=by
 rw [run_indexByte_string,Zx]
theorem ZS (l:List Ai) (c:Int):(Extern.BytealgCount.count #[.string (B1 l),.int .u8 c]).run P w = .ok (.int .i64 (Yy l c)) w:=by
 rw [Lib.run_countString]
 rfl
theorem BC {p:Addr} (e:Nat.blt d n = true) (f:B2 σ x = some (.pointer (some p))) (h:WL P n ds rest ((d,.pointer (some p)) :: σ) w Q) :
  WL P n ds (⟨some d,.nilCheck x,T,pos,af,none⟩ :: rest) σ w Q :=
 Cx e (fun ρ g=>by simp [execOp,g _ _ f]) h
theorem B8 {S:Ae → Prop} {G:Ac → Prop} {p:Addr} (e:Nat.blt d n = true) (g:B2 σ x = some (.pointer (some p))) (h:G (.pointer (some p))):∃ v,PR P n σ S d (.nilCheck x) T v ∧ G v :=
 ⟨_,⟨e,fun ρ f w s l pos af m=>by simp [execOp,f _ _ g]⟩,h⟩
theorem H6 {e:Ty P α} {F:Al} {v:Ac} {l:List α} {k:IntKind} {f:Int} {u:α} {i:Nat} {L:List Res} (hu:P.underlying U = some (.slice e.tid)) (hn:Nat.blt d n = true)
  (hx:B2 σ x = some v) (hy:B2 σ y = some (.int k f)) (hS:Sep w0.heap.size w L) (hg:Eo L i = some (Ab e F v l)) (hi:AM l f = some u)
  (h:∀ p cs,e.rd (· ∈ F) w cs u → EAt (· ∈ F) w p cs → OPtr e.sz v p f.toNat 0 → WL P n ds rest ((d,.pointer (some p)) :: σ) w Q):WL P n ds (⟨some d,.indexAddr U x y,T,pos,af,none⟩ :: rest) σ w Q:=by
 have ho:ownS e F w v l:=hS.ok hg
 have hr:=ho.rd
 obtain ⟨h0,hl,aa⟩:=MA hi
 rcases ho with ⟨_,rfl,_⟩ | ⟨g,cap,a1,css,Fs,hv,bb,az,hm,hc,ht,hz,hF⟩
 ·simp at aa
 ·subst hv
  obtain ⟨a,a3,he,a7,s⟩:=hr
  injection he with m bc a6
  rcases s with rfl | ⟨ad,rfl,s⟩
  ·simp at aa
  ·injection m with m
   subst m
   obtain ⟨ii,zz,ap,aq,_⟩:=e.info
   obtain ⟨hb,cs,ak,ai⟩:=s _ _ hl
   have ag:0 ≤ f ∧ f < (l.length:Int):=⟨h0,by omega⟩
   refine Cx hn (fun ρ hρ=>?_) (h _ cs ak ⟨hb,ai⟩ ⟨g,_,_,rfl,by rw [Addr.add_lit,Nat.zero_add,Nat.add_zero]⟩)
   simp [execOp,hρ _ _ hx,hρ _ _ hy,Instr.indexAt,asIntOf,run_underlying hu,sizeOf,typeInfo,ap,aq,ag]
theorem CA {S:Ae → Prop} {G:Ac → Prop} {e:Ty P α} {F:Al} {v:Ac} {l:List α} {k:IntKind} {f:Int} {u:α} {i:Nat} {L:List Res} {w:Ae} (hu:P.underlying U = some (.slice e.tid)) (hn:Nat.blt d n = true)
  (hx:B2 σ x = some v) (hy:B2 σ y = some (.int k f)) (hS:Sep w0.heap.size w L) (hg:Eo L i = some (Ab e F v l)) (hi:AM l f = some u)
  (h:∀ p cs,e.rd (· ∈ F) w cs u → EAt (· ∈ F) w p cs → OPtr e.sz v p f.toNat 0 → G (.pointer (some p))):∃ v,PR P n σ S d (.indexAddr U x y) T v ∧ G v:=by
 have ho:ownS e F w v l:=hS.ok hg
 have hr:=ho.rd
 obtain ⟨h0,hl,aa⟩:=MA hi
 rcases ho with ⟨_,rfl,_⟩ | ⟨g,cap,a2,css,Fs,hv,bd,az,hm,hc,ht,hz,hF⟩
 ·simp at aa
 ·subst hv
  obtain ⟨a,a4,he,a9,s⟩:=hr
  injection he with m be a8
  rcases s with rfl | ⟨ad,rfl,s⟩
  ·simp at aa
  ·injection m with m
   subst m
   obtain ⟨ii,zz,ap,aq,_⟩:=e.info
   obtain ⟨hb,cs,ak,ai⟩:=s _ _ hl
   have ag:0 ≤ f ∧ f < (l.length:Int):=⟨h0,by omega⟩
   refine ⟨_,⟨hn,fun ρ hρ w _ a6 pos af gd=>?_⟩,h _ cs ak ⟨hb,ai⟩ ⟨g,_,_,rfl,by rw [Addr.add_lit,Nat.zero_add,Nat.add_zero]⟩⟩
   simp [execOp,hρ _ _ hx,hρ _ _ hy,Instr.indexAt,asIntOf,run_underlying hu,sizeOf,typeInfo,ap,aq,ag]
theorem Aau {b:Nat} {V V':TypeId} {cs cs':List Ac} {N:List Res} {w w':Ae} (f:Sep 0 w' (A6 w (Be [A5 b V cs]) :: A5 b V' cs' :: N)) :
  w.heap.size ≤ w'.heap.size ∧ (∀ c,c < w.heap.size → c ∉ [b] → w'.heap[c]? = w.heap[c]?) ∧ ∀ c ∈ [b],c ∈ [b] ∨ w.heap.size ≤ c:=by
 have l:∀ c,c ∈ Be [A5 b V cs] ↔ c = b:=fun c=>by simp [Be,A5]
 refine ⟨?_,fun c e g=>M9 f c e (fun h=>g (by rw [(l c).1 h]; simp)),fun c e=>.inl e⟩
 by_cases m:w.heap.size = 0
 ·omega
 ·by_cases g:w.heap.size - 1 = b
  ·have:=((f.1 (A5 b V' cs') (by simp)).2.1 b (by simp [A5])).2
   omega
  ·have:=((f.1 _ (List.mem_cons_self ..)).2.1 (w.heap.size - 1) (IR.2 ⟨by omega,fun h=>g ((l _).1 h)⟩)).2
   omega
theorem W5:∀ {L:List Res} {i:Nat} {r:Res},Eo L i = some r → r ∈ L
 | [],_,_,h=>by cases h
 | a :: L,0,r,h=>by cases h; simp
 | a :: L,i + 1,r,h=>List.mem_cons_of_mem _ (W5 (L:=L) h)
section
variable {L M:List Res} {sz:Nat} {agg:Bool} {zv:Ac}
end
section
variable {S:Ae → Prop} {op:Op} {ops:List Oper} {fuel:Nat} {li:List Bool} {o:Oper}
theorem Ad (i:Nat) (s:ops[i]? = some ⟨some d,op,T,pos,af,none⟩) (e:IX Q) (g:S w) (h:∃ v,PR P n σ S d op T v ∧ WH P n ops S fuel (li.set i true) ((d,v) :: σ) w Q)
  (l:Region.noSelect ops.toArray = true:=by kernel_rfl) (f:Region.free .any ops.toArray li.toArray i = true:=by kernel_rfl) (m:(Region.ready .any ops.toArray li.toArray).contains i = true:=by kernel_rfl):WH P n ops S (fuel + 1) li σ w Q :=
 Aa2 s l f m e g h
theorem Av (i:Nat) (f:ops[i]? = some o) (h:WL P n (ops.map (·.dst)) [o] σ w (Exit.then (fun a w=>S w ∧ wpAnyH P .any ops.toArray Q S fuel (li.set i true).toArray a w) Q))
  (e:Region.ready .any ops.toArray li.toArray = [i]:=by kernel_rfl):WH P n ops S (fuel + 1) li σ w Q:=Adq e f h
end
section
variable {L M:List Res} {sz:Nat} {agg:Bool} {zv:Ac} {base:Nat}
end
section
variable {L M:List Res} {base:Nat}
def semiS (e:Ty P α) (F:Al) (w:Ae) (v:Ac) (l:List α):Prop :=
 ∃ (css:List (List Ac)) (G:Al),w.ownsRow 0 e.tid e.sz v l.length css.flatten ∧ css.length = l.length ∧ (∀ (j:Nat) c x,css[j]? = some c → l[j]? = some x → e.rd (· ∈ G) w c x) ∧
  (∀ k,v.ownBlock = some k → k ∈ F ∧ k ∉ G) ∧ ∀ b ∈ G,b ∈ F
theorem Abq {e:Ty P α} {G:Al} {w:Ae} {css:List (List Ac)} {l:List α} (s:css.length = l.length) (h:∀ (j:Nat) c x,css[j]? = some c → l[j]? = some x → e.rd (· ∈ G) w c x):∀ c ∈ css,c.length = e.sz:=by
 intro c m
 obtain ⟨j,f⟩:=List.getElem?_of_mem m
 have g:j < l.length:=by rw [← s]; exact (List.getElem?_eq_some_iff.1 f).1
 exact e.rd_len (h j c l[j] f (by simp [g]))
theorem semiS.keep {e:Ty P α} {F:Al} {w w':Ae} {v:Ac} {l:List α} (h:semiS e F w v l) (hk:∀ b ∈ F,w'.heap[b]? = w.heap[b]?):semiS e F w' v l:=by
 obtain ⟨css,G,h1,h2,h3,u,s⟩:=h
 refine ⟨css,G,⟨h1.1,?_⟩,h2,fun j c x hc hx=>e.rd_keep (h3 j c x hc hx) fun b f=>hk b (s b f),u,s⟩
 rcases h1.2 with h | ⟨g,cap,aj,m,f,hg,hn,hm,hs,ht⟩
 ·exact .inl h
 ·exact .inr ⟨g,cap,aj,m,f,by rw [hk g (u g (by rw [m]; rfl)).1]; exact hg,hn,hm,hs,ht⟩
theorem semiS.rd {e:Ty P α} {F:Al} {w:Ae} {v:Ac} {l:List α} (h:semiS e F w v l):rdS e (· ∈ F) w v l:=by
 obtain ⟨css,G,h1,h2,h3,h5,h6⟩:=h
 rcases h1.2 with ⟨f,s⟩ | ⟨g,cap,am,f,hb,hg,s,hm,hs,ht⟩
 ·have:l = []:=List.eq_nil_of_length_eq_zero s
  subst this
  exact ⟨none,0,f,Nat.le_refl _,.inl rfl⟩
 ·refine ⟨_,cap,f,s,.inr ⟨⟨g,0,none⟩,rfl,fun i x hx=>?_⟩⟩
  have ah:i < css.length:=by rw [h2]; exact (List.getElem?_eq_some_iff.1 hx).1
  obtain ⟨c,hc⟩:∃ c,css[i]? = some c:=⟨_,Cp ah⟩
  refine ⟨by rw [JV]; exact (h5 g (by rw [f]; rfl)).1,c,e.rd_mono (h3 i c x hc hx) fun y hy=>h6 y hy,fun j u hj=>?_⟩
  rw [Pw,Addr.add_lit,cell_of_row w g _ am e.tid (0,0) hg]
  have m:=OV (Abq h2 h3) i j c hc u hj
  rw [← ht,List.getElem?_take] at m
  split at m
  ·simpa using m
  ·cases m
end
end Go.Proofs.YtellehgihceicaaGreatDoor
namespace Go.Proofs.YtellehgihceicaaGreatDoor
open Go Go.RowKit
structure Opn {α:Type} (P:Program) (t:TypeId) (R:(Nat → Prop) → Ae → List Ac → α → Prop) (G:α → Prop):Prop where
 op:∀ {H:Type} {enc:TypeId × Ac → H} {w:Ae} {spare:Nat → Bool} {held:Bool} {fuel:Nat} {cs:List Ac} {x:DataW H × List MemPlace},DataW.trod enc P w 0 spare held fuel t cs = some x → ∃ d,R (· < w.heap.size) w cs d ∧ G d
variable {P:Program} {t:TypeId}
theorem Yj (e:P.underlying t = some .string):Opn P t (fun _ _ cs d=>cs = [.string (B1 d)]) (Adp Ado):=⟨fun h=>by
 obtain ⟨s,h1,_,f⟩:=DataW.trod_string e h
 refine ⟨s.data.toList,?_,?_,fun _ _=>trivial⟩
 ·rw [h1]; rfl
 ·exact (Array.length_toList (xs:=s.data)).symm ▸ f⟩
end Go.Proofs.YtellehgihceicaaGreatDoor
namespace Go.Proofs.YtellehgihceicaaGreatDoor
open Go Go.RowKit
section
variable {P:Program} {α:Type} {n:Nat} {σ:E1} {w w0:Ae} {Q:Exit → Act → Ae → Prop} {ds:List (Af Tmp)} {d:Nat} {T U TB:TypeId} {pos:String} {af:Array Edge} {rest:List Oper} {x y z:Operand} {L M:List Res} {sz:Nat} {agg:Bool} {zv:Ac}
abbrev iv (x:Int):Ac:=.int .i64 x
abbrev Bl (w0 w:Ae):Prop:=Below w0.heap.size w0 w
abbrev Sp (w0 w:Ae) (L:List Res):Prop:=Sep w0.heap.size w L
abbrev RO (e:Ty P α) (w:Ae) (v:Ac) (l:List α):Prop:=rdS e (· < w.heap.size) w v l
theorem Rr {k:IntKind} {i j:Int} (f:Nat.blt d n = true) (l:B2 σ x = some (.int k i)) (g:B2 σ y = some (.int k j)) (h:WL P n ds rest ((d,.int k (Tj k i j)) :: σ) w Q):WL P n ds (⟨some d,.binOp .or T x y U,TB,pos,af,none⟩ :: rest) σ w Q :=
 Cx f (fun ρ e=>by simp [execOp,e _ _ l,e _ _ g,eqGuard,binOp,Op.intBits,Tj]) h
theorem Q4 {k:IntKind} {i j:Int} (f:Nat.blt d n = true) (l:B2 σ x = some (.int k i)) (g:B2 σ y = some (.int k j)) (h:WL P n ds rest ((d,.int k (Si k i j)) :: σ) w Q):WL P n ds (⟨some d,.binOp .xor T x y U,TB,pos,af,none⟩ :: rest) σ w Q :=
 Cx f (fun ρ e=>by simp [execOp,e _ _ l,e _ _ g,eqGuard,binOp,Op.intBits,Si]) h
theorem Hl {R:Type} {c:Bool} {A:Af R} {r:R} (e:(if c = true then A else none) = some r):c = true:=by
 cases c with
 | true=>rfl
 | false=>cases e
theorem Aek {R:Type} {c:Bool} {A:Af R} {r:R} (e:(if c = true then none else A) = some r):c = false:=by
 cases c with
 | false=>rfl
 | true=>cases e
theorem nnE {γ:Type} {l:List γ} {v:Ac} (h:l.isEmpty = false):l = [] → v = .slice none 0 0:=fun e=>by rw [e] at h; cases h
def Ru:List Ac → Nat → Af Ac
 | [],_=>none
 | v :: _,0=>some v
 | _ :: l,i + 1=>Ru l i
theorem VW:∀ (l:List Ac) (i:Nat),Ru l i = l[i]?
 | [],i=>by simp [Ru]
 | v :: l,0=>by simp [Ru]
 | v :: l,i + 1=>by rw [Ru,VW l i,List.getElem?_cons_succ]
def kEq:IntKind → IntKind → Bool
 | .i8,.i8=>true | .i16,.i16=>true | .i32,.i32=>true | .i64,.i64=>true | .u8,.u8=>true | .u16,.u16=>true | .u32,.u32=>true | .u64,.u64=>true | _,_=>false
theorem Ac7 {a b:IntKind} (h:kEq a b = true):a = b:=by cases a <;> cases b <;> first | rfl | cases h
def Aen {R:Type} (k:IntKind) (a b:Int) (f:Ac → Af R):BinOp → Af R
 | .add=>f (.int k (k.wrap (a + b)))
 | .sub=>f (.int k (k.wrap (a - b)))
 | .mul=>f (.int k (k.wrap (a * b)))
 | .lss=>f (.bool (decide (a < b)))
 | .leq=>f (.bool (decide (a ≤ b)))
 | .gtr=>f (.bool (decide (b < a)))
 | .geq=>f (.bool (decide (b ≤ a)))
 | .eql=>f (.bool (a == b))
 | .neq=>f (.bool (a != b))
 | _=>none
def PK {R:Type} (σ:E1) (f:Ac → Af R):Op → Af R
 | .move x=>match B2 σ x with | some v=>f v | none=>none
 | .assign x=>match B2 σ x with | some v=>f v | none=>none
 | .unOp .not _ x=>match B2 σ x with | some (.bool p)=>f (.bool (!p)) | _=>none
 | .unOp .neg _ x=>match B2 σ x with | some (.int k a)=>f (.int k (k.wrap (0 - a))) | _=>none
 | .binOp o _ x y _=>match B2 σ x with
  | some (.int k a)=>match B2 σ y with
   | some (.int k' b)=>bif kEq k k' then Aen k a b f o else none
   | _=>none
  | _=>none
 | .extract x i=>match B2 σ x with | some (.tuple ⟨vs⟩)=>(match Ru vs i with | some v=>f v | none=>none) | _=>none
 | _=>none
theorem Zb {R:Type} {f:Ac → Af R} {op:Op} {r:R} (h:PK σ f op = some r) :
  ∃ v,f v = some r ∧ ∀ ρ:Operand → Ac,(∀ x v,B2 σ x = some v → ρ x = v) → ∀ d T pos af w,(execOp ρ ⟨some d,op,T,pos,af,none⟩).run P w = .ok (.value v) w:=by
 cases op with
 | move x =>
  unfold PK at h
  dsimp only at h
  cases g:B2 σ x with
  | none=>rw [g] at h; cases h
  | some v=>rw [g] at h; exact ⟨v,h,fun ρ l d T pos af w=>by simp [execOp,l _ _ g]⟩
 | assign x =>
  unfold PK at h
  dsimp only at h
  cases g:B2 σ x with
  | none=>rw [g] at h; cases h
  | some v=>rw [g] at h; exact ⟨v,h,fun ρ l d T pos af w=>by simp [execOp,l _ _ g]⟩
 | unOp o t x =>
  cases o with
  | not =>
   unfold PK at h
   dsimp only at h
   split at h
   ·rename_i p g
    exact ⟨_,h,fun ρ l d T pos af w=>by simp [execOp,l _ _ g,Op.unary]⟩
   ·cases h
  | neg =>
   unfold PK at h
   dsimp only at h
   split at h
   ·rename_i k a g
    exact ⟨_,h,fun ρ l d T pos af w=>by simp [execOp,l _ _ g,Op.unary,Op.intArith]⟩
   ·cases h
  | _=>cases h
 | binOp o t x y u =>
  unfold PK at h
  dsimp only at h
  split at h
  ·rename_i k a g
   split at h
   ·rename_i k' b hy
    cases m:kEq k k' with
    | false=>rw [m] at h; cases h
    | true =>
     rw [m] at h
     have e:=Ac7 m
     subst e
     cases o <;> first
      | (refine ⟨_,h,fun ρ l d T pos af w=>?_⟩; simp [execOp,l _ _ g,l _ _ hy,eqGuard,binOp,Op.intArith,Op.intCmp]; done)
      | cases h
   ·cases h
  ·cases h
 | extract x i =>
  unfold PK at h
  dsimp only at h
  split at h
  ·rename_i vs g
   split at h
   ·rename_i v s
    rw [VW] at s
    exact ⟨_,h,fun ρ l d T pos af w=>by simp [execOp,l _ _ g,Instr.extract,s]⟩
   ·cases h
  ·cases h
 | _=>cases h
def Zf (n:Nat):Nat → List Oper → E1 → Af (List Oper × E1)
 | 0,ops,σ=>some (ops,σ)
 | k + 1,⟨some d,op,_,_,_,none⟩ :: ops,σ=>bif Nat.blt d n then PK σ (fun v=>Zf n k ops ((d,v) :: σ)) op else none
 | _,_,_=>none
theorem wp:∀ (k:Nat) {ops:List Oper} {σ σ':E1},Zf n k ops σ = some (rest,σ') → WL P n ds rest σ' w Q → WL P n ds ops σ w Q
 | 0,ops,σ,σ',h,hw=>by
  cases h
  exact hw
 | k + 1,[],σ,σ',h,hw=>by cases h
 | k + 1,⟨none,op,T,pos,af,gd⟩ :: ops,σ,σ',h,hw=>by cases h
 | k + 1,⟨some d,op,T,pos,af,some g⟩ :: ops,σ,σ',h,hw=>by cases h
 | k + 1,⟨some d,op,T,pos,af,none⟩ :: ops,σ,σ',h,hw=>by
  change (bif Nat.blt d n then PK σ (fun v=>Zf n k ops ((d,v) :: σ)) op else none) = _ at h
  cases e:Nat.blt d n with
  | false=>rw [e] at h; cases h
  | true =>
   rw [e] at h
   obtain ⟨v,f,m⟩:=Zb (P:=P) (σ:=σ) h
   exact Cx e (fun ρ l=>m ρ l d T pos af w) (wp k f hw)
def Wi {R:Type}:List Ac → Nat → Nat → (List Ac → Af R) → Af R
 | _,0,0,k=>k []
 | c :: cs,0,sz + 1,k=>Wi cs 0 sz fun l=>k (c :: l)
 | _ :: cs,off + 1,sz,k=>Wi cs off sz k
 | _,_,_,_=>none
theorem UV {R:Type}:∀ {cs:List Ac} {off sz:Nat} {k:List Ac → Af R} {r:R},Wi cs off sz k = some r → ∃ vs,KK cs off sz = some vs ∧ k vs = some r:=by
 intro cs
 induction cs with
 | nil =>
  intro off sz k r h
  cases off with
  | zero =>
   cases sz with
   | zero=>exact ⟨[],rfl,h⟩
   | succ sz=>cases h
  | succ off=>cases h
 | cons c cs m =>
  intro off sz k r h
  cases off with
  | zero =>
   cases sz with
   | zero=>exact ⟨[],rfl,h⟩
   | succ sz =>
    obtain ⟨vs,h1,f⟩:=m (off:=0) (sz:=sz) (k:=fun l=>k (c :: l)) h
    refine ⟨c :: vs,?_,f⟩
    unfold KK at h1 ⊢
    simp only [Nat.zero_add,List.drop_zero,List.length_cons] at h1 ⊢
    have e:Nat.ble (sz + 1) (cs.length + 1) = Nat.ble sz cs.length:=rfl
    rw [e]
    cases g:Nat.ble sz cs.length with
    | false=>rw [g] at h1; cases h1
    | true =>
     rw [g] at h1
     simp only [cond_true,Option.some.injEq] at h1 ⊢
     rw [List.take_succ_cons,h1]
  | succ off =>
   obtain ⟨vs,h1,f⟩:=m (off:=off) (sz:=sz) (k:=k) h
   refine ⟨vs,?_,f⟩
   unfold KK at h1 ⊢
   rw [← h1,List.drop_succ_cons,List.length_cons]
   have e:Nat.ble (off + 1 + sz) (cs.length + 1) = Nat.ble (off + sz) cs.length:=by
    rw [show off + 1 + sz = (off + sz) + 1 by omega]
    rfl
   rw [e]
def To (agg:Bool) (cs:List Ac) (off sz:Nat):Af Ac:=match agg with
 | true=>Wi cs off sz fun l=>some (.agg l.toArray)
 | false=>Wi cs off sz fun l=>match l with | [v]=>some v | _=>none
theorem KO {cs:List Ac} {off:Nat} {v:Ac} (h:To agg cs off sz = some v):∃ vs,KK cs off sz = some vs ∧ pk agg vs = v:=by
 cases agg with
 | true =>
  obtain ⟨vs,h1,e⟩:=UV h
  exact ⟨vs,h1,Option.some.inj e⟩
 | false =>
  obtain ⟨vs,h1,e⟩:=UV h
  refine ⟨vs,h1,?_⟩
  split at e
  ·exact Option.some.inj e
  ·cases e
def Mh (σ:E1) (n d:Nat) (x:Operand):Af Ac:=bif Nat.blt d n then B2 σ x else none
theorem De {v:Ac} (h:Mh σ n d x = some v):Nat.blt d n = true ∧ B2 σ x = some v:=by
 unfold Mh at h
 cases e:Nat.blt d n with
 | false=>rw [e] at h; cases h
 | true=>rw [e] at h; exact ⟨rfl,h⟩
theorem AO (i:Nat) {b off:Nat} {V:TypeId} {cs:List Ac} {v:Ac} (m:TF P U sz agg zv) (e:Mh σ n d x = some (.pointer (some ⟨b,off,none⟩))) (s:Sep w0.heap.size w L) (f:Eo L i = some (A5 b V cs)) (g:To agg cs off sz = some v)
  (h:WL P n ds rest ((d,v) :: σ) w Q):WL P n ds (⟨some d,.load U x,T,pos,af,none⟩ :: rest) σ w Q:=by
 obtain ⟨vs,h1,l⟩:=KO g
 exact J2 m (De e).1 (De e).2 s f h1 l h
theorem BZ {S:Nat → Prop} {p:Addr} {cs:List Ac} {v:Ac} (l:TF P U sz agg zv) (e:Mh σ n d x = some (.pointer (some p))) (m:EAt S w p cs) (f:To agg cs 0 sz = some v)
  (h:WL P n ds rest ((d,v) :: σ) w Q):WL P n ds (⟨some d,.load U x,T,pos,af,none⟩ :: rest) σ w Q:=by
 obtain ⟨vs,h1,g⟩:=KO f
 exact YC l (De e).1 (De e).2 m h1 g h
theorem Bp {f o b off:Nat} (g:Fm P U f o = true) (e:Mh σ n d x = some (.pointer (some ⟨b,off,none⟩)))
  (h:WL P n ds rest ((d,.pointer (some ⟨b,off + o,none⟩)) :: σ) w Q):WL P n ds (⟨some d,.fieldAddr U x f,T,pos,af,none⟩ :: rest) σ w Q :=
 M1 g (De e).1 (De e).2 rfl h
def Tl:List Ac → Bool
 | []=>true
 | v :: r=>v.oneCell' && Tl r
theorem Tk:∀ {vs:List Ac},Tl vs = true → Ones vs
 | [],_=>trivial
 | v :: r,h=>by
  unfold Tl at h
  rw [Cg] at h
  exact ⟨h.1,Tk h.2⟩
def QJ {R:Type}:List Ac → Nat → List Ac → (List Ac → Af R) → Af R
 | cs,0,[],k=>k cs
 | _ :: cs,0,v :: vs,k=>QJ cs 0 vs fun l=>k (v :: l)
 | c :: cs,off + 1,vs,k=>QJ cs off vs fun l=>k (c :: l)
 | _,_,_,_=>none
theorem QI {R:Type}:∀ {cs:List Ac} {off:Nat} {vs:List Ac} {k:List Ac → Af R} {r:R},QJ cs off vs k = some r → off + vs.length ≤ cs.length ∧ k (Dp cs off vs) = some r:=by
 intro cs
 induction cs with
 | nil =>
  intro off vs k r h
  cases off with
  | zero =>
   cases vs with
   | nil=>exact ⟨by simp,by simpa [Dp,QJ] using h⟩
   | cons v vs=>cases h
  | succ off=>cases h
 | cons c cs f =>
  intro off vs k r h
  cases off with
  | zero =>
   cases vs with
   | nil=>exact ⟨by simp,by simpa [Dp,QJ] using h⟩
   | cons v vs =>
    obtain ⟨h1,e⟩:=f (off:=0) (vs:=vs) (k:=fun l=>k (v :: l)) h
    refine ⟨by simp at h1 ⊢; omega,?_⟩
    simpa [Dp] using e
  | succ off =>
   obtain ⟨h1,e⟩:=f (off:=off) (vs:=vs) (k:=fun l=>k (c :: l)) h
   refine ⟨by simp at h1 ⊢; omega,?_⟩
   simp only [Dp,List.take_succ_cons,List.cons_append] at e ⊢
   rw [show off + 1 + vs.length = (off + vs.length) + 1 by omega,List.drop_succ_cons]
   exact e
def stK (agg:Bool) (v:Ac) (cs:List Ac) (off:Nat):Af (List Ac):=match agg with
 | true=>match v with
  | .agg ⟨vs⟩=>bif Tl vs then QJ cs off vs some else none
  | _=>none
 | false=>bif v.oneCell' then QJ cs off [v] some else none
theorem Gj (i:Nat) {b off:Nat} {V:TypeId} {cs cs':List Ac} {v:Ac} (tf:TF P U sz agg zv) (hx:B2 σ x = some (.pointer (some ⟨b,off,none⟩))) (u:B2 σ y = some v) (hB:Below w0.heap.size w0 w) (hS:Sep w0.heap.size w L)
  (s:Eo L i = some (A5 b V cs)) (hz:Nat.beq (match agg,v with | true,.agg a=>a.size | _,_=>1) sz = true) (f:stK agg v cs off = some cs')
  (h:∀ w',(w.heap.size ≤ w'.heap.size ∧ (∀ k,k < w.heap.size → k ∉ [b] → w'.heap[k]? = w.heap[k]?) ∧ ∀ k ∈ [b],k ∈ [b] ∨ w.heap.size ≤ k) → Below w0.heap.size w0 w' → Sep w0.heap.size w' (Md L i (A5 b V cs')) → WL P n ds rest σ w' Q) :
  WL P n ds (⟨none,.store U x y,T,pos,af,none⟩ :: rest) σ w Q:=by
 have l:=Nat.eq_of_beq_eq_true hz
 unfold stK at f
 cases agg with
 | true =>
  dsimp only at f l
  split at f
  ·rename_i vs
   cases g:Tl vs with
   | false=>rw [g] at f; cases f
   | true =>
    rw [g] at f
    obtain ⟨h1,m⟩:=QI f
    have e:Dp cs off vs = cs':=Option.some.inj m
    exact B9 (vs:=vs) tf hx u rfl (by simpa using l) hB hS s (Nat.ble_eq_true_of_le h1) (Tk g) e h
  ·cases f
 | false =>
  dsimp only at f l
  cases g:v.oneCell' with
  | false=>rw [g] at f; cases f
  | true =>
   rw [g] at f
   obtain ⟨h1,m⟩:=QI f
   have e:Dp cs off [v] = cs':=Option.some.inj m
   have ag:1 = sz:=by cases v <;> exact l
   exact B9 (vs:=[v]) tf hx u (Ce g) (by simpa using ag) hB hS s (Nat.ble_eq_true_of_le h1) ⟨g,trivial⟩ e h
theorem CK {cs:List Ac} (e:Mh σ n d x = some (.agg cs.toArray)) (g:Below w0.heap.size w0 w) (f:Sep w0.heap.size w L)
  (h:∀ b w',Below w.heap.size w w' → Below w0.heap.size w0 w' → Sep w0.heap.size w' (A5 b U cs :: L) → WL P n ds rest ((d,.pointer (some ⟨b,0,none⟩)) :: σ) w' Q) :
  WL P n ds (⟨some d,.box U x,T,pos,af,none⟩ :: rest) σ w Q:=Ace (De e).1 (De e).2 rfl g f h
theorem Ei {cs:List Ac} (f:TF P U sz true (.agg cs.toArray)) (e:Nat.blt d n = true) (l:Below w0.heap.size w0 w) (g:Sep w0.heap.size w L)
  (h:∀ b w',Below w.heap.size w w' → Below w0.heap.size w0 w' → Sep w0.heap.size w' (A5 b U cs :: L) → WL P n ds rest ((d,.pointer (some ⟨b,0,none⟩)) :: σ) w' Q) :
  WL P n ds (⟨some d,.alloc U,T,pos,af,none⟩ :: rest) σ w Q:=ZG f e rfl l g h
theorem BX {e:Ty P α} {S:Nat → Prop} {u:Ae} {v:Ac} {l:List α} {f:TypeId} (s:rdS e S u v l) (m:P.underlying f = some (.slice e.tid)) (g:Mh σ n d x = some v)
  (h:WL P n ds rest ((d,.int .i64 (l.length:Int)) :: σ) w Q):WL P n ds (⟨some d,.call ⟨.builtin .len,#[x],#[f]⟩,T,pos,af,none⟩ :: rest) σ w Q:=Abg m (De g).1 (De g).2 s h
theorem A3 {c:Operand} {X Y:Code} {t:Bool} {R:Type} {A B:Af R} {r:R} (f:B2 σ c = some (.bool t)) (e:(if t = true then A else B) = some r) (h1:t = true → A = some r → W P n X σ w Q) (g:t = false → B = some r → W P n Y σ w Q) :
  W P n (.cond c X Y) σ w Q :=
 Rb f (fun h=>h1 h (BA h e)) (fun h=>g h (Cf h e))
def rvK {R:Type} (σ:E1):List ResultVar → (List Ac → Af R) → Af R
 | [],k=>k []
 | .tmp t :: rs,k=>match Gv σ t with | some v=>rvK σ rs fun l=>k (v :: l) | none=>none
 | _,_=>none
theorem Wk {R:Type}:∀ {rs:List ResultVar} {k:List Ac → Af R} {r:R},rvK σ rs k = some r → ∃ vs,RVs P n σ w rs vs ∧ k vs = some r
 | [],k,r,h=>⟨[],trivial,h⟩
 | .tmp t :: rs,k,r,h=>by
  unfold rvK at h
  cases e:Gv σ t with
  | none=>rw [e] at h; cases h
  | some v =>
   rw [e] at h
   obtain ⟨vs,h1,f⟩:=Wk h
   exact ⟨v :: vs,⟨Jk e,h1⟩,f⟩
 | .cell _ _ :: _,_,_,h=>by cases h
theorem rt {e:Func} {R:Ending → Ae → Prop} {rs:List ResultVar} {v:Ac} {Q:Exit → Act → Ae → Prop} (f:∀ a w,bodyPost P e R .ret a w → Q .ret a w) (m:e.results = rs.toArray) (s:rvK σ rs (fun l=>some (PE l)) = some v) (h:R (.returned v) w) :
  ∀ a,St n σ a → Q .ret a w:=by
 obtain ⟨vs,h1,g⟩:=Wk (P:=P) (n:=n) (w:=w) s
 cases g
 exact IM f m h1 h
def subB (σ:E1):E1 → Prop:=fun τ=>(τ.map fun p=>Gv σ p.1) = τ.map fun p=>some p.2
theorem subB.sub {σ:E1}:∀ {τ:E1},subB σ τ → Sub σ τ
 | [],_=>trivial
 | (i,v) :: r,h=>by
  unfold subB at h
  rw [List.map_cons,List.map_cons,List.cons.injEq] at h
  exact ⟨h.1,subB.sub h.2⟩
theorem St.sb {τ:E1} {a:Act} (h:St n σ a) (e:(τ.map fun p=>Gv σ p.1) = τ.map fun p=>some p.2):St n τ a:=h.sub (subB.sub e)
theorem jx {τ:E1} {K:Act → Prop} (h:∀ a,St n τ a → K a) (f:(τ.map fun p=>Gv σ p.1) = τ.map fun p=>some p.2):∀ a,St n σ a → K a:=fun a e=>h a (e.sb f)
theorem Ap {x y:Code} (h:∀ K:Act → Ae → Prop,(∀ {σ w},W P n y σ w Q → ∀ a,St n σ a → K a w) → W P n x σ w (Exit.then K Q)):W P n (.seq x y) σ w Q :=
 Qb fun K e=>h K fun {σ w}=>e σ w
theorem Ak {id:Nat} {l:List Oper} {y:Code} (h:∀ K:Act → Ae → Prop,(∀ {σ w},W P n y σ w Q → ∀ a,St n σ a → K a w) → WL P n (l.map (·.dst)) l σ w (Exit.then K Q)):W P n (.seq (.region id l.toArray false) y) σ w Q :=
 Ap fun K e=>As (h K e)
theorem bB {α β:Type} {o:Af α} {f:α → Af β} {r:β} {C:Prop} (h:Option.bind o f = some r) (k:∀ a,o = some a → f a = some r → C):C:=by
 obtain ⟨a,h1,e⟩:=Ad6 h
 exact k a h1 e
theorem Bu {f:FuncId} {xs:List Operand} {ts:Array TypeId} {vs:List Ac} {v:Ac} (m:Nat.blt d n = true) (ab:∀ args w,(callFunc f args).run P w = .ok (.enter f args) w)
  (l:Below w0.heap.size w0 w) (u:Sep w0.heap.size w L) (s:Calls P f vs.toArray w fun e w'=>e = .returned v ∧ Below w.heap.size w w') (hx:xs.map (B2 σ) = vs.map some)
  (h:∀ w',Below w.heap.size w w' → Below w0.heap.size w0 w' → Sep w0.heap.size w' L → WL P n ds rest ((d,v) :: σ) w' Q) :
  WL P n ds (⟨some d,.call ⟨.value (.func f),xs.toArray,ts⟩,T,pos,af,none⟩ :: rest) σ w Q :=
 A7 m ab s hx fun e w' g=>⟨v,g.1,h w' g.2 (l.trans (g.2.mono l.size)) (u.below g.2)⟩
theorem E6 {f:FuncId} {xs:List Operand} {ts:Array TypeId} {vs:List Ac} {τ:Type} {v:τ → Ac} {N:τ → Al → List Res} (s:Nat.blt d n = true) (ac:∀ args w,(callFunc f args).run P w = .ok (.enter f args) w)
  (g:Below w0.heap.size w0 w) (hS:Sep w0.heap.size w L) (u:Calls P f vs.toArray w fun e w'=>∃ (q:τ) (G:Al),e = .returned (v q) ∧ Below w.heap.size w w' ∧ Sep w.heap.size w' (N q G)) (hx:xs.map (B2 σ) = vs.map some)
  (h:∀ q G w',Below w.heap.size w w' → Sep w.heap.size w' (N q G) → Below w0.heap.size w0 w' → Sep w0.heap.size w' (N q G ++ L) → WL P n ds rest ((d,v q) :: σ) w' Q) :
  WL P n ds (⟨some d,.call ⟨.value (.func f),xs.toArray,ts⟩,T,pos,af,none⟩ :: rest) σ w Q :=
 A7 s ac u hx fun e w' ⟨q,G,he,l,m⟩=>⟨v q,he,h q G w' l m (g.trans (l.mono g.size)) (hS.join l m g.size)⟩
end
end Go.Proofs.YtellehgihceicaaGreatDoor
namespace Go.Proofs.YtellehgihceicaaGreatDoor
open Go Go.RowKit
section
variable {P:Program} {α β:Type} {base:Nat} {w w' w0:Ae} {L M:List Res}
def Sh.arr {γ:Type} (f:γ → Ac) (z:γ) (n:Nat) (h1:∀ x,(f x).oneCell' = true):Sh (List γ) where
 sz:=n
 zero:=List.replicate n (f z)
 dflt:=List.replicate n z
 rd:=fun _ _ cs l=>cs = l.map f ∧ l.length = n
 own:=fun F _ cs l=>F = [] ∧ cs = l.map f ∧ l.length = n
 rd_len:=fun h=>by rw [h.1,List.length_map]; exact h.2
 rd_one:=fun h c hc=>by rw [h.1] at hc; obtain ⟨x,_,rfl⟩:=List.mem_map.1 hc; exact h1 x
 rd_keep:=fun h _=>h
 rd_mono:=fun h _=>h
 own_keep:=fun h _=>h
 own_rd:=fun h=>⟨h.2.1,h.2.2⟩
 own_lt:=fun h b hb=>by rw [h.1] at hb; cases hb
 zero_own:=fun _=>⟨rfl,by simp,by simp⟩
def Sh.slicen (e:Ty P α):Sh (List α) where
 sz:=1
 zero:=[.slice none 0 0]
 dflt:=[]
 rd:=(Sh.slice e).rd
 own:=fun F w cs l=>∃ v,cs = [v] ∧ ownS e F w v l ∧ (l = [] → v = .slice none 0 0)
 rd_len:=(Sh.slice e).rd_len
 rd_one:=(Sh.slice e).rd_one
 rd_keep:=(Sh.slice e).rd_keep
 rd_mono:=(Sh.slice e).rd_mono
 own_keep:=fun ⟨v,h1,h2,h3⟩ hk=>by
  obtain ⟨v',h1',h2'⟩:=(Sh.slice e).own_keep ⟨v,h1,h2⟩ hk
  subst h1
  cases h1'
  exact ⟨v,rfl,h2',h3⟩
 own_rd:=fun ⟨v,h1,h2,_⟩=>(Sh.slice e).own_rd ⟨v,h1,h2⟩
 own_lt:=fun ⟨v,h1,h2,_⟩=>(Sh.slice e).own_lt ⟨v,h1,h2⟩
 zero_own:=fun w=>by
  obtain ⟨v,h1,h2⟩:=(Sh.slice e).zero_own w
  exact ⟨v,h1,h2,fun _=>by cases h1; rfl⟩
def A2 (e:Sh α) (t:TypeId) (F:Al) (b:Nat) (x:α):Res:=⟨b :: F,fun w=>∃ cs:List Ac,w.heap[b]? = some (.cells cs.toArray t (0,0)) ∧ e.own F w cs x⟩
def H8 (s:Sh α) (F:Al) (cs:List Ac) (x:α):Res:=⟨F,fun w=>s.own F w cs x⟩
theorem Sep.perm {L L':List Res} (h:Sep base w L) (p:L.Perm L'):Sep base w L':=by
 obtain ⟨h1,f⟩:=h
 refine ⟨fun r e=>h1 r (p.mem_iff.2 e),?_⟩
 exact (p.pairwise_iff fun {r s} hrs b hb hb'=>hrs b hb' hb).1 f
theorem Sf {r r1 r2:Res} (pre:List Res) (h:Sep base w (pre ++ r :: L)) (g:r.fp = r1.fp ++ r2.fp) (f:∀ w',(∀ b ∈ r1.fp,w'.heap[b]? = w.heap[b]?) → r1.ok w') (l:∀ w',(∀ b ∈ r2.fp,w'.heap[b]? = w.heap[b]?) → r2.ok w') :
  Sep base w (pre ++ r1 :: r2 :: L):=by
 have h1:Sep base w (r :: (pre ++ L)):=h.perm List.perm_middle
 have e:Sep base w (r1 :: r2 :: (pre ++ L)):=h1.split2 g f l
 refine e.perm ?_
 refine (List.Perm.cons r1 (List.perm_middle (a:=r2) (l₁:=pre) (l₂:=L)).symm).trans ?_
 exact (List.perm_middle (a:=r1) (l₁:=pre) (l₂:=r2 :: L)).symm
theorem N1 {r r':Res} (pre:List Res) (h:Sep base w (pre ++ r :: L)) (e:r'.fp = r.fp) (f:∀ w,r.ok w → r'.ok w):Sep base w (pre ++ r' :: L) :=
 ((h.perm List.perm_middle).head e f).perm List.perm_middle.symm
theorem T4 {r:Res} (pre:List Res) (h:Sep base w (pre ++ r :: L)):Sep base w (pre ++ L):=by
 have h1:Sep base w (r :: (pre ++ L)):=h.perm List.perm_middle
 exact ⟨fun s e=>h1.1 s (List.mem_cons_of_mem _ e),(List.pairwise_cons.1 h1.2).2⟩
theorem MH {r:Res} (pre:List Res) (h:Sep base w (pre ++ r :: L)):∀ w',(∀ b ∈ r.fp,w'.heap[b]? = w.heap[b]?) → r.ok w':=(h.1 r (by simp)).2.2
theorem R2 {e:Sh α} {t:TypeId} {F:Al} {b:Nat} {x:α} (h:Sep base w (A2 e t F b x :: L)):∃ cs:List Ac,Sep base w (A5 b t cs :: H8 e F cs x :: L):=by
 have l:=MH [] h
 obtain ⟨cs,h1,g⟩:∃ cs:List Ac,w.heap[b]? = some (.cells cs.toArray t (0,0)) ∧ e.own F w cs x:=l w fun _ _=>rfl
 refine ⟨cs,Sf [] h rfl (fun w' f=>?_) (fun w' f=>?_)⟩
 ·show w'.heap[b]? = _
  rw [f b (by simp [A5]),h1]
 ·exact e.own_keep g f
theorem Er {s:Sh α} {t:Sh β} {F:Al} {cs:List Ac} {x:α × β} (pre:List Res) (h:Sep base w (pre ++ H8 (Sh.prod s t) F cs x :: L)) :
  ∃ a b Fa Fb,cs = a ++ b ∧ F = Fa ++ Fb ∧ Sep base w (pre ++ H8 s Fa a x.1 :: H8 t Fb b x.2 :: L):=by
 have m:=MH pre h
 obtain ⟨a,b,Fa,Fb,h1,f,l,g⟩:(Sh.prod s t).own F w cs x:=m w fun _ _=>rfl
 exact ⟨a,b,Fa,Fb,h1,f,Sf pre h f (fun w' e=>s.own_keep l e) (fun w' e=>t.own_keep g e)⟩
theorem Iq {e:Ty P α} {F:Al} {cs:List Ac} {l:List α} (pre:List Res) (h:Sep base w (pre ++ H8 (Sh.slice e) F cs l :: L)):∃ v,cs = [v] ∧ Sep base w (pre ++ Ab e F v l :: L):=by
 have m:=MH pre h
 obtain ⟨v,rfl,u⟩:(Sh.slice e).own F w cs l:=m w fun _ _=>rfl
 exact ⟨v,rfl,N1 pre h rfl fun s ⟨v',f,g⟩=>by cases f; exact g⟩
theorem N7 {e:Ty P α} {f:α → List Ac} (g:Flat e f) {F:Al} {cs:List Ac} {x:α} (pre:List Res) (h:Sep base w (pre ++ H8 e.toSh F cs x :: L)):cs = f x ∧ Sep base w (pre ++ L):=by
 have l:=MH pre h
 have m:e.own F w cs x:=l w fun _ _=>rfl
 exact ⟨g.rd (e.own_rd m),T4 pre h⟩
theorem ME {e:Ty P α} {f:α → List Ac} (m:Flat e f) (x:α) (pre:List Res) (h:Sep base w (pre ++ L)):Sep base w (pre ++ H8 e.toSh [] (f x) x :: L):=by
 have u:Sep base w (H8 e.toSh [] (f x) x :: (pre ++ L)):=by
  refine ⟨fun r l=>?_,List.pairwise_cons.2 ⟨fun s hs b g=>(by cases g),h.2⟩⟩
  cases l with
  | head=>exact ⟨List.nodup_nil,fun b g=>(by cases g),fun w' v=>m.own w' x⟩
  | tail _ l=>exact h.1 r l
 exact u.perm List.perm_middle.symm
theorem PW {e:Sh α} {t:TypeId} {F F':Al} {b:Nat} {x:α} {cs:List Ac} (h:Sep base w (A5 b t cs :: H8 e F cs x :: L)) (g:F = F'):Sep base w (A2 e t F' b x :: L) :=
 by subst g; exact h.merge rfl fun w h1 f=>⟨cs,h1,f⟩
theorem DD {s:Sh α} {t:Sh β} {Fa Fb:Al} {a b:List Ac} {x:α} {y:β} (pre:List Res) (h:Sep base w (pre ++ H8 s Fa a x :: H8 t Fb b y :: L)):Sep base w (pre ++ H8 (Sh.prod s t) (Fa ++ Fb) (a ++ b) (x,y) :: L):=by
 have h1:Sep base w (H8 s Fa a x :: H8 t Fb b y :: (pre ++ L)):=by
  refine (h.perm List.perm_middle).perm (List.Perm.cons _ ?_)
  exact List.perm_middle
 have e:Sep base w (H8 (Sh.prod s t) (Fa ++ Fb) (a ++ b) (x,y) :: (pre ++ L)):=h1.merge rfl fun w h1 e=>⟨a,b,Fa,Fb,rfl,rfl,h1,e⟩
 exact e.perm List.perm_middle.symm
theorem Hv {e:Ty P α} {F:Al} {v:Ac} {l:List α} (pre:List Res) (h:Sep base w (pre ++ Ab e F v l :: L)):Sep base w (pre ++ H8 (Sh.slice e) F [v] l :: L) :=
 N1 pre h rfl fun w f=>⟨v,rfl,f⟩
theorem KeepX.tk {wS w w':Ae} {X:Al} {M N:List Res} (h:KeepX wS X w) (l:Sep 0 w' (A6 w (Be M) :: N)) (g:∀ b,b ∈ Be M → b < wS.heap.size → b ∈ X):KeepX wS X w':=by
 refine ⟨fun b h1 e=>?_,fun b h1 e=>(M9 l b (h.lt b h1 e) fun f=>e (g b f h1)).trans (h.blk b h1 e)⟩
 exact ((l.1 _ (List.mem_cons_self ..)).2.1 b (IR.2 ⟨h.lt b h1 e,fun f=>e (g b f h1)⟩)).2
theorem CV {p:Nat → Prop}:∀ b,b ∈ Be ([]:List Res) → p b:=fun b e=>by cases e
theorem BQ {r:Res} {L:List Res} {p:Nat → Prop} (h:∀ b,b ∈ r.fp → p b) (g:∀ b,b ∈ Be L → p b):∀ b,b ∈ Be (r :: L) → p b:=fun b e=>by
 obtain ⟨s,f,e⟩:=Kv.1 e
 cases f with
 | head=>exact h b e
 | tail _ f=>exact g b (Kv.2 ⟨s,f,e⟩)
theorem Pr {e:Sh α} {t:TypeId} {F:Al} {b:Nat} {x:α} {p:Nat → Prop} (h:∀ c,c ∈ [b] → p c) (g:∀ c,c ∈ F → p c):∀ c,c ∈ (A2 e t F b x).fp → p c:=fun c f =>
 (List.mem_cons.1 f).elim (fun e=>h c (by rw [e]; exact List.mem_singleton.2 rfl)) (g c)
theorem Iu {p:Nat → Prop}:∀ c,c ∈ ([]:List (Al)).flatten → p c:=fun c e=>by cases e
theorem Bt {F:Al} {Fs:List (Al)} {p:Nat → Prop} (h:∀ c,c ∈ F → p c) (f:∀ c,c ∈ Fs.flatten → p c):∀ c,c ∈ (F :: Fs).flatten → p c:=fun c e=>by
 rw [List.flatten_cons] at e
 exact (AX.1 e).elim (h c) (f c)
def pvl (f:Bool) (b:Nat):Ac:=match f with | true=>.pointer (some ⟨b,0,none⟩) | false=>.pointer none
def Aei (f:Bool) (L:List Res):List Res:=match f with | true=>L | false=>[]
theorem KI {w w':Ae} {M N:List Res} (h:Sep 0 w' (A6 w (Be M) :: N)) {i:Nat} {r:Res} (e:Eo N i = some r):∀ b ∈ r.fp,b ∈ Be M ∨ w.heap.size ≤ b:=by
 intro b l
 by_cases h1:b ∈ Be M
 ·exact .inl h1
 ·refine .inr (Nat.le_of_not_lt fun f=>?_)
  have g:r ∈ N:=W5 e
  exact (List.pairwise_cons.1 h.2).1 r g b (IR.2 ⟨f,h1⟩) l
theorem Wt {γ:Type} {f:γ → Ac} {z:γ} {n:Nat} {h1:∀ x,(f x).oneCell' = true} {F:Al} {cs:List Ac} {l:List γ} (pre:List Res) (h:Sep base w (pre ++ H8 (Sh.arr f z n h1) F cs l :: L)) :
  F = [] ∧ cs = l.map f ∧ l.length = n ∧ Sep base w (pre ++ L):=by
 have m:=MH pre h
 obtain ⟨g,e,s⟩:(Sh.arr f z n h1).own F w cs l:=m w fun _ _=>rfl
 exact ⟨g,e,s,T4 pre h⟩
theorem Vl {γ:Type} {f:γ → Ac} {z:γ} {n:Nat} {h1:∀ x,(f x).oneCell' = true} (l:List γ) (u:l.length = n) (pre:List Res) (h:Sep base w (pre ++ L)):Sep base w (pre ++ H8 (Sh.arr f z n h1) [] (l.map f) l :: L):=by
 have m:Sep base w (H8 (Sh.arr f z n h1) [] (l.map f) l :: (pre ++ L)):=by
  refine ⟨fun r g=>?_,List.pairwise_cons.2 ⟨fun s hs b e=>(by cases e),h.2⟩⟩
  cases g with
  | head=>exact ⟨List.nodup_nil,fun b e=>(by cases e),fun w' v=>⟨rfl,rfl,u⟩⟩
  | tail _ g=>exact h.1 r g
 exact m.perm List.perm_middle.symm
theorem Abu {e:Ty P α} {F:Al} {cs:List Ac} {l:List α} (pre:List Res) (h:Sep base w (pre ++ H8 (Sh.slicen e) F cs l :: L)):∃ v,cs = [v] ∧ (l = [] → v = .slice none 0 0) ∧ Sep base w (pre ++ Ab e F v l :: L):=by
 have s:=MH pre h
 obtain ⟨v,rfl,hv,f⟩:(Sh.slicen e).own F w cs l:=s w fun _ _=>rfl
 exact ⟨v,rfl,f,N1 pre h rfl fun u ⟨v',g,m,_⟩=>by cases g; exact m⟩
theorem Aaq {e:Ty P α} {F:Al} {v:Ac} {l:List α} (f:l = [] → v = .slice none 0 0) (pre:List Res) (h:Sep base w (pre ++ Ab e F v l :: L)):Sep base w (pre ++ H8 (Sh.slicen e) F [v] l :: L) :=
 N1 pre h rfl fun w g=>⟨v,rfl,g,f⟩
def IQ (l:List Bool):List Ac:=l.map .bool
def MG (l:List Int):List Ac:=l.map iv
theorem MQ {γ:Type} {l m:List γ} {j:Nat} {u:γ} (h:NM l j u = some m):j < l.length ∧ m = l.set j u:=by
 unfold NM at h
 split at h
 ·rename_i e
  exact ⟨e,(Option.some.inj h).symm⟩
 ·cases h
theorem YQ {l m:List Bool} {j:Nat} {u:Bool} (h:NM l j u = some m):(IQ l).set j (.bool u) = IQ m:=by
 rw [(MQ h).2]
 exact (List.map_set ..).symm
theorem Acp {l m:List Int} {j:Nat} {u:Int} (h:NM l j u = some m):(MG l).set j (iv u) = MG m:=by
 rw [(MQ h).2]
 exact (List.map_set ..).symm
theorem Sn {γ:Type} {l m:List γ} {j k:Nat} {u:γ} (h:NM l j u = some m) (e:l.length = k):m.length = k:=by rw [(MQ h).2,List.length_set,e]
theorem Wf {l m:List Bool} {j:Nat} {u:Bool} (h:NM l j u = some m):j < (IQ l).length:=by unfold IQ; rw [List.length_map]; exact (MQ h).1
theorem ZM {l m:List Int} {j:Nat} {u:Int} (h:NM l j u = some m):j < (MG l).length:=by unfold MG; rw [List.length_map]; exact (MQ h).1
theorem Aem {l:List Bool} {j:Nat} {u:Bool} (h:l[j]? = some u):(IQ l)[j]? = some (.bool u):=by unfold IQ; rw [List.getElem?_map,h]; rfl
theorem Ade {l:List Int} {j:Nat} {u:Int} (h:l[j]? = some u):(MG l)[j]? = some (iv u):=by unfold MG; rw [List.getElem?_map,h]; rfl
theorem Sq {l:List Bool} {k:Nat} (h:l.length = k):(IQ l).length = k:=by unfold IQ; rw [List.length_map,h]
section
variable {n:Nat} {σ:E1} {Q:Exit → Act → Ae → Prop} {ds:List (Af Tmp)} {d:Nat} {T U TB:TypeId} {pos:String} {af:Array Edge} {rest:List Oper} {x y z:Operand} {sz:Nat} {agg:Bool} {zv:Ac} {S:Ae → Prop} {G:Ac → Prop}
theorem XB {m s b off:Nat} {e:TypeId} {k:IntKind} {f:Int} (l:P.underlying U = some (.array m e)) (h:∀ w,(sizeOf e).run P w = .ok s w) (g:(decide (0 ≤ f) && decide (f < (m:Int))) = true) (w:Ae) :
  (Instr.indexAt U (.pointer (some ⟨b,off,none⟩)) (.int k f)).run P w = .ok (.pointer (some ⟨b,off + f.toNat * s,none⟩)) w:=by
 rw [Cg,C7,C7] at g
 simp [Instr.indexAt,asIntOf,run_underlying l,Instr.sureAddr,g,h w,Addr.add_lit]
theorem HY {m s b off:Nat} {e:TypeId} {k:IntKind} {f:Int} (hu:P.underlying U = some (.array m e)) (hs:∀ w,(sizeOf e).run P w = .ok s w) (hi:(decide (0 ≤ f) && decide (f < (m:Int))) = true) (l:Nat.blt d n = true)
  (u:B2 σ x = some (.pointer (some ⟨b,off,none⟩))) (v:B2 σ y = some (.int k f)) (h:WL P n ds rest ((d,.pointer (some ⟨b,off + f.toNat * s,none⟩)) :: σ) w Q):WL P n ds (⟨some d,.indexAddr U x y,T,pos,af,none⟩ :: rest) σ w Q :=
 Cx l (fun ρ g=>by simp [execOp,g _ _ u,g _ _ v,XB hu hs hi]) h
theorem QK {m s b off:Nat} {e:TypeId} {k:IntKind} {f:Int} (hu:P.underlying U = some (.array m e)) (hs:∀ w,(sizeOf e).run P w = .ok s w) (hi:(decide (0 ≤ f) && decide (f < (m:Int))) = true) (l:Nat.blt d n = true)
  (hx:B2 σ x = some (.pointer (some ⟨b,off,none⟩))) (u:B2 σ y = some (.int k f)) (h:G (.pointer (some ⟨b,off + f.toNat * s,none⟩))):∃ v,PR P n σ S d (.indexAddr U x y) T v ∧ G v :=
 ⟨_,⟨l,fun ρ g w _ ae pos af gd=>by simp [execOp,g _ _ hx,g _ _ u,XB hu hs hi]⟩,h⟩
theorem Acq {pre arr g:List Ac} {j:Nat} {v:Ac} (h:arr[j]? = some v):KK (pre ++ (arr ++ g)) (pre.length + j) 1 = some [v]:=by
 have f:j < arr.length:=by
  rcases Nat.lt_or_ge j arr.length with e | e
  ·exact e
  ·rw [List.getElem?_eq_none e] at h; cases h
 unfold KK
 rw [Nat.ble_eq_true_of_le (by simp; omega)]
 simp only [cond_true,Option.some.injEq]
 rw [List.drop_append,List.drop_eq_nil_of_le (by omega),List.nil_append,show pre.length + j - pre.length = j by omega,List.drop_append_of_le_length (by omega),List.drop_eq_getElem_cons f]
 rw [Cp f] at h
 cases h
 rfl
theorem X8 {pre f vs:List Ac} {off sz:Nat} (h:KK pre off sz = some vs):KK (pre ++ f) off sz = some vs:=by
 unfold KK at h ⊢
 cases e:Nat.ble (off + sz) pre.length with
 | false=>rw [e] at h; cases h
 | true =>
  have g:=Nat.le_of_ble_eq_true e
  rw [e] at h
  rw [Nat.ble_eq_true_of_le (by simp; omega)]
  simp only [cond_true,Option.some.injEq] at h ⊢
  rw [← h,List.drop_append_of_le_length (by omega),List.take_append_of_le_length (by simp; omega)]
theorem Wg {pre f vs:List Ac} {k off sz:Nat} (l:pre.length = k) (h:KK f off sz = some vs):KK (pre ++ f) (k + off) sz = some vs:=by
 unfold KK at h ⊢
 cases e:Nat.ble (off + sz) f.length with
 | false=>rw [e] at h; cases h
 | true =>
  have g:=Nat.le_of_ble_eq_true e
  rw [e] at h
  rw [Nat.ble_eq_true_of_le (by simp; omega)]
  simp only [cond_true,Option.some.injEq] at h ⊢
  rw [← h,List.drop_append,List.drop_eq_nil_of_le (by omega),List.nil_append,show k + off - pre.length = off by omega]
theorem YJ {pre arr e:List Ac} {j:Nat} {v:Ac} (f:j < arr.length):Dp (pre ++ (arr ++ e)) (pre.length + j) [v] = pre ++ (arr.set j v ++ e):=by
 unfold Dp
 rw [List.take_append,List.take_of_length_le (by omega),show pre.length + j - pre.length = j by omega,List.take_append_of_le_length (by omega),List.drop_append,List.drop_eq_nil_of_le (by simp; omega),List.nil_append]
 simp only [List.length_singleton]
 rw [show pre.length + j + 1 - pre.length = j + 1 by omega,List.drop_append_of_le_length (by omega),List.set_eq_take_append_cons_drop,if_pos f]
 simp
theorem Xn {pre e:List Ac} {k off:Nat} {vs:List Ac} (f:pre.length = k):Dp (pre ++ e) (k + off) vs = pre ++ Dp e off vs:=by
 unfold Dp
 rw [List.take_append,List.take_of_length_le (by omega),show k + off - pre.length = off by omega,List.drop_append,List.drop_eq_nil_of_le (by omega),List.nil_append,show k + off + vs.length - pre.length = off + vs.length by omega]
 simp
theorem lda (i:Nat) {b j off:Nat} {V:TypeId} {pre arr aa:List Ac} {v:Ac} (l:TF P U 1 agg zv) (s:agg = false) (e:Mh σ n d x = some (.pointer (some ⟨b,off,none⟩))) (m:Sep w0.heap.size w L) (f:Eo L i = some (A5 b V (pre ++ (arr ++ aa)))) (g:arr[j]? = some v)
  (u:off = pre.length + j) (h:WL P n ds rest ((d,v) :: σ) w Q):WL P n ds (⟨some d,.load U x,T,pos,af,none⟩ :: rest) σ w Q:=by
 subst u s
 exact J2 l (De e).1 (De e).2 m f (Acq g) rfl h
theorem sta (i:Nat) {b j off:Nat} {V:TypeId} {pre arr e:List Ac} {v:Ac} (m:TF P U 1 agg zv) (hx:B2 σ x = some (.pointer (some ⟨b,off,none⟩))) (l:B2 σ y = some v) (h1:v.oneCell' = true) (hB:Below w0.heap.size w0 w) (s:Sep w0.heap.size w L)
  (f:Eo L i = some (A5 b V (pre ++ (arr ++ e)))) (g:j < arr.length) (u:off = pre.length + j)
  (h:∀ w',(w.heap.size ≤ w'.heap.size ∧ (∀ k,k < w.heap.size → k ∉ [b] → w'.heap[k]? = w.heap[k]?) ∧ ∀ k ∈ [b],k ∈ [b] ∨ w.heap.size ≤ k) → Below w0.heap.size w0 w' → Sep w0.heap.size w' (Md L i (A5 b V (pre ++ (arr.set j v ++ e)))) → WL P n ds rest σ w' Q) :
  WL P n ds (⟨none,.store U x y,T,pos,af,none⟩ :: rest) σ w Q:=by
 subst u
 exact B9 (vs:=[v]) m hx l (Ce h1) rfl hB s f (Nat.ble_eq_true_of_le (by simp; omega)) ⟨h1,trivial⟩ (YJ g) h
theorem ldq (i:Nat) {b k off o:Nat} {V:TypeId} {pre e:List Ac} {v:Ac} (s:TF P U sz agg zv) (f:Mh σ n d x = some (.pointer (some ⟨b,off,none⟩))) (u:Sep w0.heap.size w L) (g:Eo L i = some (A5 b V (pre ++ e))) (hk:pre.length = k) (ho:off = k + o) (l:To agg e o sz = some v)
  (h:WL P n ds rest ((d,v) :: σ) w Q):WL P n ds (⟨some d,.load U x,T,pos,af,none⟩ :: rest) σ w Q:=by
 subst ho
 obtain ⟨vs,h1,m⟩:=KO l
 exact J2 s (De f).1 (De f).2 u g (Wg hk h1) m h
theorem ldr (i:Nat) {b off:Nat} {V:TypeId} {pre u:List Ac} {v:Ac} (m:TF P U sz agg zv) (e:Mh σ n d x = some (.pointer (some ⟨b,off,none⟩))) (s:Sep w0.heap.size w L) (f:Eo L i = some (A5 b V (pre ++ u))) (g:To agg pre off sz = some v)
  (h:WL P n ds rest ((d,v) :: σ) w Q):WL P n ds (⟨some d,.load U x,T,pos,af,none⟩ :: rest) σ w Q:=by
 obtain ⟨vs,h1,l⟩:=KO g
 exact J2 m (De e).1 (De e).2 s f (X8 h1) l h
theorem stq (i:Nat) {b k off o:Nat} {V:TypeId} {pre f g:List Ac} {v:Ac} (tf:TF P U 1 agg zv) (hx:B2 σ x = some (.pointer (some ⟨b,off,none⟩))) (hy:B2 σ y = some v) (h1:v.oneCell' = true) (hB:Below w0.heap.size w0 w) (hS:Sep w0.heap.size w L)
  (l:Eo L i = some (A5 b V (pre ++ f))) (hk:pre.length = k) (ho:off = k + o) (s:QJ f o [v] some = some g)
  (h:∀ w',(w.heap.size ≤ w'.heap.size ∧ (∀ k,k < w.heap.size → k ∉ [b] → w'.heap[k]? = w.heap[k]?) ∧ ∀ k ∈ [b],k ∈ [b] ∨ w.heap.size ≤ k) → Below w0.heap.size w0 w' → Sep w0.heap.size w' (Md L i (A5 b V (pre ++ g))) → WL P n ds rest σ w' Q) :
  WL P n ds (⟨none,.store U x y,T,pos,af,none⟩ :: rest) σ w Q:=by
 subst ho
 obtain ⟨m,u⟩:=QI s
 have e:Dp f o [v] = g:=Option.some.inj u
 exact B9 (vs:=[v]) tf hx hy (Ce h1) rfl hB hS l (Nat.ble_eq_true_of_le (by simp at m ⊢; omega)) ⟨h1,trivial⟩ (by rw [Xn hk,e]) h
theorem Wr (i:Nat) {wS:Ae} {X:Al} {b off:Nat} {V:TypeId} {pre aa:List Ac} {v:Ac} (m:TF P U sz agg zv) (e:Nat.blt d n = true) (hx:B2 σ x = some (.pointer (some ⟨b,off,none⟩))) (s:Sep w0.heap.size wS L) (f:Eo L i = some (A5 b V (pre ++ aa))) (g:To agg pre off sz = some v) (u:b ∉ X)
  (h:G v):∃ v,PR P n σ (KeepX wS X) d (.load U x) T v ∧ G v:=by
 obtain ⟨vs,h1,l⟩:=KO g
 exact OO m e hx s f (X8 h1) l u h
theorem YZ (i:Nat) {wS:Ae} {X:Al} {b k off o:Nat} {V:TypeId} {pre e:List Ac} {v:Ac} (s:TF P U sz agg zv) (f:Nat.blt d n = true) (hx:B2 σ x = some (.pointer (some ⟨b,off,none⟩))) (u:Sep w0.heap.size wS L) (g:Eo L i = some (A5 b V (pre ++ e))) (hk:pre.length = k) (ho:off = k + o) (l:To agg e o sz = some v) (hX:b ∉ X)
  (h:G v):∃ v,PR P n σ (KeepX wS X) d (.load U x) T v ∧ G v:=by
 subst ho
 obtain ⟨vs,h1,m⟩:=KO l
 exact OO s f hx u g (Wg hk h1) m hX h
theorem X5 {e:Ty P α} {F:Al} {v:Ac} {l:List α} {f:TypeId} (hu:P.underlying T = some (.slice f)) (ho:ownS e F w v l) (hl:l = [] → v = .slice none 0 0) (s:Nat.blt d n = true) (u:B2 σ x = some v) (hy:B2 σ y = some (.slice none 0 0))
  (h:WL P n ds rest ((d,.bool (!l.isEmpty)) :: σ) w Q):WL P n ds (⟨some d,.binOp .neq T x y U,TB,pos,af,none⟩ :: rest) σ w Q:=by
 have ae:∃ a k c,v = .slice a k c ∧ (!a.isNone) = !l.isEmpty:=by
  rcases ho with ⟨rfl,rfl,_⟩ | ⟨g,cap,ai,css,Fs,hv,_⟩
  ·exact ⟨none,0,0,rfl,rfl⟩
  ·subst hv
   cases l with
   | nil=>cases hl rfl
   | cons a l=>exact ⟨_,_,_,rfl,rfl⟩
 obtain ⟨a,k,c,rfl,e1⟩:=ae
 refine Cx s (fun ρ m=>?_) h
 rw [← e1]
 simp [execOp,m _ _ u,m _ _ hy,eqGuard,run_neq_slice_nil _ T f a k c hu]
end
end
end Go.Proofs.YtellehgihceicaaGreatDoor
namespace Go.Proofs.YtellehgihceicaaGreatDoor
open Go Go.RowKit
section
variable {P:Program} {α:Type} {n:Nat} {σ:E1} {S:Ae → Prop} {Q:Exit → Act → Ae → Prop} {w w0 wS:Ae} {ops:List Oper} {fuel:Nat} {li:List Bool} {L:List Res} {X:Al} {d:Nat} {op:Op} {T U:TypeId} {pos:String} {af:Array Edge} {ds:List (Af Tmp)} {rest:List Oper} {x y z:Operand} {G:Ac → Prop} {sz:Nat} {agg:Bool} {zv:Ac}
theorem AZ (i:Nat) {g:Nat} {s:Tmp} {b want:Bool} (e:(ops[i]?,(ops.map (·.dst))[g]?,Gv σ s) = (some ⟨some d,op,T,pos,af,some (g,want)⟩,some (some s),some (.bool b))) (l:IX Q) (m:b = !want) (v:S w) (h:WH P n ops S fuel (li.set i true) ((d,undef) :: σ) w Q)
  (hs:Region.noSelect ops.toArray = true:=by kernel_rfl) (u:Region.free .any ops.toArray li.toArray i = true:=by kernel_rfl) (hr:(Region.ready .any ops.toArray li.toArray).contains i = true:=by kernel_rfl) (f:Nat.blt d n = true:=by kernel_rfl):WH P n ops S (fuel + 1) li σ w Q :=
 Adr (Prod.mk.inj e).1 hs u hr l (Prod.mk.inj (Prod.mk.inj e).2).1 (Prod.mk.inj (Prod.mk.inj e).2).2 m f v h
theorem E3 (i:Nat) {g:Nat} {s:Tmp} {want:Bool} (e:(ops[i]?,(ops.map (·.dst))[g]?,Gv σ s) = (some ⟨some d,op,T,pos,af,some (g,want)⟩,some (some s),some undef)) (l:IX Q) (u:S w) (h:WH P n ops S fuel (li.set i true) ((d,undef) :: σ) w Q)
  (v:Region.noSelect ops.toArray = true:=by kernel_rfl) (m:Region.free .any ops.toArray li.toArray i = true:=by kernel_rfl) (hr:(Region.ready .any ops.toArray li.toArray).contains i = true:=by kernel_rfl) (f:Nat.blt d n = true:=by kernel_rfl):WH P n ops S (fuel + 1) li σ w Q :=
 Ab8 (Prod.mk.inj e).1 v m hr l (Prod.mk.inj (Prod.mk.inj e).2).1 (Prod.mk.inj (Prod.mk.inj e).2).2 f u h
theorem BF (i:Nat) {g:Nat} {s:Tmp} {b want:Bool} (e:(ops[i]?,(ops.map (·.dst))[g]?,Gv σ s) = (some ⟨some d,op,T,pos,af,some (g,want)⟩,some (some s),some (.bool b))) (f:IX Q) (l:b = want) (u:S w) (h:∃ v,PR P n σ S d op T v ∧ WH P n ops S fuel (li.set i true) ((d,v) :: σ) w Q)
  (hs:Region.noSelect ops.toArray = true:=by kernel_rfl) (m:Region.free .any ops.toArray li.toArray i = true:=by kernel_rfl) (hr:(Region.ready .any ops.toArray li.toArray).contains i = true:=by kernel_rfl):WH P n ops S (fuel + 1) li σ w Q :=
 ZD (Prod.mk.inj e).1 hs m hr f (Prod.mk.inj (Prod.mk.inj e).2).1 (Prod.mk.inj (Prod.mk.inj e).2).2 l u h
theorem Ba (h:∀ a,St n σ a → Q .normal a w) (e:Region.ready .any ops.toArray li.toArray = []:=by kernel_rfl):WH P n ops S fuel li σ w Q:=Ab9 e h
theorem Ax (i:Nat) {v:Ac} (e:(ops[i]?,Mh σ n d x) = (some ⟨some d,.move x,T,pos,af,none⟩,some v)) (f:IX Q) (l:S w) (h:WH P n ops S fuel (li.set i true) ((d,v) :: σ) w Q)
  (m:Region.noSelect ops.toArray = true:=by kernel_rfl) (g:Region.free .any ops.toArray li.toArray i = true:=by kernel_rfl) (s:(Region.ready .any ops.toArray li.toArray).contains i = true:=by kernel_rfl):WH P n ops S (fuel + 1) li σ w Q :=
 Ad i (Prod.mk.inj e).1 f l (Da (De (Prod.mk.inj e).2).1 (De (Prod.mk.inj e).2).2 h) m g s
theorem CQ (i:Nat) {b off:Nat} {V:TypeId} {cs:List Ac} {v:Ac} (g:TF P U sz agg zv) (f:Mh σ n d x = some (.pointer (some ⟨b,off,none⟩))) (l:Sep w0.heap.size wS L) (e:(Eo L i,To agg cs off sz) = (some (A5 b V cs),some v)) (m:b ∉ X)
  (h:G v):∃ v,PR P n σ (KeepX wS X) d (.load U x) T v ∧ G v:=by
 obtain ⟨vs,h1,s⟩:=KO (Prod.mk.inj e).2
 exact OO g (De f).1 (De f).2 l (Prod.mk.inj e).1 h1 s m h
theorem BL {S':Nat → Prop} {p:Addr} {cs:List Ac} {v:Ac} (g:TF P U sz agg zv) (e:Mh σ n d x = some (.pointer (some p))) (l:∀ w,S w → EAt S' w p cs) (f:To agg cs 0 sz = some v)
  (h:G v):∃ v,PR P n σ S d (.load U x) T v ∧ G v:=by
 obtain ⟨vs,h1,m⟩:=KO f
 exact YY g (De e).1 (De e).2 l h1 m h
theorem C9 {f o b off:Nat} (g:Fm P U f o = true) (e:Mh σ n d x = some (.pointer (some ⟨b,off,none⟩)))
  (h:G (.pointer (some ⟨b,off + o,none⟩))):∃ v,PR P n σ S d (.fieldAddr U x f) T v ∧ G v :=
 Aaa g (De e).1 (De e).2 rfl h
theorem wo {g:Nat} {s:Tmp} {b want:Bool} {op:Op} (e:(Nat.blt d n,ds[g]?,Gv σ s) = (true,some (some s),some (.bool b))) (f:b = !want)
  (h:WL P n ds rest ((d,undef) :: σ) w Q):WL P n ds (⟨some d,op,T,pos,af,some (g,want)⟩ :: rest) σ w Q :=
 Acb (Prod.mk.inj e).1 (Prod.mk.inj (Prod.mk.inj e).2).1 (Prod.mk.inj (Prod.mk.inj e).2).2 f h
theorem wn {g:Nat} {s:Tmp} {b want:Bool} {f:Af Tmp} {op:Op} (e:(ds[g]?,Gv σ s) = (some (some s),some (.bool b))) (l:b = want)
  (h:WL P n ds (⟨f,op,T,pos,af,none⟩ :: rest) σ w Q):WL P n ds (⟨f,op,T,pos,af,some (g,want)⟩ :: rest) σ w Q :=
 Adv (Prod.mk.inj e).1 (Prod.mk.inj e).2 l h
theorem Aq (k:Nat) {ops:List Oper} {σ':E1} (h:Zf n k ops σ = some ([],σ')) (e:∀ a,St n σ' a → Q .normal a w):WL P n ds ops σ w Q:=wp k h (Ah e)
theorem An (k:Nat) {id:Nat} {l:List Oper} {y:Code} {σ':E1} (h:Zf n k l σ = some ([],σ')) (f:W P n y σ' w Q):W P n (.seq (.region id l.toArray false) y) σ w Q :=
 Ak fun K e=>wp k h (Ah (e f))
theorem cm {f:FuncId} {e:Func} {c:Code} {g:List Ac} {w:Ae} {R:Ending → Ae → Prop} {n:Nat} {σ:E1}
  (s:P.funcs[f]? = some e) (m:e.ntmps = n) (l:(e.body,g.length + (n - g.length),σ) = (some c,n,g.zipIdx.map (fun p=>(p.2,p.1))))
  (h:∀ Q:Exit → Act → Ae → Prop,(∀ a w,bodyPost P e R .ret a w → Q .ret a w) → IX Q → Below w.heap.size w w → Sep w.heap.size w [] → W P n c σ w Q):Calls P f g.toArray w R :=
 G4 s (Prod.mk.inj l).1 m (Prod.mk.inj (Prod.mk.inj l).2).1 (Prod.mk.inj (Prod.mk.inj l).2).2 fun Q a b=>h Q a b (Below.refl _ _) (Sep.nil _ _)
theorem tm {u v:Ae} (h:Below w0.heap.size w0 u) (e:Below u.heap.size u v):Below w0.heap.size w0 v:=h.trans (e.mono h.size)
end
end Go.Proofs.YtellehgihceicaaGreatDoor
